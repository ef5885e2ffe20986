/- label, walked. -/
import Derived.Test.YtmmbonlidcbkcaaDoorMacA
import Derived.Deep.RegionHeld3
import Derived.Deep.MidRow
import Derived.Deep.Cut
import Derived.WalkMore
import Derived.Laws.RangeAny
import Derived.Laws.RangeString
import Derived.Outline
import Derived.ArgAppend
namespace Go.Proofs.YtmmbonlidcbkcaaDoor.LbC
open Go.RowKit Go.Proofs.YtmmbonlidcbkcaaDoorW.PrintWords Go.Proofs.YtmmbonlidcbkcaaDoor.Num Go.Proofs.YtmmbonlidcbkcaaDoor.Sha Go.Proofs.YtmmbonlidcbkcaaDoor.Hmac Go.Proofs.YtmmbonlidcbkcaaDoor.WordC Go.Proofs.YtmmbonlidcbkcaaDoor.Arr Go.Proofs.YtmmbonlidcbkcaaDoor.App Go.Proofs.YtmmbonlidcbkcaaDoor.DgC Go.Proofs.YtmmbonlidcbkcaaDoor.DgBlock Go.Proofs.YtmmbonlidcbkcaaDoor.DgState Go.Proofs.YtmmbonlidcbkcaaDoor.DgAdd Go.Proofs.YtmmbonlidcbkcaaDoor.DgSum Go.Proofs.YtmmbonlidcbkcaaDoor.DgOf Go.Proofs.YtmmbonlidcbkcaaDoor.DgCopy Go.Proofs.YtmmbonlidcbkcaaDoor.DgLaw Go.Proofs.YtmmbonlidcbkcaaDoor.DgWords Go.Proofs.YtmmbonlidcbkcaaDoor.DgParts Go.Proofs.YtmmbonlidcbkcaaDoor.RefOf Go.Proofs.YtmmbonlidcbkcaaDoor.MacC Go.Proofs.YtmmbonlidcbkcaaDoor.MacTag Go.Proofs.YtmmbonlidcbkcaaDoor.MacLaw Go.Proofs.YtmmbonlidcbkcaaDoor.MacAwake Go.Proofs.YtmmbonlidcbkcaaDoor.MacHold Go.Proofs.YtmmbonlidcbkcaaDoor.MacNew Go.Proofs.YtmmbonlidcbkcaaDoor.MacRef Go.Proofs.YtmmbonlidcbkcaaDoor.MacNil Go.Proofs.YtmmbonlidcbkcaaDoor.MacMany
set_option linter.unusedVariables false
set_option linter.unusedSimpArgs false

/-- A string's bytes. -/
def sB (s : ByteArray) : List Int := s.data.toList.map fun b => (b.toNat : Int)
theorem sB_length (s : ByteArray) : (sB s).length = s.size := by simp [sB]
theorem sB_isB (s : ByteArray) : IsB (sB s) := by
  intro x hx
  obtain ⟨b, _, rfl⟩ := List.mem_map.1 hx
  have := b.toNat_lt
  omega
theorem sB_getD (s : ByteArray) (i : Nat) (h : i < s.size) : (sB s).getD i 0 = ((s[i]'h).toNat : Int) := by
  have h' : i < s.data.toList.length := by simpa using h
  rw [List.getD_eq_getElem?_getD, sB, List.getElem?_map, List.getElem?_eq_getElem h']
  rfl
def fineI (x : Int) : Bool := decide (97 ≤ x) && decide (x ≤ 122)
theorem fineI_iff {x : Int} : fineI x = true ↔ 97 ≤ x ∧ x ≤ 122 := by simp [fineI]
/-- May a purpose and an epoch be? -/
def rightL (s : ByteArray) (e : Int) : Bool := decide (1 ≤ s.size) && decide (s.size ≤ 16) && decide (1 ≤ e) && decide (e ≤ 64) && (sB s).all fineI
theorem rightL_iff {s : ByteArray} {e : Int} : rightL s e = true ↔ 1 ≤ s.size ∧ s.size ≤ 16 ∧ 1 ≤ e ∧ e ≤ 64 ∧ ∀ i, i < s.size → 97 ≤ (sB s).getD i 0 ∧ (sB s).getD i 0 ≤ 122 := by
  have hall : (sB s).all fineI = true ↔ ∀ i, i < s.size → 97 ≤ (sB s).getD i 0 ∧ (sB s).getD i 0 ≤ 122 := by
    rw [List.all_eq_true]
    constructor
    · intro h i hi
      have hl := sB_length s
      have := h ((sB s)[i]'(by omega)) (List.getElem_mem _)
      rw [List.getD_eq_getElem?_getD, List.getElem?_eq_getElem (by omega)]
      exact fineI_iff.1 this
    · intro h x hx
      obtain ⟨i, hi, rfl⟩ := List.mem_iff_getElem.1 hx
      have := h i (by rw [← sB_length s]; exact hi)
      rw [List.getD_eq_getElem?_getD, List.getElem?_eq_getElem hi] at this
      exact fineI_iff.2 this
  unfold rightL
  rw [Bool.and_eq_true, hall]
  simp [and_assoc]
theorem rightL_no {s : ByteArray} {e : Int} (h : s.size < 1 ∨ 16 < s.size ∨ e < 1 ∨ 64 < e) : rightL s e = false := by
  rw [Bool.eq_false_iff]; intro hr; have := rightL_iff.1 hr; omega
theorem rightL_bad {s : ByteArray} {e : Int} (i : Nat) (hi : i < s.size) (h : ¬ (97 ≤ (sB s).getD i 0 ∧ (sB s).getD i 0 ≤ 122)) : rightL s e = false := by
  rw [Bool.eq_false_iff]; intro hr; exact h ((rightL_iff.1 hr).2.2.2.2 i hi)
theorem rune_at (s : ByteArray) (pos : Nat) (h : pos < s.size) : ((Utf8.decode s pos).1 = ((s[pos]'h).toNat) ∧ (Utf8.decode s pos).2 = 1 ∧ (s[pos]'h).toNat < 128) ∨ (128 ≤ (Utf8.decode s pos).1 ∧ 128 ≤ (s[pos]'h).toNat) := by
  rcases Nat.lt_or_ge (s[pos]'h).toNat 128 with ha | ha
  · left; rw [decode_ascii s pos h ha]; exact ⟨rfl, rfl, ha⟩
  · right; exact ⟨(decode_high s pos h ha).1, ha⟩
set_option maxHeartbeats 2000000 in
set_option maxRecDepth 100000 in
theorem right76_c {s : ByteArray} {e : Int} {w : World} :
    Calls Tryd.prog 76 #[.string s, .int .i64 e] w fun x w' => x = .returned (.bool (rightL s e)) ∧ Below w.heap.size w w' := by
  by_cases h1 : s.size < 1
  · have HR := Aside0.mk (rightL_no (e := e) (.inl h1))
    have b1 : ((s.size : Nat) : Int) < 1 := by omega
    go_enter Tryd.func76, Tryd.ntmps76
    go_wp2
    go_step3
    go_wp2
    (try rw [Exit.noGoto_ret])
    go_ret
    exact ⟨by rw [HR.out]; rfl, Below.refl _ _⟩
  · have b1 : ¬ ((s.size : Nat) : Int) < 1 := by omega
    by_cases h2 : 16 < s.size
    · have HR := Aside0.mk (rightL_no (e := e) (.inr (.inl h2)))
      have b2 : (16 : Int) < ((s.size : Nat) : Int) := by omega
      go_enter Tryd.func76, Tryd.ntmps76
      go_wp2
      go_step3
      go_wp2
      (try rw [Exit.noGoto_ret])
      go_ret
      exact ⟨by rw [HR.out]; rfl, Below.refl _ _⟩
    · have b2 : ¬ (16 : Int) < ((s.size : Nat) : Int) := by omega
      by_cases h3 : e < 1
      · have HR := Aside0.mk (rightL_no (s := s) (.inr (.inr (.inl h3))))
        go_enter Tryd.func76, Tryd.ntmps76
        go_wp2
        go_step3
        go_wp2
        (try rw [Exit.noGoto_ret])
        go_ret
        exact ⟨by rw [HR.out]; rfl, Below.refl _ _⟩
      · by_cases h4 : 64 < e
        · have HR := Aside0.mk (rightL_no (s := s) (.inr (.inr (.inr h4))))
          go_enter Tryd.func76, Tryd.ntmps76
          go_wp2
          go_step3
          go_wp2
          (try rw [Exit.noGoto_ret])
          go_ret
          exact ⟨by rw [HR.out]; rfl, Below.refl _ _⟩
        · have hs1 : 1 ≤ s.size := by omega
          have hs16 : s.size ≤ 16 := by omega
          have he1 : 1 ≤ e := by omega
          have he2 : e ≤ 64 := by omega
          have he0 : 0 ≤ e := by omega
          go_enter Tryd.func76, Tryd.ntmps76
          go_wp2
          go_step3
          go_wp2
          go_step3
          go_wp2
          go_loopw [5] (fun f wr => ∃ pos : Nat, pos ≤ s.size ∧ wr = w.iter s pos ∧ f = .bool true ∧ Aside0 (∀ i, i < pos → 97 ≤ (sB s).getD i 0 ∧ (sB s).getD i 0 ≤ 122)) (fun _ wr => s.size - wr.iterPos w.heap.size)
          case atStart => exact ⟨0, by omega, rfl, rfl, ⟨fun i hi => by omega⟩⟩
          case round =>
            obtain ⟨pos, hpos, rfl, rfl, hall⟩ := hrel
            by_cases hp : pos < s.size
            · have hnx : ∀ ty, (Instr.next (.pointer (some ⟨w.heap.size, 0, none⟩)) true ty).run Tryd.prog (w.iter s pos) = _ := fun ty => run_next_any w s pos ty hp
              have hg := sB_getD s pos hp
              have hru := rune_at s pos hp
              by_cases hgd : 97 ≤ (sB s).getD pos 0 ∧ (sB s).getD pos 0 ≤ 122
              · rw [hg] at hgd
                have hru' : (Utf8.decode s pos).1 = ((s[pos]'hp).toNat) ∧ (Utf8.decode s pos).2 = 1 := by
                  rcases hru with h | h
                  · exact ⟨h.1, h.2.1⟩
                  · omega
                rw [hru'.1, hru'.2] at hnx
                have q1 : ¬ ((s[pos]'hp).toNat : Int) < 97 := by omega
                have q2 : ¬ (122 : Int) < ((s[pos]'hp).toNat : Int) := by omega
                have HN : Aside0 (∀ i, i < pos + 1 → 97 ≤ (sB s).getD i 0 ∧ (sB s).getD i 0 ≤ 122) := ⟨fun i hi => by
                  rcases Nat.lt_or_ge i pos with h | h
                  · exact hall.out i h
                  · obtain rfl : i = pos := by omega
                    rw [hg]; exact hgd⟩
                clear hru hru' hg hgd
                generalize (s[pos]'hp).toNat = r at *
                go_wp2
                go_roundw
                case rel => exact ⟨pos + 1, by omega, rfl, rfl, HN⟩
                case measure => simp; omega
              · have HR := Aside0.mk (rightL_bad (e := e) pos hp hgd)
                rw [hg] at hgd
                have hrr : (Utf8.decode s pos).1 < 97 ∨ 122 < (Utf8.decode s pos).1 := by
                  rcases hru with h | h
                  · rw [h.1]; omega
                  · omega
                clear hru hg hgd
                generalize (Utf8.decode s pos).1 = r at *
                generalize (Utf8.decode s pos).2 = k at *
                by_cases hq : r < 97
                · have q1 : (r : Int) < 97 := by omega
                  clear hrr
                  go_wp2
                  (try rw [Exit.noGoto_ret])
                  go_ret
                  exact ⟨by rw [HR.out]; rfl, (Below.refl _ w).alloc (Nat.le_refl _) _⟩
                · have q1 : ¬ (r : Int) < 97 := by omega
                  have q2 : (122 : Int) < (r : Int) := by omega
                  clear hrr
                  go_wp2
                  (try rw [Exit.noGoto_ret])
                  go_ret
                  exact ⟨by rw [HR.out]; rfl, (Below.refl _ w).alloc (Nat.le_refl _) _⟩
            · have hnx : ∀ ty, (Instr.next (.pointer (some ⟨w.heap.size, 0, none⟩)) true ty).run Tryd.prog (w.iter s pos) = _ := fun ty => run_next_end w s pos ty hp
              have HR := Aside0.mk (rightL_iff.2 ⟨hs1, hs16, he1, he2, fun i hi => hall.out i (by omega)⟩)
              go_wp2
              (try rw [Exit.noGoto_ret])
              go_ret
              exact ⟨by rw [HR.out]; rfl, (Below.refl _ w).alloc (Nat.le_refl _) _⟩
set_option maxHeartbeats 2000000 in
set_option maxRecDepth 100000 in
theorem refRight65_c {s : ByteArray} {e : Int} {w : World} (hs : s.size ≤ maxLen) :
    Calls Tryd.prog 65 #[.string s, .int .i64 e] w fun x w' => x = .returned (.bool (rightL s e)) ∧ w' = w := by
  unfold maxLen at hs
  go_enter Tryd.func65, Tryd.ntmps65
  go_wp2
  go_loop [5] (fun i => ∃ j : Nat, j ≤ s.size ∧ i = .int .i64 j ∧ Aside0 (∀ i, i < j → 97 ≤ (sB s).getD i 0 ∧ (sB s).getD i 0 ≤ 122)) (fun i => s.size - (intOf i).toNat)
  case atStart => exact ⟨0, by omega, rfl, ⟨fun i hi => by omega⟩⟩
  case round =>
    obtain ⟨j, hj, rfl, hall⟩ := hrel
    by_cases hp : j < s.size
    · have hp' : (j : Int) < (s.size : Int) := by omega
      have hg := sB_getD s j hp
      by_cases hgd : 97 ≤ (sB s).getD j 0 ∧ (sB s).getD j 0 ≤ 122
      · have HN : Aside0 (∀ i, i < j + 1 → 97 ≤ (sB s).getD i 0 ∧ (sB s).getD i 0 ≤ 122) := ⟨fun i hi => by
          rcases Nat.lt_or_ge i j with h | h
          · exact hall.out i h
          · obtain rfl : i = j := by omega
            exact hgd⟩
        rw [hg] at hgd
        have q1 : ¬ ((s[j]'hp).toNat : Int) < 97 := by omega
        have q2 : ¬ (122 : Int) < ((s[j]'hp).toNat : Int) := by omega
        clear hg hgd
        go_wp2
        go_round
        case rel => exact ⟨j + 1, by omega, by go_num, HN⟩
        case measure => simp [intOf]; omega
      · have HR := Aside0.mk (rightL_bad (e := e) j hp hgd)
        rw [hg] at hgd
        clear hg
        by_cases hq : ((s[j]'hp).toNat : Int) < 97
        · clear hgd
          go_wp2
          go_ret
          exact ⟨by rw [HR.out]; rfl, rfl⟩
        · have q2 : (122 : Int) < ((s[j]'hp).toNat : Int) := by omega
          clear hgd
          go_wp2
          go_ret
          exact ⟨by rw [HR.out]; rfl, rfl⟩
    · have hp' : ¬ (j : Int) < (s.size : Int) := by omega
      have hall' : ∀ i, i < s.size → 97 ≤ (sB s).getD i 0 ∧ (sB s).getD i 0 ≤ 122 := fun i hi => hall.out i (by omega)
      by_cases c1 : 1 ≤ s.size
      · have d1 : (1 : Int) ≤ (s.size : Int) := by omega
        by_cases c2 : s.size ≤ 16
        · have d2 : (s.size : Int) ≤ 16 := by omega
          by_cases c3 : 1 ≤ e
          · by_cases c4 : e ≤ 64
            · have HR := Aside0.mk (rightL_iff.2 ⟨c1, c2, c3, c4, hall'⟩)
              clear hall'
              go_wp2
              go_ret
              exact ⟨by rw [HR.out]; rfl, rfl⟩
            · have HR := Aside0.mk (rightL_no (s := s) (e := e) (by omega))
              clear hall'
              go_wp2
              go_ret
              exact ⟨by rw [HR.out]; rfl, rfl⟩
          · have HR := Aside0.mk (rightL_no (s := s) (e := e) (by omega))
            clear hall'
            go_wp2
            go_ret
            exact ⟨by rw [HR.out]; rfl, rfl⟩
        · have d2 : ¬ (s.size : Int) ≤ 16 := by omega
          have HR := Aside0.mk (rightL_no (s := s) (e := e) (by omega))
          clear hall'
          go_wp2
          go_ret
          exact ⟨by rw [HR.out]; rfl, rfl⟩
      · have d1 : ¬ (1 : Int) ≤ (s.size : Int) := by omega
        have HR := Aside0.mk (rightL_no (s := s) (e := e) (by omega))
        clear hall'
        go_wp2
        go_ret
        exact ⟨by rw [HR.out]; rfl, rfl⟩
/-- Bytes of one's own with room behind them that may be written, whatever mark the row bears. -/
def Sp (w : World) (base : Nat) (v : Value) (l : List Int) : Prop :=
  ∃ g cap, v = .slice (some ⟨g, 0, none⟩) l.length cap ∧ base ≤ g ∧ g < w.heap.size ∧ l.length ≤ cap ∧ cap ≤ maxLen ∧ (∀ j u, (nums .u8 l)[j]? = some u → w.cell? ⟨g, 0 + j, none⟩ = some u) ∧ ∀ j, j < cap → (w.cell? ⟨g, j, none⟩).isSome = true ∧ w.frozen? ⟨g, j, none⟩ = false
theorem Sp.move {w w1 : World} {base : Nat} {v : Value} {l : List Int} (h : Sp w base v l) (hb : Below w.heap.size w w1) : Sp w1 base v l := by
  obtain ⟨g, cap, rfl, h1, h2, h3, h4, h5, h6⟩ := h
  refine ⟨g, cap, rfl, h1, Nat.lt_of_lt_of_le h2 hb.size, h3, h4, fun j u hj => ?_, fun j hj => ?_⟩
  · rw [hb.cell (p := ⟨g, 0 + j, none⟩) h2]; exact h5 j u hj
  · rw [hb.cell (p := ⟨g, j, none⟩) h2, hb.frozen (p := ⟨g, j, none⟩) h2]; exact h6 j hj
theorem Sp.rd {w : World} {base : Nat} {v : Value} {l : List Int} (h : Sp w base v l) : ∃ A c, v = .slice A l.length c ∧ Rd w A l.length c l := by
  obtain ⟨g, cap, rfl, h1, h2, h3, h4, h5, h6⟩ := h
  unfold maxLen at h4
  refine ⟨_, cap, rfl, rfl, h3, Kd.C_of_reads (enc := Value.int .u8) (d := (0 : Int)) (h1 := fun _ => rfl) ⟨rfl, by omega, fun hp => ⟨_, rfl, fun j hj => ?_⟩⟩⟩
  rw [add_plain]
  have := h5 j _ (nums_get .u8 l j hj)
  rwa [Nat.zero_add] at this
theorem below_setCells {B g : Nat} {w0 : World} (hg : B ≤ g) : ∀ (vs : List Value) (o : Nat) (W : World), Below B w0 W → Below B w0 (W.setCells g o vs)
  | [], _, _, h => h
  | v :: vs, o, W, h => below_setCells hg vs (o + 1) _ (h.setCell (p := ⟨g, o, none⟩) hg v)
theorem sp_conv (w : World) (s : ByteArray) (hs : s.size ≤ maxLen) : Sp (Lib.bytesWorld w 5 s) w.heap.size (.slice (some ⟨w.heap.size, 0, none⟩) s.size (grownCap w s.size 0 5)) (sB s) := by
  have hge := grownCap_ge w s.size 0 5
  have hsz : (Lib.bytesCells w 5 s).size = grownCap w s.size 0 5 := by simp [Lib.bytesCells]; omega
  have hnew := Lib.bytesWorld_at_new w 5 s
  refine ⟨w.heap.size, grownCap w s.size 0 5, by rw [sB_length], Nat.le_refl _, by rw [Lib.bytesWorld_size]; omega, by rw [sB_length]; exact hge, grownCap_le_maxLen w s.size 0 5 hs, fun j u hj => ?_, fun j hj => ?_⟩
  · have hjl : j < s.size := by have := (List.getElem?_eq_some_iff.1 hj).1; rw [nums_length, sB_length] at this; exact this
    rw [Nat.zero_add, Lib.bytesWorld_cell w 5 s j hjl]
    rw [nums_get .u8 (sB s) j (by rw [sB_length]; exact hjl)] at hj
    injection hj with hj
    rw [← hj, sB_getD s j hjl]
    have h' : j < s.data.toList.length := by simpa using hjl
    rw [List.getD_eq_getElem?_getD, List.getElem?_eq_getElem h']
    rfl
  · refine ⟨?_, ?_⟩
    · simp only [World.cell?, hnew]
      simp; omega
    · simp only [World.frozen?, hnew]
      simp; omega
theorem below_conv (w : World) (s : ByteArray) : Below w.heap.size w (Lib.bytesWorld w 5 s) := bytes_below (Below.refl _ _) (Nat.le_refl _) 5 s
theorem append_sp {ops : Array Oper} {rest : List Oper} {o : Oper} {a : Act} {Q : Exit → Act → World → Prop} {w0 W : World} (base : Nat) (hgd : o.guard = none) (s x : Operand)
    (ho : o.op = .call { callee := .builtin .append, args := #[s, x], argTypes := #[22, 22] })
    (v : Value) (xs ys : List Int) (A : Option Addr) (m c : Nat) (hs : a.eval s = v) (hx : a.eval x = .slice A m c) (hm : 0 < m)
    (HO : Sp W base v xs) (HR : Rd W A m c ys) (HB : Below base w0 W) (hbase : base ≤ W.heap.size) (hl : xs.length + m ≤ 140737488355328)
    (h : ∀ v1 w1, Sp w1 base v1 (xs ++ ys) → Below base w0 w1 → wpList Tryd.prog ops Q rest (a.put o.dst v1) w1) :
    wpList Tryd.prog ops Q (o :: rest) a W := by
  obtain ⟨g, cap, rfl, h1, h2, h3, h4, h5, h6⟩ := HO
  obtain ⟨ad, rfl, hcell⟩ := rd_cells HR hm
  obtain ⟨i, hi, hz, hsz, hby⟩ : ∃ i, Tryd.prog.info? 5 = some i ∧ i.zero = some (.int .u8 0) ∧ i.size = 1 ∧ i.bytes = 1 := by
    obtain ⟨i, hi, e⟩ := Option.map_eq_some_iff.1 infoB
    injection e with e1 e2
    injection e2 with e2 e3
    exact ⟨i, hi, e1, e2, e3⟩
  have hlen := HR.len
  have hcap := h4
  unfold maxLen at hcap
  refine wpList_append_arg W hgd s x 22 ho 5 i (.int .u8 0) 1 1 Tryd.underlying22 hi hz hsz hby rfl (by decide) g 0 xs.length cap (nums .u8 xs) hs (by rw [nums_length]; omega) h5 ad m c (nums .u8 ys) hx (by rw [nums_length]; omega) hcell (nums_one _ _)
    (fun hr j hj => ?_) (by unfold maxLen; omega) (by omega) (fun hr => ?_) (fun hr v' w' hown hg => ?_)
  · rw [nums_length] at hj
    have := h6 (xs.length + j) (by omega)
    rw [show 0 + xs.length * 1 + j = xs.length + j by omega]; exact this
  · refine h _ _ ⟨g, cap, by rw [List.length_append, hlen], h1, ?_, by rw [List.length_append, hlen]; exact hr, h4, fun j u hj => ?_, fun j hj => ⟨World.isSome_setCells _ _ _ _ _ (h6 j hj).1, by rw [World.frozen?_setCells]; exact (h6 j hj).2⟩⟩ (below_setCells h1 _ _ _ HB)
    · exact Nat.lt_of_lt_of_le h2 (below_setCells (Nat.zero_le g) _ _ _ (Below.refl 0 W)).size
    · have hap : nums .u8 (xs ++ ys) = nums .u8 xs ++ nums .u8 ys := by simp [nums]
      rw [hap] at hj
      rcases Nat.lt_or_ge j xs.length with hjl | hjl
      · rw [World.cell?_setCells_out g _ _ _ _ (fun _ _ => Or.inl (by show 0 + j < 0 + xs.length * 1; omega))]
        rw [List.getElem?_append_left (by rw [nums_length]; exact hjl)] at hj
        exact h5 j u hj
      · rw [List.getElem?_append_right (by rw [nums_length]; exact hjl), nums_length] at hj
        obtain ⟨hj1, hj2⟩ := List.getElem?_eq_some_iff.1 hj
        have := World.cell?_setCells_in g (nums .u8 ys) (0 + xs.length * 1) W (fun k hk => by
          rw [nums_length] at hk
          rw [show 0 + xs.length * 1 + k = xs.length + k by omega]
          exact (h6 (xs.length + k) (by omega)).1) (j - xs.length) hj1
        rw [hj2, show 0 + xs.length * 1 + (j - xs.length) = 0 + j by omega] at this
        exact this
  · obtain ⟨hl1, hl2⟩ := hown
    rcases hl2 with ⟨_, h0⟩ | ⟨g', cap', cur, rfl, hb', hg', hc1, hc2, hc3, hc4⟩
    · omega
    · refine h _ _ ⟨g', cap', by rw [List.length_append, hlen], by omega, (Array.getElem?_eq_some_iff.1 hg').1, by rw [List.length_append, hlen]; exact hc1, hc2, fun j u hj => ?_, fun j hj => ⟨?_, ?_⟩⟩ (HB.grown hg hbase (fun k hk => by cases hk))
      · have hap : nums .u8 (xs ++ ys) = nums .u8 xs ++ nums .u8 ys := by simp [nums]
        rw [hap, ← hc4, List.getElem?_take] at hj
        rw [Nat.zero_add, cell_of_row _ g' j cur 5 (0, 0) hg']
        split at hj
        · simpa using hj
        · cases hj
      · rw [cell_of_row _ g' j cur 5 (0, 0) hg']
        simp; omega
      · exact frozen_of_row _ g' j cur 5 hg'
/-- What is tagged for a purpose and an epoch. -/
def textS (s : ByteArray) (e : Int) : List Int := sB s ++ [0] ++ told 8 e
theorem textS_length (s : ByteArray) (e : Int) : (textS s e).length = s.size + 9 := by simp [textS, sB_length, told_length]
theorem textS_isB (s : ByteArray) (e : Int) : IsB (textS s e) := isB_append (isB_append (sB_isB s) (fun x hx => by rw [List.mem_singleton.1 hx]; omega)) (told_isB 8 e)
set_option maxHeartbeats 2000000 in
set_option maxRecDepth 100000 in
theorem Text77_c {s : ByteArray} {e : Int} {w : World} (hs : s.size ≤ 16) (he1 : 1 ≤ e) (he2 : e ≤ 64) :
    Calls Tryd.prog 77 #[.string s, .int .i64 e] w fun x w' => ∃ A c, x = .returned (.slice A (s.size + 9) c) ∧ Rd w' A (s.size + 9) c (textS s e) ∧ Below w.heap.size w w' := by
  have kb := fun W => print_bytes (P := Tryd.prog) 9 22 5 Tryd.underlying9 Tryd.underlying22 Tryd.underlying5 s W
  have HS0 := Aside0.mk (sp_conv w s (by unfold maxLen; omega))
  have hb0 := below_conv w s
  have htl := told_length 8 e
  have htS : Aside0 (sB s ++ [0] ++ told 8 e = textS s e) := ⟨rfl⟩
  obtain ⟨X, HX⟩ : ∃ X, Aside0 (told 8 e = X) := ⟨_, ⟨rfl⟩⟩
  rw [HX.out] at htl htS
  have HXL := Aside0.mk htl
  have HSL := Aside0.mk (sB_length s)
  have HTL := Aside0.mk (textS_length s e)
  clear htl
  go_enter Tryd.func77, Tryd.ntmps77
  go_wp2_with (first
    | (at_builtin; refine append_sp (w0 := w) w.heap.size rfl (.tmp 6) (.tmp 7) rfl _ (sB s) [0] (some ⟨(Lib.bytesWorld w 5 s).heap.size, 0, none⟩) 1 1 rfl rfl (by omega) (HS0.out.move ((Below.refl _ _).alloc (Nat.le_refl _) _)) (rd_const (Lib.bytesWorld w 5 s) [0] (0, 0) (by simp)) (hb0.alloc hb0.size _) (by have := hb0.size; simp; omega) (by rw [HSL.out]; omega) ?_; intro v1 w1 h1 hb1; have H1 := Aside0.mk h1; clear h1))
  refine (Told_c (by omega) (by omega) 8 (by omega) rfl).mono ?_
  rintro x w2 ⟨v2, rfl, ho2, hb2⟩
  rw [HX.out] at ho2
  obtain ⟨A2, c2, rfl, r2⟩ := rd_of_own ho2
  rw [HXL.out] at r2 ⊢
  have H2 := Aside0.mk (H1.out.move hb2)
  have hB2 := below_next hb1 hb2
  clear ho2 H1
  go_wp2_with (first
    | (at_builtin; refine append_sp (w0 := w) w.heap.size rfl (.tmp 8) (.tmp 11) rfl v1 (sB s ++ [0]) X A2 8 c2 rfl rfl (by omega) H2.out r2 hB2 hB2.size (by rw [List.length_append, HSL.out, List.length_singleton]; omega) ?_; intro v3 w3 h3 hb3; rw [htS.out] at h3; obtain ⟨A3, c3, rfl, r3⟩ := h3.rd; rw [HTL.out] at r3 ⊢; have R3 := Aside0.mk r3; clear h3 r3))
  go_ret
  exact ⟨A3, c3, rfl, R3.out, hb3⟩
set_option maxHeartbeats 1000000 in
theorem own48_c {A : Option Addr} {n c : Nat} {l : List Int} {w : World} (hr : Rd w A n c l) (hn : n ≤ 140737488351232) :
    Calls Tryd.prog 48 #[.slice A n c] w fun e w' => ∃ v, e = .returned v ∧ Ow w' w.heap.size v l ∧ Below w.heap.size w w' := by
  have hrA := hr.alloc (.cells #[] 5)
  have hbE : Below w.heap.size w (w.alloc (.cells #[] 5)) := (Below.refl _ _).alloc (Nat.le_refl _) _
  go_enter Tryd.func48, Tryd.ntmps48
  go_wp2_with (first
    | (at_builtin; refine append_ow (w0 := w) w.heap.size rfl (.tmp 3) (.tmp 4) rfl (.slice (some ⟨w.heap.size, 0, none⟩) 0 0) [] l A n c rfl rfl (ow_empty w _ (Nat.le_refl _)) hrA hbE (by simp) (by simp; omega) ?_; intro v1 w1 ho1 hb1 hx1 hy1; clear hx1 hy1; rw [List.nil_append] at ho1; have HO := Aside0.mk ho1; clear ho1))
  go_ret
  exact ⟨_, rfl, HO.out, hb1⟩
theorem pt_three {w : World} {A A' A'' : Option Addr} {n c n' c' n'' c'' : Nat} {l l' l'' : List Int} (h : Rd w A n c l) (h' : Rd w A' n' c' l') (h'' : Rd w A'' n'' c'' l'') : Pt (w.alloc (.cells #[.slice A n c, .slice A' n' c', .slice A'' n'' c''] 22)) (some ⟨w.heap.size, 0, none⟩) 3 3 [l, l', l''] := by
  refine pt_blk (t := 22) (cs := [.slice A n c, .slice A' n' c', .slice A'' n'' c'']) (heap_alloc_new _ _) rfl (by omega) (fun i hi => ?_)
  obtain rfl := h.len
  obtain rfl := h'.len
  obtain rfl := h''.len
  have : i = 0 ∨ i = 1 ∨ i = 2 := by omega
  rcases this with rfl | rfl | rfl
  · exact ⟨A, c, rfl, h.alloc _⟩
  · exact ⟨A', c', rfl, h'.alloc _⟩
  · exact ⟨A'', c'', rfl, h''.alloc _⟩
theorem isB_three {l l' l'' : List Int} (h : IsB l) (h' : IsB l') (h'' : IsB l'') : ∀ x ∈ [l, l', l''], IsB x := by
  intro x hx
  simp only [List.mem_cons, List.not_mem_nil, or_false] at hx
  rcases hx with rfl | rfl | rfl
  · exact h
  · exact h'
  · exact h''
theorem flat_three (l l' l'' : List Int) : [l, l', l''].flatten = l ++ l' ++ l'' := by simp
theorem tag38_3 {A B C D : Option Addr} {n c m d p q p' q' k : Nat} {key l l' l'' : List Int} {w : World} (hk : k = w.heap.size) (hr : Rd w A n c key) (hB : IsB key) (hn : n ≤ 140737488351232) (hr' : Rd w B m d l) (hr2 : Rd w C p q l') (hr3 : Rd w D p' q' l'') (hI : IsB l) (hI' : IsB l') (hI'' : IsB l'') (hl : m + p + p' ≤ 140737488350000) (ht : Tb w) :
    Calls Tryd.prog 38 #[.slice A n c, .slice (some ⟨k, 0, none⟩) 3 3] (w.alloc (.cells #[.slice B m d, .slice C p q, .slice D p' q'] 22)) fun e w' => e = .returned (.agg (nums .u8 (tagS key (l ++ l' ++ l''))).toArray) ∧ Below w.heap.size w w' := by
  subst hk
  have hb0 : Below w.heap.size w (w.alloc (.cells #[.slice B m d, .slice C p q, .slice D p' q'] 22)) := (Below.refl _ w).alloc (Nat.le_refl _) _
  refine (tag38_c (hr.below hb0) hB hn (pt_three hr' hr2 hr3) (isB_three hI hI' hI'') (by rw [flat_three, List.length_append, List.length_append, hr'.len, hr2.len, hr3.len]; omega) (ht.below hb0)).mono ?_
  rintro e w' ⟨rfl, hb⟩
  rw [flat_three]
  exact ⟨rfl, hb0.trans (hb.mono (by simp))⟩
set_option maxHeartbeats 2000000 in
set_option maxRecDepth 100000 in
theorem Key49_no {A : Option Addr} {n c : Nat} {s : ByteArray} {e : Int} {w : World} (h : n ≠ 32 ∨ rightL s e = false) :
    Calls Tryd.prog 49 #[.slice A n c, .string s, .int .i64 e] w fun x w' => x = .returned (.tuple #[.slice none 0 0, .int .i64 1]) ∧ Below w.heap.size w w' := by
  by_cases hn : n = 32
  · subst hn
    have hr : rightL s e = false := h.resolve_left (by simp)
    have HR := Aside0.mk hr
    clear h hr
    go_enter Tryd.func49, Tryd.ntmps49
    go_wp2_with fail
    refine right76_c.mono ?_
    rintro x w1 ⟨rfl, hb1⟩
    rw [HR.out]
    go_wp2_with fail
    go_ret2
    exact ⟨rfl, hb1⟩
  · have hne : ¬ (n : Int) = 32 := by omega
    have hq : ((n : Int) == 32) = false := by simp; omega
    have hq2 : ((n : Int) != 32) = true := by simp; omega
    clear h
    go_enter Tryd.func49, Tryd.ntmps49
    go_wp2_with fail
    go_ret2
    exact ⟨rfl, Below.refl _ _⟩
set_option maxHeartbeats 4000000 in
set_option maxRecDepth 100000 in
theorem Key49_yes {A : Option Addr} {c : Nat} {l : List Int} {s : ByteArray} {e : Int} {w : World} (hr : Rd w A 32 c l) (hB : IsB l) (h : rightL s e = true) (ht : Tb w) :
    Calls Tryd.prog 49 #[.slice A 32 c, .string s, .int .i64 e] w fun x w' => ∃ g, x = .returned (.tuple #[.slice (some ⟨g, 0, none⟩) 32 32, .int .i64 0]) ∧ Blk w' g 27 (nums .u8 (tagS l (textS s e))) ∧ w.heap.size ≤ g ∧ Below w.heap.size w w' := by
  obtain ⟨hs1, hs16, he1, he2, _⟩ := rightL_iff.1 h
  have kb := fun W => print_bytes (P := Tryd.prog) 9 22 5 Tryd.underlying9 Tryd.underlying22 Tryd.underlying5 s W
  have HR := Aside0.mk h
  have htl := told_length 8 e
  have htI := told_isB 8 e
  have htS : Aside0 (sB s ++ [0] ++ told 8 e = textS s e) := ⟨rfl⟩
  obtain ⟨X, HX⟩ : ∃ X, Aside0 (told 8 e = X) := ⟨_, ⟨rfl⟩⟩
  rw [HX.out] at htl htI htS
  have HXL := Aside0.mk htl
  have hT := tagS_length l (textS s e)
  obtain ⟨T, HT⟩ : ∃ T, Aside0 (tagS l (textS s e) = T) := ⟨_, ⟨rfl⟩⟩
  rw [HT.out] at hT
  have HTL := Aside0.mk hT
  have hI0 : IsB [0] := fun x hx => by rw [List.mem_singleton.1 hx]; omega
  have HI0 := Aside0.mk hI0
  clear h htl hT hI0
  go_enter Tryd.func49, Tryd.ntmps49
  go_wp2_with fail
  refine right76_c.mono ?_
  rintro x w1 ⟨rfl, hb1⟩
  rw [HR.out]
  have HS1 := Aside0.mk (sp_conv w1 s (by unfold maxLen; omega))
  have hb2 := below_conv w1 s
  have hB2 := below_next hb1 hb2
  have hb3 : Below w1.heap.size w1 ((Lib.bytesWorld w1 5 s).alloc (.cells #[.int .u8 0] 5)) := hb2.alloc hb2.size _
  have hB3 := below_next hb1 hb3
  have hba : Below (Lib.bytesWorld w1 5 s).heap.size (Lib.bytesWorld w1 5 s) ((Lib.bytesWorld w1 5 s).alloc (.cells #[.int .u8 0] 5)) := (Below.refl _ _).alloc (Nat.le_refl _) _
  obtain ⟨A1, c1, e1, r1⟩ := (HS1.out.move hba).rd
  rw [sB_length] at e1 r1
  have R1 := Aside0.mk r1
  have E1 := Aside0.mk e1
  have R2 := Aside0.mk (rd_const (Lib.bytesWorld w1 5 s) [0] (0, 0) (by simp))
  clear r1 e1 hba
  go_wp2_with fail
  refine (Tell_c (by omega) (by omega)).mono ?_
  rintro x w4 ⟨v4, rfl, ho4, hb4⟩
  rw [HX.out] at ho4
  obtain ⟨A4, c4, rfl, r4⟩ := rd_of_own ho4
  rw [HXL.out] at r4 ⊢
  clear ho4
  have hB4 := below_next hB3 hb4
  have r1' := R1.out.below hb4
  have r2' := R2.out.below hb4
  rw [E1.out]
  clear R1 R2 hb3 hb2
  go_wp2_with fail
  refine (tag38_3 (k := w4.heap.size) rfl (hr.below hB4) hB (by omega) r1' r2' r4 (sB_isB s) HI0.out htI (by simp; omega) (ht.below hB4)).mono ?_
  rintro x w5 ⟨rfl, hb5⟩
  rw [htS.out, HT.out]
  have hB5 := below_next hB4 hb5
  clear r1' r2' r4
  go_wp2_with (first
    | (refine store_arr rfl 27 (.tmp 8) (.tmp 26) rfl w5.heap.size .u8 T rfl rfl 27 32 _ (heap_alloc_new _ _) size27 HTL.out rfl ?_; intro w6 hO6 hg6; have hB6 := (hB5.alloc hB5.size _).grown hg6 (Nat.le_trans hB5.size (by simp)) (fun k hk => by cases hk; exact hB5.size); have HO6 := Aside0.mk hO6; clear hO6))
  go_ret2
  exact ⟨_, rfl, by rw [HT.out]; exact HO6.out, hB5.size, hB6⟩
set_option maxHeartbeats 2000000 in
set_option maxRecDepth 100000 in
theorem refKey50_no {A : Option Addr} {n c : Nat} {s : ByteArray} {e : Int} {w : World} (hs : s.size ≤ maxLen) (h : n ≠ 32 ∨ rightL s e = false) :
    Calls Tryd.prog 50 #[.slice A n c, .string s, .int .i64 e] w fun x w' => x = .returned (.tuple #[.slice none 0 0, .int .i64 1]) ∧ w' = w := by
  by_cases hn : n = 32
  · subst hn
    have hr : rightL s e = false := h.resolve_left (by simp)
    have HR := Aside0.mk hr
    clear h hr
    go_enter Tryd.func50, Tryd.ntmps50
    go_wp2_with fail
    refine (refRight65_c hs).mono ?_
    rintro x w1 ⟨rfl, rfl⟩
    rw [HR.out]
    go_wp2_with fail
    go_ret2
    exact ⟨rfl, rfl⟩
  · have hne : ¬ (n : Int) = 32 := by omega
    have hq : ((n : Int) == 32) = false := by simp; omega
    have hq2 : ((n : Int) != 32) = true := by simp; omega
    clear h
    go_enter Tryd.func50, Tryd.ntmps50
    go_wp2_with fail
    go_ret2
    exact ⟨rfl, rfl⟩
set_option maxHeartbeats 4000000 in
set_option maxRecDepth 100000 in
theorem refKey50_yes {A : Option Addr} {c : Nat} {l : List Int} {s : ByteArray} {e : Int} {w : World} (hr : Rd w A 32 c l) (hB : IsB l) (h : rightL s e = true) :
    Calls Tryd.prog 50 #[.slice A 32 c, .string s, .int .i64 e] w fun x w' => ∃ A' c', x = .returned (.tuple #[.slice A' 32 c', .int .i64 0]) ∧ Rd w' A' 32 c' (tagS l (textS s e)) ∧ Below w.heap.size w w' := by
  obtain ⟨hs1, hs16, he1, he2, _⟩ := rightL_iff.1 h
  have HR := Aside0.mk h
  have hT := tagS_length l (textS s e)
  have hXI := textS_isB s e
  clear h
  go_enter Tryd.func50, Tryd.ntmps50
  go_wp2_with fail
  refine (refRight65_c (by unfold maxLen; omega)).mono ?_
  rintro x w1 ⟨rfl, rfl⟩
  rw [HR.out]
  go_wp2_with fail
  refine (Text77_c hs16 he1 he2).mono ?_
  rintro x w2 ⟨A2, c2, rfl, r2, hb2⟩
  go_wp2_with fail
  refine (reftag36_c (hr.below hb2) hB (by omega) r2 hXI (by omega)).mono ?_
  rintro x w3 ⟨v3, rfl, ho3, hb3⟩
  obtain ⟨A3, c3, rfl, r3⟩ := rd_of_own ho3
  rw [hT] at r3 ⊢
  have R3 := Aside0.mk r3
  have hB3 := below_next hb2 hb3
  clear ho3 r3 r2 hT
  go_wp2_with fail
  go_ret2
  exact ⟨A3, c3, rfl, R3.out, hB3⟩
end Go.Proofs.YtmmbonlidcbkcaaDoor.LbC
