/- Merged out of DgC, DgWords, DgBlock, DgState, DgAdd, DgSum, DgOf, DgCopy, RefBlock, RefOf, DgLaw, DgParts, DgEq. -/
import Derived.Test.YtmmbonlidcbkcaaDoorPlainLabelRings
import Derived.Test.YtmmbonlidcbkcaaDoorApp
import Derived.Test.YtmmbonlidcbkcaaDoorSha
import Derived.Deep.RegionHeld3
import Derived.Outline
import Derived.Lib.LaidTab
import Derived.Deep.LoopGhost
import Derived.Deep.RegionLaw
import Derived.Deep.Cut
import Derived.Lib.SlBytesConst
import Derived.ChangeKeysEq
/- Contracts of the leaves of the digest. -/
namespace Go.Proofs.YtmmbonlidcbkcaaDoor.DgC
open Go.RowKit Go.Proofs.YtmmbonlidcbkcaaDoorW.PrintWords Go.Proofs.YtmmbonlidcbkcaaDoor.Num Go.Proofs.YtmmbonlidcbkcaaDoor.Sha Go.Proofs.YtmmbonlidcbkcaaDoor.WordC Go.Proofs.YtmmbonlidcbkcaaDoor.Arr Go.Proofs.YtmmbonlidcbkcaaDoor.App
set_option linter.unusedVariables false

theorem Load_c {A : Option Addr} {n c : Nat} {l : List Int} {w : World} (hr : Rd w A n c l) (hb : IsB l) (low : Bool) :
    Calls Tryd.prog 90 #[.slice A n c, .bool low] w fun e w' => e = .returned (.tuple #[.int .u32 (loadW l low).1, .int .i64 (loadW l low).2]) ∧ Drawn0 w w' := by
  obtain ⟨rfl, hc, hC⟩ := hr
  exact PLabelRings.word_Load.calls 5 A c l low _ _ w hC hc (PlainLabelRings.Load_eq l hb low 5 (by omega))
theorem late_c {a : Int} {w : World} (h0 : 0 ≤ a) (h1 : a < 4294967296) : Calls Tryd.prog 91 #[.int .u32 a] w fun e w' => e = .returned (.int .u32 (lateS a)) ∧ Drawn0 w w' := PLabelRings.digest_late.calls a _ w (PlainLabelRings.late_eq a h0 h1)
theorem early_c {a : Int} {w : World} (h0 : 0 ≤ a) (h1 : a < 4294967296) : Calls Tryd.prog 92 #[.int .u32 a] w fun e w' => e = .returned (.int .u32 (earlyS a)) ∧ Drawn0 w w' := PLabelRings.digest_early.calls a _ w (PlainLabelRings.early_eq a h0 h1)
theorem high_c {a : Int} {w : World} (h0 : 0 ≤ a) (h1 : a < 4294967296) : Calls Tryd.prog 85 #[.int .u32 a] w fun e w' => e = .returned (.int .u32 (highS a)) ∧ Drawn0 w w' := PLabelRings.digest_high.calls a _ w (PlainLabelRings.high_eq a h0 h1)
theorem low_c {a : Int} {w : World} (h0 : 0 ≤ a) (h1 : a < 4294967296) : Calls Tryd.prog 86 #[.int .u32 a] w fun e w' => e = .returned (.int .u32 (lowS a)) ∧ Drawn0 w w' := PLabelRings.digest_low.calls a _ w (PlainLabelRings.low_eq a h0 h1)
theorem Store_c {a : Int} {w : World} (h0 : 0 ≤ a) (h1 : a < 4294967296) (low : Bool) :
    Calls Tryd.prog 71 #[.int .u32 a, .bool low] w fun e w' => ∃ v, e = .returned v ∧ Ow w' w.heap.size v (storeW a low) ∧ Below w.heap.size w w' :=
  PLabelRings.word_Store.calls 5 a low _ w (PlainLabelRings.Store_eq a h0 h1 low 5 (by omega))
theorem refStore_c {a : Int} {w : World} (h0 : 0 ≤ a) (h1 : a < 4294967296) (low : Bool) :
    Calls Tryd.prog 68 #[.int .u32 a, .bool low] w fun e w' => ∃ v, e = .returned v ∧ Ow w' w.heap.size v (storeW a low) ∧ Below w.heap.size w w' :=
  PLabelRings.hypogeumref01_Store.calls 2002 a low _ w (PlainLabelRings.refStore_eq a h0 h1 low 2002 (by omega))
theorem Tell_c {a : Int} {w : World} (h0 : 0 ≤ a) (h1 : a < 18446744073709551616) :
    Calls Tryd.prog 70 #[.int .u64 a] w fun e w' => ∃ v, e = .returned v ∧ Ow w' w.heap.size v (told 8 a) ∧ Below w.heap.size w w' :=
  PLabelRings.word_Tell.calls 9 a _ w (PlainLabelRings.Tell_eq a h0 h1 9 (by omega))
theorem Told_c {a : Int} {w : World} (h0 : 0 ≤ a) (h1 : a < 18446744073709551616) (sz : Nat) (hs : sz ≤ 1000) {z : Int} (hz : z = sz) :
    Calls Tryd.prog 47 #[.int .u64 a, .int .i64 z] w fun e w' => ∃ v, e = .returned v ∧ Ow w' w.heap.size v (told sz a) ∧ Below w.heap.size w w' := by
  subst hz
  exact PLabelRings.hypogeumref01_Told.calls 2002 a sz _ w (PlainLabelRings.Told_eq a h0 h1 sz hs 2002 (by omega))
theorem right_c {a n : Int} {w : World} (h0 : 0 ≤ a) (h1 : a < 4294967296) (hn : 0 ≤ n ∧ n ≤ 64) : Calls Tryd.prog 83 #[.int .u32 a, .int .i64 n] w fun e w' => e = .returned (.int .u32 (turn a (-n))) ∧ Drawn0 w w' := PLabelRings.hypogeumref02_right.calls 34 a n _ w (PlainLabelRings.right_eq a n h0 h1 hn 34 (by omega))
/-- A slice of words of the call's own. -/
abbrev OwW (w : World) (base : Nat) (v : Value) (l : List Int) : Prop := Kd.R (Kd.int .u32) 88 w base (fun _ => True) v l
theorem refwords_c {A : Option Addr} {c : Nat} {l : List Int} {w : World} (hr : Rd w A 64 c l) (hb : IsB l) :
    Calls Tryd.prog 81 #[.slice A 64 c] w fun e w' => ∃ v, e = .returned v ∧ OwW w' w.heap.size v (schedS l) ∧ Below w.heap.size w w' := by
  obtain ⟨hl, hc, hC⟩ := hr
  have := PLabelRings.hypogeumref02_words.calls 300 A c l _ w (by rw [hl]; exact hC) (by omega) (PlainLabelRings.words_eq l hb hl 300 (by omega))
  rwa [hl] at this
theorem keys_c {w : World} : Calls Tryd.prog 82 #[] w fun e w' => ∃ v, e = .returned v ∧ OwW w' w.heap.size v keysS ∧ Below w.heap.size w w' := PLabelRings.hypogeumref02_keys.calls _ w rfl
theorem first_c {w : World} : Calls Tryd.prog 66 #[] w fun e w' => ∃ v, e = .returned v ∧ OwW w' w.heap.size v first8.list ∧ Below w.heap.size w w' := PLabelRings.hypogeumref02_first.calls _ w rfl
theorem Join_c {A A' : Option Addr} {n n' c c' : Nat} {l l' : List Int} {w : World} (hr : Rd w A n c l) (hr' : Rd w A' n' c' l') (h : n + n' < 140737488355328) :
    Calls Tryd.prog 33 #[.slice A n c, .slice A' n' c'] w fun e w' => ∃ v, e = .returned v ∧ Ow w' w.heap.size v (l ++ l') ∧ Below w.heap.size w w' := by
  obtain ⟨rfl, hc, hC⟩ := hr
  obtain ⟨rfl, hc', hC'⟩ := hr'
  exact PLabelRings.hypogeumref02_Join.calls A c l A' c' l' _ w hC hc hC' hc' (PlainLabelRings.Join_eq l l' h)
end Go.Proofs.YtmmbonlidcbkcaaDoor.DgC
/- digest.words, walked: the sixteen words of a block and the forty-eight that are made of them. -/
namespace Go.Proofs.YtmmbonlidcbkcaaDoor.DgWords
open Go.RowKit Go.Proofs.YtmmbonlidcbkcaaDoorW.PrintWords Go.Proofs.YtmmbonlidcbkcaaDoor.Num Go.Proofs.YtmmbonlidcbkcaaDoor.Sha Go.Proofs.YtmmbonlidcbkcaaDoor.WordC Go.Proofs.YtmmbonlidcbkcaaDoor.Arr Go.Proofs.YtmmbonlidcbkcaaDoor.App Go.Proofs.YtmmbonlidcbkcaaDoor.DgC
set_option linter.unusedVariables false
set_option linter.unusedSimpArgs false

/-- So many words, and noughts behind them: the array as it stands. -/
def fillW (l : List Int) : List Int := l ++ List.replicate (64 - l.length) 0
theorem fillW_length (l : List Int) (h : l.length ≤ 64) : (fillW l).length = 64 := by simp [fillW]; omega
theorem fillW_getD (l : List Int) (i : Nat) (h : i < l.length) : (fillW l).getD i 0 = l.getD i 0 := by
  simp only [fillW, List.getD_eq_getElem?_getD]
  rw [List.getElem?_append_left h]
theorem fillW_set (l : List Int) (x : Int) (h : l.length < 64) : (fillW l).set l.length x = fillW (l ++ [x]) := by
  unfold fillW
  rw [List.set_append_right _ _ (by omega), Nat.sub_self]
  obtain ⟨d, hd⟩ : ∃ d, 64 - l.length = d + 1 := ⟨63 - l.length, by omega⟩
  rw [hd, List.replicate_succ, List.set_cons_zero, List.length_append, List.length_singleton, show 64 - (l.length + 1) = d by omega]
  simp
theorem fillW_full (l : List Int) (h : l.length = 64) : fillW l = l := by simp [fillW, h]
theorem blk_num {w : World} {g t : Nat} {k : IntKind} {l : List Int} (h : Blk w g t (nums k l)) (i : Nat) (hi : i < l.length) : w.cell? ⟨g, i, none⟩ = some (.int k (l.getD i 0)) := by
  rw [Blk.cell h, nums_get k l i hi]
theorem blk_put {w : World} {g t : Nat} {k : IntKind} {l : List Int} (h : Blk w g t (nums k l)) (i : Nat) (x : Int) : Blk (w.setCell ⟨g, i, none⟩ (.int k x)) g t (nums k (l.set i x)) := by
  have := Blk.set_ h i (.int k x)
  rwa [nums_set] at this

theorem size110 : (Tryd.prog.info? 110).map (·.size) = some 64 := by kernel_rfl
set_option maxHeartbeats 8000000 in
set_option maxRecDepth 100000 in
theorem words_c {A : Option Addr} {c : Nat} {l : List Int} {w : World} (hr : Rd w A 64 c l) (hb : IsB l) :
    Calls Tryd.prog 84 #[.slice A 64 c] w fun e w' => e = .returned (.agg (nums .u32 (schedS l)).toArray) ∧ Below w.heap.size w w' := by
  go_enter Tryd.func84, Tryd.ntmps84
  go_wp2_with fail
  generalize hW : (w.alloc _).alloc _ = W0
  have hX : Aside0 (Blk W0 (w.heap.size + 1) 110 (nums .u32 (fillW []))) := ⟨by rw [← hW]; exact heap_alloc2_new _ _ _⟩
  have hY : Aside0 (Blk W0 w.heap.size 110 (nums .u32 (fillW []))) := ⟨by rw [← hW]; exact heap_alloc2_old _ _ _⟩
  have hB0 : Below w.heap.size w W0 := by rw [← hW]; exact ((Below.refl _ w).alloc (Nat.le_refl _) _).alloc (by simp) _
  clear hW
  go_loopw [6] (fun i wr => ∃ t : Nat, t ≤ 16 ∧ i = .int .i64 t ∧ Aside0 (Blk wr (w.heap.size + 1) 110 (nums .u32 (fillW (upW l t)))) ∧ Aside0 (Blk wr w.heap.size 110 (nums .u32 (fillW []))) ∧ Below w.heap.size w wr) (fun i _ => 16 - (intOf i).toNat)
  case atStart => exact ⟨0, by omega, rfl, hX, hY, hB0⟩
  case round =>
    obtain ⟨t, ht, rfl, hX', hY', hB'⟩ := hrel
    by_cases hlt : t < 16
    · have hlt' : (t : Int) < 16 := by omega
      obtain ⟨A', c', hcut, hrd⟩ := rd_slice (hr.below hB') (4 * t) (4 * t + 4) (x := 4 * (t : Int)) (y := 4 * (t : Int) + 4) (by omega) (by omega) (by omega) (by omega)
      rw [show 4 * t + 4 - 4 * t = 4 by omega] at hcut hrd
      have hI : IsB ((l.take (4 * t + 4)).drop (4 * t)) := fun x hx => hb x (List.mem_of_mem_take (List.mem_of_mem_drop hx))
      go_wp2_with fail
      refine (Load_c hrd hI false).mono ?_
      rintro x w2 ⟨rfl, ⟨n2, rfl⟩⟩
      have f0 := blk_num hX'.out t (by rw [fillW_length _ (by rw [upW_length]; omega)]; omega)
      have f1 := Blk.frozen hX'.out t
      go_wp2_with fail
      have ew : (loadW ((l.take (4 * t + 4)).drop (4 * t)) false).1 = wordAt l t := by
        rw [List.drop_take, show 4 * t + 4 - 4 * t = 4 by omega]
        unfold loadW wordAt
        rw [if_pos (by have := hr.len; simp; omega)]; rfl
      have R1 : Aside0 (Blk (wr.setCell ⟨w.heap.size + 1, t, none⟩ (.int .u32 (loadW ((l.take (4 * t + 4)).drop (4 * t)) false).1)) (w.heap.size + 1) 110 (nums .u32 (fillW (upW l (t + 1))))) := ⟨by
        have := blk_put hX'.out t (loadW ((l.take (4 * t + 4)).drop (4 * t)) false).1
        have e := fillW_set (upW l t) (wordAt l t) (by rw [upW_length]; omega)
        rw [upW_length] at e
        rw [ew, e, ← upW_succ] at this
        rw [ew]; exact this⟩
      have R2 : Aside0 (Blk (wr.setCell ⟨w.heap.size + 1, t, none⟩ (.int .u32 (loadW ((l.take (4 * t + 4)).drop (4 * t)) false).1)) w.heap.size 110 (nums .u32 (fillW []))) := ⟨Blk.far hY'.out (p := ⟨w.heap.size + 1, t, none⟩) (by simp) _⟩
      clear ew
      go_roundw
      case rel => exact ⟨t + 1, by omega, by go_num, ⟨R1.out⟩, ⟨R2.out⟩, pw_below_drewN (hB'.setCell (p := ⟨w.heap.size + 1, t, none⟩) (by simp) _) _⟩
      case measure => simp [intOf]; omega
    · have hge : ¬ (t : Int) < 16 := by omega
      obtain rfl : t = 16 := by omega
      go_wp2_with fail
      obtain ⟨wo, hwo⟩ : ∃ wo : World, wo = wr := ⟨_, rfl⟩
      rw [← hwo] at hX' hY' hB' ⊢
      clear hwo
      go_loopw [5] (fun i wr => ∃ T : Nat, 16 ≤ T ∧ T ≤ 64 ∧ i = .int .i64 T ∧ Aside0 (Blk wr (w.heap.size + 1) 110 (nums .u32 (fillW (extW (T - 16) (upW l 16))))) ∧ Aside0 (Blk wr w.heap.size 110 (nums .u32 (fillW []))) ∧ Below w.heap.size w wr) (fun i _ => 64 - (intOf i).toNat)
      case atStart => exact ⟨16, by omega, by omega, rfl, hX', hY', hB'⟩
      case round =>
        obtain ⟨T, hT1, hT2, rfl, hX2, hY2, hB2⟩ := hrel
        by_cases hlt : T < 64
        · have hl : (extW (T - 16) (upW l 16)).length = T := by rw [extW_length, upW_length]; omega
          have hWW := extW_isW (upW_isW hb 16) (T - 16)
          have fl := fillW_length (extW (T - 16) (upW l 16)) (by omega)
          have gd : ∀ j, j < T → wr.cell? ⟨w.heap.size + 1, j, none⟩ = some (.int .u32 ((extW (T - 16) (upW l 16)).getD j 0)) := fun j hj => by
            rw [blk_num hX2.out j (by omega), fillW_getD _ _ (by omega)]
          have q2 := getD_isW hWW (T - 2)
          have q15 := getD_isW hWW (T - 15)
          have c2 := gd (T - 2) (by omega)
          have c7 := gd (T - 7) (by omega)
          have c15 := gd (T - 15) (by omega)
          have c16 := gd (T - 16) (by omega)
          have cT : wr.cell? ⟨w.heap.size + 1, T, none⟩ = some (.int .u32 ((fillW (extW (T - 16) (upW l 16))).getD T 0)) := blk_num hX2.out T (by omega)
          have fT := Blk.frozen hX2.out T
          have nx : nextW (extW (T - 16) (upW l 16)) = ((((lateS ((extW (T - 16) (upW l 16)).getD (T - 2) 0) + (extW (T - 16) (upW l 16)).getD (T - 7) 0) % 4294967296 + earlyS ((extW (T - 16) (upW l 16)).getD (T - 15) 0)) % 4294967296) + (extW (T - 16) (upW l 16)).getD (T - 16) 0) % 4294967296 := by unfold nextW; rw [hl]
          have NX := Aside0.mk nx
          have HL := Aside0.mk hl
          clear gd nx hl fl
          generalize (extW (T - 16) (upW l 16)).getD (T - 2) 0 = x2 at *
          generalize (extW (T - 16) (upW l 16)).getD (T - 7) 0 = x7 at *
          generalize (extW (T - 16) (upW l 16)).getD (T - 15) 0 = x15 at *
          generalize (extW (T - 16) (upW l 16)).getD (T - 16) 0 = x16 at *
          generalize (fillW (extW (T - 16) (upW l 16))).getD T 0 = xT at *
          have b1 : (16 : Int) ≤ T := by omega
          have b2 : (T : Int) < 64 := by omega
          have z2 : IntKind.i64.wrap ((T : Int) - 2) = (T : Int) - 2 := IntWalk.i64_in _ (by omega)
          have z7 : IntKind.i64.wrap ((T : Int) - 7) = (T : Int) - 7 := IntWalk.i64_in _ (by omega)
          have z15 : IntKind.i64.wrap ((T : Int) - 15) = (T : Int) - 15 := IntWalk.i64_in _ (by omega)
          have z16 : IntKind.i64.wrap ((T : Int) - 16) = (T : Int) - 16 := IntWalk.i64_in _ (by omega)
          have t2 : ((T : Int) - 2).toNat = T - 2 := by omega
          have t7 : ((T : Int) - 7).toNat = T - 7 := by omega
          have t15 : ((T : Int) - 15).toNat = T - 15 := by omega
          have t16 : ((T : Int) - 16).toNat = T - 16 := by omega
          have p2 : (2 : Int) ≤ (T : Int) := by omega
          have o2 : (0 : Int) ≤ (T : Int) - 2 := by omega
          have u2 : (T : Int) - 2 < 64 := by omega
          have p7 : (7 : Int) ≤ (T : Int) := by omega
          have o7 : (0 : Int) ≤ (T : Int) - 7 := by omega
          have u7 : (T : Int) - 7 < 64 := by omega
          have p15 : (15 : Int) ≤ (T : Int) := by omega
          have o15 : (0 : Int) ≤ (T : Int) - 15 := by omega
          have u15 : (T : Int) - 15 < 64 := by omega
          have p16 : (16 : Int) ≤ (T : Int) := by omega
          have o16 : (0 : Int) ≤ (T : Int) - 16 := by omega
          have u16 : (T : Int) - 16 < 64 := by omega
          go_wp2_with fail
          go_region_held3 (fun w' => w'.cell? ⟨w.heap.size + 1, T - 2, none⟩ = some (.int .u32 x2) ∧ w'.cell? ⟨w.heap.size + 1, T - 7, none⟩ = some (.int .u32 x7) ∧ w'.cell? ⟨w.heap.size + 1, T - 15, none⟩ = some (.int .u32 x15) ∧ w'.cell? ⟨w.heap.size + 1, T - 16, none⟩ = some (.int .u32 x16))
            (first | exact ⟨c2, c7, c15, c16⟩ | go_keep | exact ⟨(World.cell?_setCell_other _ _ _ _ (by intro e; injection e with _ e2; omega)).trans c2, (World.cell?_setCell_other _ _ _ _ (by intro e; injection e with _ e2; omega)).trans c7, (World.cell?_setCell_other _ _ _ _ (by intro e; injection e with _ e2; omega)).trans c15, (World.cell?_setCell_other _ _ _ _ (by intro e; injection e with _ e2; omega)).trans c16⟩)
            (first
             | (go_at_call 91; (with_reducible refine (late_c q2.1 q2.2).mono ?_); rintro x w3 ⟨rfl, ⟨n3, rfl⟩⟩)
             | (go_at_call 92; (with_reducible refine (early_c q15.1 q15.2).mono ?_); rintro x w3 ⟨rfl, ⟨n4, rfl⟩⟩))
          have ev : IntKind.u32.wrap (IntKind.u32.wrap ((lateS x2 + x7) % 4294967296 + earlyS x15) + x16) = nextW (extW (T - 16) (upW l 16)) := by rw [IntKind.wrap_u32', IntKind.wrap_u32', NX.out]
          have R1 : Aside0 (Blk (wr.setCell ⟨w.heap.size + 1, T, none⟩ (.int .u32 (IntKind.u32.wrap (IntKind.u32.wrap ((lateS x2 + x7) % 4294967296 + earlyS x15) + x16)))) (w.heap.size + 1) 110 (nums .u32 (fillW (extW (T + 1 - 16) (upW l 16))))) := ⟨by
            have h1 := blk_put hX2.out T (nextW (extW (T - 16) (upW l 16)))
            have h2 := fillW_set (extW (T - 16) (upW l 16)) (nextW (extW (T - 16) (upW l 16))) (by rw [HL.out]; omega)
            rw [HL.out] at h2
            rw [h2] at h1
            rw [ev, show T + 1 - 16 = T - 16 + 1 by omega]
            exact h1⟩
          have R2 : Aside0 (Blk (wr.setCell ⟨w.heap.size + 1, T, none⟩ (.int .u32 (IntKind.u32.wrap (IntKind.u32.wrap ((lateS x2 + x7) % 4294967296 + earlyS x15) + x16)))) w.heap.size 110 (nums .u32 (fillW []))) := ⟨Blk.far hY2.out (p := ⟨w.heap.size + 1, T, none⟩) (by simp) _⟩
          clear ev z2 z7 z15 z16 t2 t7 t15 t16
          go_wp2_with fail
          go_roundw
          case rel => exact ⟨T + 1, by omega, by omega, by go_num, ⟨R1.out⟩, ⟨R2.out⟩, pw_below_drewN (hB2.setCell (p := ⟨w.heap.size + 1, T, none⟩) (by simp) _) _⟩
          case measure => simp [intOf]; omega
        · have hge : ¬ (T : Int) < 64 := by omega
          have hT : T = 64 := by omega
          have e64 : fillW (extW (T - 16) (upW l 16)) = schedS l := by
            rw [hT]; exact fillW_full _ (schedS_length l)
          rw [e64] at hX2
          clear e64 hT hX' hY' hX hY
          have hS := schedS_length l
          obtain ⟨S, HSE⟩ : ∃ S, Aside0 (schedS l = S) := ⟨_, ⟨rfl⟩⟩
          rw [HSE.out] at hX2 hS
          have HS := Aside0.mk hS
          clear hS
          go_wp2_with (first
            | (refine load_arr rfl 110 (.tmp 3) rfl (w.heap.size + 1) rfl 110 .u32 S 64 88 hX2.out Tryd.underlying110 size110 HS.out ?_)
            | (refine store_arr rfl 110 (.tmp 2) (.tmp 50) rfl w.heap.size .u32 S rfl rfl 110 64 (nums .u32 (fillW [])) hY2.out size110 HS.out (by rw [nums_length]; rfl) ?_; intro w9 hZ hg9; have HZ := Aside0.mk hZ; clear hZ))
          refine bodyPost_ret (v := .agg (nums .u32 S).toArray) ?_ rfl ⟨?_, hB2.grown hg9 hB2.size (fun k hk => by cases hk; exact Nat.le_refl _)⟩
          · refine results_arr (p := 2) (ty := 110) (h := ?_) (g := w.heap.size) (t := 110) (n := 64) (e := 88) (k := .u32) (l := S) (hp := ?_) (hg := HZ.out) (hu := Tryd.underlying110) (hi := size110) (hl := HS.out) ..
            · rfl
            · rfl
          · rw [HSE.out]
end Go.Proofs.YtmmbonlidcbkcaaDoor.DgWords
/- digest.block, walked: one block. -/
namespace Go.Proofs.YtmmbonlidcbkcaaDoor.DgBlock
open Go.RowKit Go.Proofs.YtmmbonlidcbkcaaDoorW.PrintWords Go.Proofs.YtmmbonlidcbkcaaDoor.Num Go.Proofs.YtmmbonlidcbkcaaDoor.Sha Go.Proofs.YtmmbonlidcbkcaaDoor.WordC Go.Proofs.YtmmbonlidcbkcaaDoor.Arr Go.Proofs.YtmmbonlidcbkcaaDoor.App Go.Proofs.YtmmbonlidcbkcaaDoor.DgC Go.Proofs.YtmmbonlidcbkcaaDoor.DgWords
set_option linter.unusedVariables false
set_option linter.unusedSimpArgs false

/-- The program's table of keys, as it lies. -/
def Tb (w : World) : Prop := ∃ t fr, w.heap[0]? = some (.cells (nums .u32 keysS).toArray t fr)
theorem Tb.lt {w : World} (h : Tb w) : 0 < w.heap.size := by
  obtain ⟨t, fr, h⟩ := h
  exact (Array.getElem?_eq_some_iff.1 h).1
theorem Tb.below {w w1 : World} (h : Tb w) (hb : Below w.heap.size w w1) : Tb w1 := by
  have hl := h.lt
  obtain ⟨t, fr, h⟩ := h
  exact ⟨t, fr, (hb.block 0 hl).trans h⟩
theorem load_tb {P : Program} {ops : Array Oper} {rest : List Oper} {o : Oper} {a : Act} {w : World} {Q : Exit → Act → World → Prop} (hgd : o.guard = none) (ty : TypeId) (ho : o.op = .load ty (.global 0))
    (hg : Tb w) (e : Nat) (hu : P.underlying ty = some (.array 64 e)) (hi : (P.info? ty).map (·.size) = some 64)
    (h : wpList P ops Q rest (a.put o.dst (.agg (nums .u32 keysS).toArray)) w) : wpList P ops Q (o :: rest) a w := by
  obtain ⟨t, fr, hg⟩ := hg
  exact wpList_load_row hgd ty (.global 0) ho 0 rfl t _ fr _ hg hu rfl (by rw [size_nums]; exact hi) h
theorem Blk.grown {w w' : World} {g p t : Nat} {cs : List Value} (h : Blk w g t cs) (hg : w.grownBy w' (some p)) (hne : g ≠ p) : Blk w' g t cs :=
  (hg.block g (Blk.lt h) (by intro e; cases e; exact hne rfl)).trans h
/-- A copy of cells into a block. -/
theorem step_copy_row {P : Program} {ops : Array Oper} {o : Oper} {a : Act} {w : World} {K : Act → World → Prop} {Q : Exit → Act → World → Prop} {E : Prop} (hgd : o.guard = none) (d s : Operand) (dT sT : TypeId)
    (ho : o.op = .call { callee := .builtin .copy, args := #[d, s], argTypes := #[dT, sT] }) (elem : TypeId) (hu : P.underlying dT = some (.slice elem)) (hsz : (P.info? elem).map (·.size) = some 1)
    (g off dLen dCap : Nat) (ad : Addr) (sLen sCap : Nat) (hd : a.eval d = .slice (some ⟨g, off, none⟩) dLen dCap) (hs : a.eval s = .slice (some ad) sLen sCap)
    (cur : List Value) (t : Nat) (hg : Blk w g t cur) (xs : List Value) (hx : xs.length = Nat.min sLen dLen) (hsrc : ∀ j v, xs[j]? = some v → w.cell? (ad.add j) = some v) (hfit : off + xs.length ≤ cur.length) (hone : ∀ v ∈ xs, v.oneCell' = true)
    (h : ∀ w', Blk w' g t (cur.take off ++ xs ++ cur.drop (off + xs.length)) → w.grownBy w' (some g) → K (a.put o.dst (.int .i64 xs.length)) w') :
    if Region.wanted o (yielded ops a.tmps) = true then Oper.wp P o a w K Q else E := by
  have hw : Region.wanted o (yielded ops a.tmps) = true := by simp [Region.wanted, hgd]
  rw [if_pos hw]
  have hrun := run_copy_row (P := P) w dT sT o.type elem g off dLen dCap ad sLen sCap cur.toArray t xs hu hsz hg hx hsrc (by simpa using hfit) hone
  unfold Oper.wp
  simp [execOp, ho, resolve, invoke, builtin, hd, hs, hrun, Result.andThen]
  have h1 := h (w.setRow g (cur.take off ++ xs ++ cur.drop (off + xs.length)).toArray) (setRow_heap w g _ _ t _ hg)
    ⟨rfl, rfl, rfl, by simp [World.setRow], fun k hk hne => setRow_other w g k _ (fun e => hne (by rw [e]))⟩
  simp only [goInt]
  simp only [List.append_assoc] at h1 ⊢
  exact h1
theorem size88 : (Tryd.prog.info? 88).map (·.size) = some 1 := by kernel_rfl
/-- The words as they stand when so many have been added. -/
def mixS (s r : H8) (i : Nat) : List Int := [if 0 < i then (s.a + r.a) % 4294967296 else s.a, if 1 < i then (s.b + r.b) % 4294967296 else s.b, if 2 < i then (s.c + r.c) % 4294967296 else s.c, if 3 < i then (s.d + r.d) % 4294967296 else s.d, if 4 < i then (s.e + r.e) % 4294967296 else s.e, if 5 < i then (s.f + r.f) % 4294967296 else s.f, if 6 < i then (s.g + r.g) % 4294967296 else s.g, if 7 < i then (s.h + r.h) % 4294967296 else s.h]
theorem mixS_length (s r : H8) (i : Nat) : (mixS s r i).length = 8 := rfl
theorem mixS_zero (s r : H8) : mixS s r 0 = s.list := rfl
theorem mixS_full (s r : H8) : mixS s r 8 = (addS s r).list := rfl
theorem mixS_getD (s r : H8) (i : Nat) (h : i < 8) : (mixS s r i).getD i 0 = s.list.getD i 0 := by
  have hc : i = 0 ∨ i = 1 ∨ i = 2 ∨ i = 3 ∨ i = 4 ∨ i = 5 ∨ i = 6 ∨ i = 7 := by omega
  rcases hc with rfl | rfl | rfl | rfl | rfl | rfl | rfl | rfl <;> rfl
theorem mixS_set (s r : H8) (i : Nat) (h : i < 8) : (mixS s r i).set i ((s.list.getD i 0 + r.list.getD i 0) % 4294967296) = mixS s r (i + 1) := by
  have hc : i = 0 ∨ i = 1 ∨ i = 2 ∨ i = 3 ∨ i = 4 ∨ i = 5 ∨ i = 6 ∨ i = 7 := by omega
  rcases hc with rfl | rfl | rfl | rfl | rfl | rfl | rfl | rfl <;> rfl
theorem size89 : (Tryd.prog.info? 89).map (·.size) = some 8 := by kernel_rfl
theorem info88 : (Tryd.prog.info? 88).map (·.size) = some 1 := by kernel_rfl
theorem index_nums (l : List Int) (hl : l.length = 64) (t : Nat) (ht : t < 64) (w : World) : (Instr.index 110 (.agg (nums .u32 l).toArray) (.int .i64 t)).run Tryd.prog w = .ok (.int .u32 (l.getD t 0)) w := by
  obtain ⟨i, hi, hz⟩ := Option.map_eq_some_iff.1 info88
  have hn : (0 : Int) ≤ (t : Int) ∧ (t : Int) < 64 := by omega
  have hk := nums_get .u32 l t (by omega)
  have hg : (isAgg 88).run Tryd.prog w = .ok false w := by
    unfold isAgg
    rw [Sem.run_bind, run_underlying Tryd.underlying88]
    rfl
  simp [Instr.index, run_underlying Tryd.underlying110, asIntOf, hn, go_sem, Go.sizeOf, typeInfo, hi, hz, ht, hg, hk]
theorem list8_length (s : H8) : s.list.length = 8 := rfl
set_option maxHeartbeats 8000000 in
set_option maxRecDepth 100000 in
theorem block_c {A : Option Addr} {c : Nat} {l : List Int} {s : H8} {w : World} (hs : s.ok) (hr : Rd w A 64 c l) (hb : IsB l) (ht : Tb w) :
    Calls Tryd.prog 69 #[.agg (nums .u32 s.list).toArray, .slice A 64 c] w fun e w' => e = .returned (.agg (nums .u32 (blockS s l).list).toArray) ∧ Below w.heap.size w w' := by
  go_enter Tryd.func69, Tryd.ntmps69
  go_wp2_with fail
  generalize hW : (w.alloc _).alloc _ = W0
  have hX : Blk W0 w.heap.size 89 (nums .u32 s.list) := by rw [← hW]; exact heap_alloc2_old _ _ _
  have hY : Blk W0 (w.heap.size + 1) 89 (nums .u32 (List.replicate 8 0)) := by rw [← hW]; exact heap_alloc2_new _ _ _
  have hB0 : Below w.heap.size w W0 := by rw [← hW]; exact ((Below.refl _ w).alloc (Nat.le_refl _) _).alloc (by simp) _
  have hz0 : W0.heap.size = w.heap.size + 2 := by rw [← hW]; simp
  clear hW
  refine (words_c (hr.below hB0) hb).mono ?_
  rintro x w1 ⟨rfl, hb1⟩
  have hX1 := hX.below hb1
  have hY1 := hY.below hb1
  have hz1 := hb1.size
  have hB1 := below_next hB0 hb1
  clear hX hY
  have hS := schedS_isW hb
  obtain ⟨S, HSE⟩ : ∃ S, Aside0 (schedS l = S) := ⟨_, ⟨rfl⟩⟩
  rw [HSE.out] at hS
  have HSL : Aside0 (S.length = 64) := ⟨by rw [← HSE.out]; exact schedS_length l⟩
  rw [HSE.out]
  have hz : w.heap.size + 2 ≤ w1.heap.size := by omega
  clear hz0 hz1
  go_wp2_with (first
    | (refine store_arr rfl 110 (.tmp 5) (.tmp 13) rfl w1.heap.size .u32 S rfl rfl 110 64 _ (heap_alloc_new _ _) size110 HSL.out rfl ?_; intro w2 hW2 hg2; have hX2 := Blk.grown (hX1.alloc _) hg2 (by omega); have hY2 := Blk.grown (hY1.alloc _) hg2 (by omega); have hB2 := (hB1.alloc (by omega) _).grown hg2 (by simp; omega) (fun k hk => by cases hk; omega); have hz2 : w1.heap.size + 1 ≤ w2.heap.size := by have := hg2.size; simpa using this)
    | (refine load_arr rfl 89 (.tmp 2) rfl w.heap.size rfl 89 .u32 s.list 8 88 hX2 Tryd.underlying89 size89 (list8_length s) ?_)
    | (refine store_arr rfl 89 (.tmp 6) (.tmp 14) rfl w2.heap.size .u32 s.list rfl rfl 89 8 _ (heap_alloc_new _ _) size89 (list8_length s) rfl ?_; intro w3 hV3 hg3; have hX3 := Blk.grown (hX2.alloc _) hg3 (by omega); have hY3 := Blk.grown (hY2.alloc _) hg3 (by omega); have hW3 := Blk.grown (hW2.alloc _) hg3 (by omega); have hB3 := (hB2.alloc (by omega) _).grown hg3 (by simp; omega) (fun k hk => by cases hk; omega))
    | (refine load_tb rfl 110 rfl (ht.below hB3) 88 Tryd.underlying110 size110 ?_))
  have g12 : w1.heap.size < w2.heap.size := by omega
  have HX3 := Aside0.mk hX3
  have HY3 := Aside0.mk hY3
  have HW3 := Aside0.mk hW3
  have HV3 : Aside0 (Blk w3 w2.heap.size 89 (nums .u32 (roundsS s S 0).list)) := ⟨hV3⟩
  clear hX3 hY3 hW3 hV3 hX2 hY2 hW2 hX1 hY1 hg2 hg3 hB1 hB2 hb1 hz2
  generalize w1.heap.size = g5 at *
  generalize w2.heap.size = g6 at *
  go_loopw [16] (fun i wr => ∃ t : Nat, t ≤ 64 ∧ i = .int .i64 t ∧ Aside0 (Blk wr g6 89 (nums .u32 (roundsS s S t).list)) ∧ Aside0 (Blk wr g5 110 (nums .u32 S)) ∧ Aside0 (Blk wr w.heap.size 89 (nums .u32 s.list)) ∧ Aside0 (Blk wr (w.heap.size + 1) 89 (nums .u32 (List.replicate 8 0))) ∧ Below w.heap.size w wr) (fun i _ => 64 - (intOf i).toNat)
  case atStart => exact ⟨0, by omega, rfl, HV3, HW3, HX3, HY3, hB3⟩
  case round =>
    obtain ⟨t, ht64, rfl, hV, hW, hX, hY, hB⟩ := hrel
    by_cases hlt : t < 64
    · have hlt' : (t : Int) < 64 := by omega
      have hR := roundsS_ok hs S t
      obtain ⟨R, HRE⟩ : ∃ R, Aside0 (roundsS s S t = R) := ⟨_, ⟨rfl⟩⟩
      rw [HRE.out] at hV hR
      obtain ⟨a1, a2, a3, a4, a5, a6, a7, a8⟩ := R
      rw [H8.ok_iff] at hR
      have hix : ∀ W : World, (Instr.index 110 (.agg (nums .u32 keysS).toArray) (.int .i64 (t : Int))).run Tryd.prog W = .ok (.int .u32 (keysS.getD t 0)) W := index_nums keysS rfl t hlt
      have c1 : wr.cell? ⟨g6, 0, none⟩ = some (.int .u32 a1) := Blk.cell hV.out 0
      have c2 : wr.cell? ⟨g6, 1, none⟩ = some (.int .u32 a2) := Blk.cell hV.out 1
      have c3 : wr.cell? ⟨g6, 2, none⟩ = some (.int .u32 a3) := Blk.cell hV.out 2
      have c5 : wr.cell? ⟨g6, 4, none⟩ = some (.int .u32 a5) := Blk.cell hV.out 4
      have c6 : wr.cell? ⟨g6, 5, none⟩ = some (.int .u32 a6) := Blk.cell hV.out 5
      have c7 : wr.cell? ⟨g6, 6, none⟩ = some (.int .u32 a7) := Blk.cell hV.out 6
      have c8 : wr.cell? ⟨g6, 7, none⟩ = some (.int .u32 a8) := Blk.cell hV.out 7
      have cW : wr.cell? ⟨g5, t, none⟩ = some (.int .u32 (S.getD t 0)) := blk_num hW.out t (by rw [HSL.out]; exact hlt)
      generalize hkx : keysS.getD t 0 = kx at *
      generalize hwx : S.getD t 0 = wx at *
      have HKX := Aside0.mk hkx
      have HWX := Aside0.mk hwx
      clear hkx hwx
      go_wp2_with fail
      go_region_held3 (fun w' => w'.cell? ⟨g6, 0, none⟩ = some (.int .u32 a1) ∧ w'.cell? ⟨g6, 1, none⟩ = some (.int .u32 a2) ∧ w'.cell? ⟨g6, 2, none⟩ = some (.int .u32 a3) ∧ w'.cell? ⟨g6, 4, none⟩ = some (.int .u32 a5) ∧ w'.cell? ⟨g6, 5, none⟩ = some (.int .u32 a6) ∧ w'.cell? ⟨g6, 6, none⟩ = some (.int .u32 a7) ∧ w'.cell? ⟨g6, 7, none⟩ = some (.int .u32 a8) ∧ w'.cell? ⟨g5, t, none⟩ = some (.int .u32 wx))
        (first | exact ⟨c1, c2, c3, c5, c6, c7, c8, cW⟩ | go_keep)
        (first | (go_at_call 85; (with_reducible refine (high_c hR.2.2.2.2.1.1 hR.2.2.2.2.1.2).mono ?_); rintro x w4 ⟨rfl, ⟨n4, rfl⟩⟩))
      generalize hU : IntKind.u32.wrap (IntKind.u32.wrap _ + wx) = U
      have HU := Aside0.mk hU
      clear hU
      go_wp2_with fail
      go_region_held3 (fun w' => w'.cell? ⟨g6, 0, none⟩ = some (.int .u32 a1) ∧ w'.cell? ⟨g6, 1, none⟩ = some (.int .u32 a2) ∧ w'.cell? ⟨g6, 2, none⟩ = some (.int .u32 a3))
        (first | exact ⟨c1, c2, c3⟩ | go_keep)
        (first | (go_at_call 86; (with_reducible refine (low_c hR.1.1 hR.1.2).mono ?_); rintro x w5 ⟨rfl, ⟨n5, rfl⟩⟩))
      generalize hV' : IntKind.u32.wrap (lowS a1 + _) = V
      have HV' := Aside0.mk hV'
      clear hV'
      generalize hX9 : wr.drewN _ = w9
      have hV9 : Blk w9 g6 89 (nums .u32 (H8.list ⟨a1, a2, a3, a4, a5, a6, a7, a8⟩)) := by rw [← hX9]; exact hV.out
      have hb9 : Below w.heap.size w w9 := by rw [← hX9]; exact pw_below_drewN hB _
      have hW9 : Aside0 (Blk w9 g5 110 (nums .u32 S)) := by rw [← hX9]; exact ⟨hW.out⟩
      have hXX9 : Aside0 (Blk w9 w.heap.size 89 (nums .u32 s.list)) := by rw [← hX9]; exact ⟨hX.out⟩
      have hY9 : Aside0 (Blk w9 (w.heap.size + 1) 89 (nums .u32 (List.replicate 8 0))) := by rw [← hX9]; exact ⟨hY.out⟩
      clear hX9 c1 c2 c3 c5 c6 c7 c8 cW hV hW hX hY hB
      obtain ⟨xs, hxs⟩ : ∃ xs : List Value, xs = [.int .u32 a1, .int .u32 a2, .int .u32 a3, .int .u32 a4, .int .u32 a5, .int .u32 a6, .int .u32 a7] := ⟨_, rfl⟩
      have hcs : nums .u32 (H8.list ⟨a1, a2, a3, a4, a5, a6, a7, a8⟩) = xs ++ [.int .u32 a8] := by rw [hxs]; rfl
      have hxl : xs.length = Nat.min 7 7 := by rw [hxs]; rfl
      have hxf : 1 + xs.length ≤ (nums .u32 (H8.list ⟨a1, a2, a3, a4, a5, a6, a7, a8⟩)).length := by rw [hxs]; exact Nat.le_refl _
      have hxo : ∀ v ∈ xs, v.oneCell' = true := by
        intro v hv
        exact nums_one .u32 (H8.list ⟨a1, a2, a3, a4, a5, a6, a7, a8⟩) v (by rw [hcs]; simp [hv])
      have hsrc : ∀ j v, xs[j]? = some v → w9.drew.cell? ((⟨g6, 0, none⟩ : Addr).add j) = some v := by
        intro j v hj
        have e : (⟨g6, 0, none⟩ : Addr).add j = ⟨g6, j, none⟩ := by unfold Addr.add; split <;> simp_all
        rw [e]
        refine (Blk.cell hV9 j).trans ?_
        rw [hcs, List.getElem?_append_left (List.getElem?_eq_some_iff.1 hj).1]
        exact hj
      have HXL := Aside0.mk hxl
      have HXS := Aside0.mk hxs
      clear hxl hxs hcs
      have hV9' : Blk w9.drew g6 89 (nums .u32 (H8.list ⟨a1, a2, a3, a4, a5, a6, a7, a8⟩)) := hV9
      go_wp2_with fail
      go_region_held3 (fun _ => True) (exact trivial)
        (first
         | (refine step_copy_row rfl (.tmp 66) (.tmp 67) 84 84 rfl 88 Tryd.underlying84 size88 g6 1 7 7 ⟨g6, 0, none⟩ 7 8 rfl rfl (nums .u32 (H8.list ⟨a1, a2, a3, a4, a5, a6, a7, a8⟩)) 89 hV9' xs HXL.out hsrc hxf hxo ?_; intro w10 hV10 hg10))
      have hK : Blk w10 g6 89 (nums .u32 [a1, a1, a2, a3, a4, a5, a6, a7]) := by have := hV10; rw [HXS.out] at this; exact this
      have d0 : w10.cell? ⟨g6, 0, none⟩ = some (.int .u32 a1) := Blk.cell hK 0
      have d5 : w10.cell? ⟨g6, 4, none⟩ = some (.int .u32 a4) := Blk.cell hK 4
      have hK2 : Blk (w10.setCell ⟨g6, 0, none⟩ (.int .u32 (IntKind.u32.wrap (U + V)))) g6 89 (nums .u32 [IntKind.u32.wrap (U + V), a1, a2, a3, a4, a5, a6, a7]) := blk_put hK 0 _
      have d6 : (w10.setCell ⟨g6, 0, none⟩ (.int .u32 (IntKind.u32.wrap (U + V)))).cell? ⟨g6, 4, none⟩ = some (.int .u32 a4) := Blk.cell hK2 4
      have f6 : (w10.setCell ⟨g6, 0, none⟩ (.int .u32 (IntKind.u32.wrap (U + V)))).frozen? ⟨g6, 4, none⟩ = false := Blk.frozen hK2 4
      have f0 : w10.frozen? ⟨g6, 0, none⟩ = false := Blk.frozen hK 0
      have f4 : w10.frozen? ⟨g6, 4, none⟩ = false := Blk.frozen hK 4
      have hU' : U = uS ⟨a1, a2, a3, a4, a5, a6, a7, a8⟩ kx wx := by rw [← HU.out]; simp only [IntKind.wrap_u32']; rfl
      have hV' : V = vS ⟨a1, a2, a3, a4, a5, a6, a7, a8⟩ := by rw [← HV'.out]; simp only [IntKind.wrap_u32']; rfl
      have hroll : roundsS s S (t + 1) = ⟨IntKind.u32.wrap (U + V), a1, a2, a3, IntKind.u32.wrap (a4 + U), a5, a6, a7⟩ := by
        show roundS (roundsS s S t) (keysS.getD t 0) (S.getD t 0) = _
        rw [HRE.out, HKX.out, HWX.out, hU', hV', IntKind.wrap_u32', IntKind.wrap_u32']
        rfl
      have hV11 : Aside0 (Blk ((w10.setCell ⟨g6, 0, none⟩ (.int .u32 (IntKind.u32.wrap (U + V)))).setCell ⟨g6, 4, none⟩ (.int .u32 (IntKind.u32.wrap (a4 + U)))) g6 89 (nums .u32 (roundsS s S (t + 1)).list)) := ⟨by
        rw [hroll]
        exact blk_put (blk_put hK 0 _) 4 _⟩
      have hW11 : Aside0 (Blk ((w10.setCell ⟨g6, 0, none⟩ (.int .u32 (IntKind.u32.wrap (U + V)))).setCell ⟨g6, 4, none⟩ (.int .u32 (IntKind.u32.wrap (a4 + U)))) g5 110 (nums .u32 S)) := ⟨Blk.far (Blk.far (Blk.grown (w := w9.drew) hW9.out hg10 (by omega)) (by show g5 ≠ g6; omega) _) (by show g5 ≠ g6; omega) _⟩
      have hX11 : Aside0 (Blk ((w10.setCell ⟨g6, 0, none⟩ (.int .u32 (IntKind.u32.wrap (U + V)))).setCell ⟨g6, 4, none⟩ (.int .u32 (IntKind.u32.wrap (a4 + U)))) w.heap.size 89 (nums .u32 s.list)) := ⟨Blk.far (Blk.far (Blk.grown (w := w9.drew) hXX9.out hg10 (by omega)) (by show w.heap.size ≠ g6; omega) _) (by show w.heap.size ≠ g6; omega) _⟩
      have hY11 : Aside0 (Blk ((w10.setCell ⟨g6, 0, none⟩ (.int .u32 (IntKind.u32.wrap (U + V)))).setCell ⟨g6, 4, none⟩ (.int .u32 (IntKind.u32.wrap (a4 + U)))) (w.heap.size + 1) 89 (nums .u32 (List.replicate 8 0))) := ⟨Blk.far (Blk.far (Blk.grown (w := w9.drew) hY9.out hg10 (by omega)) (by show w.heap.size + 1 ≠ g6; omega) _) (by show w.heap.size + 1 ≠ g6; omega) _⟩
      have hB11 : Below w.heap.size w ((w10.setCell ⟨g6, 0, none⟩ (.int .u32 (IntKind.u32.wrap (U + V)))).setCell ⟨g6, 4, none⟩ (.int .u32 (IntKind.u32.wrap (a4 + U)))) := ((hb9.drew.grown hg10 hb9.drew.size (fun k hk => by cases hk; omega)).setCell (by show w.heap.size ≤ g6; omega) _).setCell (by show w.heap.size ≤ g6; omega) _
      clear hroll hU' hV' hK hV10 hK2
      go_wp2_with fail
      go_roundw
      case rel => exact ⟨t + 1, by omega, by go_num, hV11, hW11, hX11, hY11, hB11⟩
      case measure => simp [intOf]; omega
    · have hge : ¬ (t : Int) < 64 := by omega
      have h64 : t = 64 := by omega
      rw [h64] at hV
      have hR := roundsS_ok hs S 64
      obtain ⟨R, HRE⟩ : ∃ R, Aside0 (roundsS s S 64 = R) := ⟨_, ⟨rfl⟩⟩
      rw [HRE.out] at hV hR
      clear h64
      go_wp2_with fail
      have hX0 : Aside0 (Blk wr w.heap.size 89 (nums .u32 (mixS s R 0))) := ⟨hX.out⟩
      go_loopw [79] (fun i wq => ∃ T : Nat, T ≤ 8 ∧ i = .int .i64 T ∧ Aside0 (Blk wq w.heap.size 89 (nums .u32 (mixS s R T))) ∧ Aside0 (Blk wq g6 89 (nums .u32 R.list)) ∧ Aside0 (Blk wq (w.heap.size + 1) 89 (nums .u32 (List.replicate 8 0))) ∧ Below w.heap.size w wq) (fun i _ => 8 - (intOf i).toNat)
      case atStart => exact ⟨0, by omega, rfl, hX0, hV, hY, hB⟩
      case round =>
        clear hX hY hV hW hX0 hB
        obtain ⟨T, hT8, rfl, hX, hV, hY, hB⟩ := hrel
        by_cases hlt : T < 8
        · have hlt' : (T : Int) < 8 := by omega
          have cX : wr.cell? ⟨w.heap.size, T, none⟩ = some (.int .u32 (s.list.getD T 0)) := by rw [← mixS_getD s R T hlt]; exact blk_num hX.out T hlt
          have cV : wr.cell? ⟨g6, T, none⟩ = some (.int .u32 (R.list.getD T 0)) := blk_num hV.out T hlt
          have fX : wr.frozen? ⟨w.heap.size, T, none⟩ = false := Blk.frozen hX.out T
          have hset := mixS_set s R T hlt
          have HSET := Aside0.mk hset
          clear hset
          generalize s.list.getD T 0 = x1 at *
          generalize R.list.getD T 0 = x2 at *
          go_wp2_with fail
          go_region
          have hX' : Aside0 (Blk (wr.setCell ⟨w.heap.size, T, none⟩ (.int .u32 (IntKind.u32.wrap (x1 + x2)))) w.heap.size 89 (nums .u32 (mixS s R (T + 1)))) := ⟨by rw [← HSET.out, IntKind.wrap_u32']; exact blk_put hX.out T _⟩
          have hV' : Aside0 (Blk (wr.setCell ⟨w.heap.size, T, none⟩ (.int .u32 (IntKind.u32.wrap (x1 + x2)))) g6 89 (nums .u32 R.list)) := ⟨Blk.far hV.out (by show g6 ≠ w.heap.size; omega) _⟩
          have hY' : Aside0 (Blk (wr.setCell ⟨w.heap.size, T, none⟩ (.int .u32 (IntKind.u32.wrap (x1 + x2)))) (w.heap.size + 1) 89 (nums .u32 (List.replicate 8 0))) := ⟨Blk.far hY.out (by show w.heap.size + 1 ≠ w.heap.size; omega) _⟩
          have hB' : Below w.heap.size w (wr.setCell ⟨w.heap.size, T, none⟩ (.int .u32 (IntKind.u32.wrap (x1 + x2)))) := hB.setCell (by show w.heap.size ≤ w.heap.size; omega) _
          go_wp2_with fail
          go_roundw
          case rel => exact ⟨T + 1, by omega, by go_num, ⟨hX'.out⟩, ⟨hV'.out⟩, ⟨hY'.out⟩, hB'.drew⟩
          case measure => simp [intOf]; omega
        · have hge : ¬ (T : Int) < 8 := by omega
          have h8 : T = 8 := by omega
          rw [h8, mixS_full] at hX
          have hend : addS s R = blockS s l := by unfold blockS; rw [← HRE.out, HSE.out]
          rw [hend] at hX
          clear hend h8
          obtain ⟨O, HO⟩ : ∃ O, Aside0 (blockS s l = O) := ⟨_, ⟨rfl⟩⟩
          rw [HO.out] at hX
          go_wp2_with (first
            | (refine load_arr rfl 89 (.tmp 2) rfl w.heap.size rfl 89 .u32 O.list 8 88 hX.out Tryd.underlying89 size89 (list8_length O) ?_)
            | (refine store_arr rfl 89 (.tmp 4) (.tmp 91) rfl (w.heap.size + 1) .u32 O.list rfl rfl 89 8 _ hY.out size89 (list8_length O) rfl ?_; intro w12 hO hg12; have HOO := Aside0.mk hO; clear hO))
          refine bodyPost_ret (v := .agg (nums .u32 O.list).toArray) ?_ rfl ⟨?_, hB.grown hg12 hB.size (fun k hk => by cases hk; omega)⟩
          · refine results_arr (p := 4) (ty := 89) (h := ?_) (g := w.heap.size + 1) (t := 89) (n := 8) (e := 88) (k := .u32) (l := O.list) (hp := ?_) (hg := HOO.out) (hu := Tryd.underlying89) (hi := size89) (hl := list8_length O) ..
            · rfl
            · rfl
          · rw [HO.out]
end Go.Proofs.YtmmbonlidcbkcaaDoor.DgBlock
/- The digest's State in memory: its words, what is left over, how many bytes in all; what a call that adds to it does to the world. -/
namespace Go.Proofs.YtmmbonlidcbkcaaDoor.DgState
open Go.RowKit Go.Proofs.YtmmbonlidcbkcaaDoorW.PrintWords Go.Proofs.YtmmbonlidcbkcaaDoor.Num Go.Proofs.YtmmbonlidcbkcaaDoor.Sha Go.Proofs.YtmmbonlidcbkcaaDoor.WordC Go.Proofs.YtmmbonlidcbkcaaDoor.Arr Go.Proofs.YtmmbonlidcbkcaaDoor.App Go.Proofs.YtmmbonlidcbkcaaDoor.DgC Go.Proofs.YtmmbonlidcbkcaaDoor.DgWords Go.Proofs.YtmmbonlidcbkcaaDoor.DgBlock
set_option linter.unusedVariables false
set_option linter.unusedSimpArgs false

/-- Bytes of one's own that may begin inside their block. -/
abbrev Qw (w : World) (base : Nat) (v : Value) (xs : List Int) : Prop := QRow w base 5 1 v xs.length (nums .u8 xs)
theorem Qw.rd {w : World} {base : Nat} {v : Value} {xs : List Int} (h : Qw w base v xs) : ∃ A c, v = .slice A xs.length c ∧ Rd w A xs.length c xs := by
  obtain ⟨A, c, rfl, hc⟩ := q_slice h
  refine ⟨A, c, rfl, rfl, hc, Kd.C_of_reads (d := (0 : Int)) (h1 := fun _ => rfl) ⟨rfl, q_max h, fun hp => ?_⟩⟩
  obtain ⟨ad, rfl, hcell⟩ := q_cells h hp
  exact ⟨ad, rfl, fun j hj => hcell j _ (nums_get .u8 xs j hj)⟩
theorem Qw.below {w w1 : World} {base : Nat} {v : Value} {xs : List Int} (h : Qw w base v xs) (hb : Below w.heap.size w w1) : Qw w1 base v xs := q_move h (fun k hk => hb.block k (q_lt h k hk))
theorem Qw.nil (w : World) (base : Nat) : Qw w base (.slice none 0 0) [] := q_of_own (own_nil w base 5 1)
theorem Qw.of_ow {w : World} {base : Nat} {v : Value} {xs : List Int} (h : Ow w base v xs) : Qw w base v xs := q_of_own (Kd.own_of_R h)
theorem Qw.far {w : World} {base g : Nat} {v : Value} {xs : List Int} (h : Qw w base v xs) {t : Nat} {cs : List Value} (hg : Blk w g t cs) (ht : t ≠ 5) (i : Nat) (u : Value) : Qw (w.setCell ⟨g, i, none⟩ u) base v xs :=
  q_move h (fun k hk => Below.heap_setCell w _ u k (by
    rintro rfl
    obtain ⟨_, cells, hc⟩ := q_typed h _ hk
    have hg' := hc.symm.trans hg
    injection hg' with hg'; injection hg' with _ hg'
    exact ht hg'.symm))
theorem Qw.keep {w w1 : World} {base g : Nat} {v : Value} {xs : List Int} (h : Qw w base v xs) {t : Nat} {cs : List Value} (hg : Blk w g t cs) (ht : t ≠ 5) (hk : KeepBut w w1 g none) : Qw w1 base v xs :=
  q_move h (fun k hv => hk.2 k (q_lt h k hv) (by
    rintro rfl
    obtain ⟨_, cells, hc⟩ := q_typed h _ hv
    have hg' := hc.symm.trans hg
    injection hg' with hg'; injection hg' with _ hg'
    exact ht hg'.symm) (by simp))
theorem Qw.ne {w : World} {base g : Nat} {v : Value} {xs : List Int} (h : Qw w base v xs) {t : Nat} {cs : List Value} (hg : Blk w g t cs) (ht : t ≠ 5) : some g ≠ v.ownBlock := by
  intro he
  obtain ⟨_, cells, hc⟩ := q_typed h g he.symm
  have hg' := hc.symm.trans hg
  injection hg' with hg'; injection hg' with _ hg'
  exact ht hg'.symm
theorem Qw.drop {w : World} {base : Nat} {A : Option Addr} {n c : Nat} {xs : List Int} (h : Qw w base (.slice A n c) xs) (k : Nat) (hk : k ≤ xs.length) (hn : n = xs.length) :
    Qw w base (.slice (if c = k then A else A.map (·.add (k * 1))) (n - k) (c - k)) (xs.drop k) := by
  subst hn
  have := q_drop h hk
  unfold Qw
  rw [List.length_drop]
  have e : nums .u8 (xs.drop k) = (nums .u8 xs).drop (k * 1) := by simp [nums]
  rw [e]; exact this
/-- A slice of bytes lies in no block that has no byte. -/
theorem rd_apart {w : World} {A : Option Addr} {n c g t : Nat} {l : List Int} {cs : List Value} (h : Rd w A n c l) (hg : Blk w g t cs) (hno : ∀ (i : Nat) (x : Int), cs[i]? ≠ some (Value.int .u8 x)) : ∀ ad, A = some ad → 0 < n → ad.block ≠ g := by
  rintro ad rfl hp rfl
  obtain ⟨ad', e, hc⟩ := rd_cells h hp
  injection e with e
  subst e
  have hl := h.len
  have h0 := hc 0 _ (nums_get .u8 l 0 (by omega))
  have e0 : ad.add 0 = ad := by simp [Addr.add]
  rw [e0] at h0
  have hg' : w.heap[ad.block]? = some (.cells cs.toArray t (0, 0)) := hg
  simp only [World.cell?, hg'] at h0
  split at h0
  · cases h0
  · exact hno ad.off _ (by simpa using h0)
theorem rd_far {w : World} {A : Option Addr} {n c g t : Nat} {l : List Int} {cs : List Value} (h : Rd w A n c l) (hg : Blk w g t cs) (hno : ∀ (i : Nat) (x : Int), cs[i]? ≠ some (Value.int .u8 x)) (i : Nat) (u : Value) : Rd (w.setCell ⟨g, i, none⟩ u) A n c l :=
  ⟨h.len, h.cap, Kd.C_foot_ne (fun h => h) h.cells (rd_apart h hg hno) _ ((KeepBut.refl w g none).set_ i u)⟩
theorem Qw.rd' {w : World} {base : Nat} {A : Option Addr} {n c : Nat} {xs : List Int} (h : Qw w base (.slice A n c) xs) : Rd w A n c xs := by
  obtain ⟨A', c', e, hr⟩ := h.rd
  injection e with e1 e2 e3
  subst e1 e2 e3
  exact hr
/-- xs[k:], of a row of one's own -/
theorem qw_cut {w : World} {base : Nat} {A : Option Addr} {n c : Nat} {xs : List Int} (h : Qw w base (.slice A n c) xs) (k : Nat) {x : Int} (hx : x = k) (hk : k ≤ n) :
    ∃ A' c', (∀ W : World, (Instr.slice 22 (.slice A n c) (some (.int .i64 x)) none none).run Tryd.prog W = .ok (.slice A' (n - k) c') W) ∧ (∀ W : World, Qw W base (.slice A n c) xs → Qw W base (.slice A' (n - k) c') (xs.drop k)) ∧ (Value.slice A' (n - k) c').ownBlock = (Value.slice A n c).ownBlock := by
  subst hx
  have hr := Qw.rd' h
  obtain ⟨i, hi0, hsz⟩ := infoX
  have hcut := cut_from (P := Tryd.prog) 22 5 .i64 Tryd.underlying22 hi0 1 hsz A n c (k : Int) (by omega) (by omega)
  simp only [Int.toNat_natCast] at hcut
  refine ⟨_, _, hcut, fun W hW => Qw.drop hW k (by have := hr.len; omega) hr.len.symm, ?_⟩
  cases A with
  | none => split <;> rfl
  | some a => split <;> simp [Value.ownBlock, Addr.add] <;> split <;> rfl
theorem append_qw {ops : Array Oper} {rest : List Oper} {o : Oper} {a : Act} {Q : Exit → Act → World → Prop} {W : World} (base : Nat) (hgd : o.guard = none) (s x : Operand)
    (ho : o.op = .call { callee := .builtin .append, args := #[s, x], argTypes := #[22, 22] })
    (v : Value) (xs ys : List Int) (A : Option Addr) (m c : Nat) (hs : a.eval s = v) (hx : a.eval x = .slice A m c)
    (HO : Qw W base v xs) (HR : Rd W A m c ys) (hbase : base ≤ W.heap.size) (hl : xs.length + m ≤ 140737488355328)
    (h : ∀ v1 w1, Qw w1 base v1 (xs ++ ys) → W.grownBy w1 v.ownBlock → (v1.ownBlock = v.ownBlock ∨ ∃ b, v1.ownBlock = some b ∧ W.heap.size ≤ b) → wpList Tryd.prog ops Q rest (a.put o.dst v1) w1) :
    wpList Tryd.prog ops Q (o :: rest) a W := by
  obtain ⟨i0, hi, hzz⟩ := Option.map_eq_some_iff.1 infoB
  simp only [Prod.mk.injEq] at hzz
  obtain ⟨hz0, hz1, hz2⟩ := hzz
  have hm : ys.length = m := HR.len
  have hrun : ∃ v1 w1, (Builtin.append_ #[22, 22] o.type #[v, .slice A m c]).run Tryd.prog W = .ok v1 w1 ∧ Qw w1 base v1 (xs ++ ys) ∧ W.grownBy w1 v.ownBlock ∧ (v1.ownBlock = v.ownBlock ∨ ∃ b, v1.ownBlock = some b ∧ W.heap.size ≤ b) := by
    rcases Nat.eq_zero_or_pos m with h0 | hp
    · have hy : ys = [] := List.eq_nil_of_length_eq_zero (by omega)
      subst hy
      refine ⟨v, W, ?_, by rw [List.append_nil]; exact HO, World.grownBy.refl W _, .inl rfl⟩
      rw [h0]
      rcases HO.2 with ⟨hn, A', rfl, _⟩ | ⟨g, off, cap, cur, rfl, _, _, hnc, _⟩
      · cases A <;> cases A' <;> simp [Builtin.append_, run_underlying Tryd.underlying22, sizeOf, typeInfo, hi, Builtin.lenOf, Builtin.firstCells, loadCells, loadCellsFrom, storeCells, hn]
      · cases A <;> simp [Builtin.append_, run_underlying Tryd.underlying22, sizeOf, typeInfo, hi, Builtin.lenOf, Builtin.firstCells, hnc, loadCells, loadCellsFrom, storeCells]
    · obtain ⟨ad, rfl, hc⟩ := rd_cells HR hp
      obtain ⟨v1, w1, h1, h2, h3, h4⟩ := q_append (P := Tryd.prog) W base 22 o.type 5 i0 (.int .u8 0) 1 1 Tryd.underlying22 hi hz0 hz1 hz2 rfl (by decide) v xs.length (nums .u8 xs) HO ad m c (nums .u8 ys) (by rw [nums_length, hm, Nat.mul_one]) hc (nums_one _ _) hp (by simp only [maxLen]; omega) (by omega) hbase
      refine ⟨v1, w1, h1, ?_, h3, h4⟩
      unfold Qw
      rw [List.length_append, nums_append, hm]
      exact h2
  obtain ⟨v1, w1, hr, h2, h3, h4⟩ := hrun
  refine wpList_plain hgd fun K hK => ?_
  unfold Oper.wp execOp
  simp only [ho, resolve, invoke, builtin, Sem.run_bind, Sem.run_pure, Result.andThen_ok, List.map_toArray, List.map_cons, List.map_nil, hs, hx, hr]
  exact hK _ _ (h v1 w1 h2 h3 h4)

theorem blk_grow {w w' : World} {g t : Nat} {row : Option Nat} {cs : List Value} (h : Blk w g t cs) (hg : w.grownBy w' row) (hne : some g ≠ row) : Blk w' g t cs := (hg.block g (Blk.lt h) hne).trans h
/-- What became of the world: of the elder blocks just two were written. -/
structure Fr (w w' : World) (g : Nat) (row : Option Nat) : Prop where
  os : w'.os = w.os
  tape : w'.tape = w.tape
  output : w'.output = w.output
  size : w.heap.size ≤ w'.heap.size
  block : ∀ k, k < w.heap.size → k ≠ g → some k ≠ row → w'.heap[k]? = w.heap[k]?
theorem Fr.refl (w : World) (g : Nat) (row : Option Nat) : Fr w w g row := ⟨rfl, rfl, rfl, Nat.le_refl _, fun _ _ _ _ => rfl⟩
theorem Fr.of_below {w w' : World} (h : Below w.heap.size w w') (g : Nat) (row : Option Nat) : Fr w w' g row := ⟨h.os, h.tape, h.output, h.size, fun k hk _ _ => h.block k hk⟩
theorem Fr.trans {w w1 w2 : World} {g : Nat} {row row1 : Option Nat} (h : Fr w w1 g row) (k : Fr w1 w2 g row1) (hr : row1 = row ∨ ∃ b, row1 = some b ∧ w.heap.size ≤ b) : Fr w w2 g row :=
  ⟨k.os.trans h.os, k.tape.trans h.tape, k.output.trans h.output, Nat.le_trans h.size k.size, fun i hi hg hne => (k.block i (Nat.lt_of_lt_of_le hi h.size) hg (by
    rcases hr with e | ⟨b, e, hb⟩
    · rw [e]; exact hne
    · rw [e]; intro e'; injection e' with e'; omega)).trans (h.block i hi hg hne)⟩
theorem Fr.next {w w1 w2 : World} {g : Nat} {row : Option Nat} (h : Fr w w1 g row) (k : Below w1.heap.size w1 w2) : Fr w w2 g row := h.trans (Fr.of_below k g row) (.inl rfl)
theorem Fr.setCell {w w1 : World} {g : Nat} {row : Option Nat} (h : Fr w w1 g row) (i : Nat) (u : Value) : Fr w (w1.setCell ⟨g, i, none⟩ u) g row :=
  ⟨h.os, h.tape, h.output, by simpa [World.setCell] using h.size, fun k hk hg hne => (Below.heap_setCell w1 _ u k hg).trans (h.block k hk hg hne)⟩
theorem Fr.grown {w w1 w2 : World} {g : Nat} {row row1 : Option Nat} (h : Fr w w1 g row) (k : w1.grownBy w2 row1) (hr : row1 = row ∨ ∃ b, row1 = some b ∧ w.heap.size ≤ b) : Fr w w2 g row :=
  h.trans ⟨k.os, k.tape, k.output, k.size, fun i hi _ hne => k.block i hi hne⟩ hr
theorem Fr.drewN {w w1 : World} {g : Nat} {row : Option Nat} (h : Fr w w1 g row) (n : Nat) : Fr w (w1.drewN n) g row := ⟨h.os, h.tape, h.output, h.size, h.block⟩
theorem Fr.drew {w w1 : World} {g : Nat} {row : Option Nat} (h : Fr w w1 g row) : Fr w w1.drew g row := ⟨h.os, h.tape, h.output, h.size, h.block⟩
theorem Fr.below {w0 w w1 : World} {g B : Nat} {row : Option Nat} (h : Fr w w1 g row) (hb : Below B w0 w) (hB : B ≤ w.heap.size) (hg : B ≤ g) (hr : ∀ k, row = some k → B ≤ k) : Below B w0 w1 :=
  ⟨h.os.trans hb.os, h.tape.trans hb.tape, h.output.trans hb.output, Nat.le_trans hb.size h.size, fun k hk => (h.block k (by omega) (by omega) (by intro e; have := hr k e.symm; omega)).trans (hb.block k hk)⟩

/-- A State to which bytes b were added: it lies in block g, its tail is v. -/
structure St (w : World) (base g : Nat) (v : Value) (b : List Int) : Prop where
  ge : base ≤ g
  isB : IsB b
  blk : Blk w g 91 (nums .u32 (goneS b).list ++ [v, .int .u64 b.length])
  tail : Qw w base v (restS b)
theorem St.lt {w : World} {base g : Nat} {v : Value} {b : List Int} (h : St w base g v b) : g < w.heap.size := Blk.lt h.blk
theorem St.row_ge {w : World} {base g : Nat} {v : Value} {b : List Int} (h : St w base g v b) : ∀ k, v.ownBlock = some k → base ≤ k := fun k hk => (q_typed h.tail k hk).1
theorem St.row_lt {w : World} {base g : Nat} {v : Value} {b : List Int} (h : St w base g v b) : ∀ k, v.ownBlock = some k → k < w.heap.size := fun k hk => q_lt h.tail k hk
theorem St.row_ne {w : World} {base g : Nat} {v : Value} {b : List Int} (h : St w base g v b) : some g ≠ v.ownBlock := Qw.ne h.tail h.blk (by decide)
theorem St.below {w w1 : World} {base g : Nat} {v : Value} {b : List Int} (h : St w base g v b) (hb : Below w.heap.size w w1) : St w1 base g v b := ⟨h.ge, h.isB, Blk.below h.blk hb, h.tail.below hb⟩
theorem St.lower {w : World} {base base' g : Nat} {v : Value} {b : List Int} (h : St w base g v b) (hb : base' ≤ base) : St w base' g v b := ⟨Nat.le_trans hb h.ge, h.isB, h.blk, q_lower h.tail hb⟩
/-- Another state was written: this one lives on. -/
theorem St.fr {w w1 : World} {base g g' : Nat} {v : Value} {row : Option Nat} {b : List Int} (h : St w base g v b) (hf : Fr w w1 g' row) (h1 : g ≠ g') (h2 : some g ≠ row) (h3 : some g' ≠ v.ownBlock) (h4 : v.ownBlock = none ∨ v.ownBlock ≠ row) : St w1 base g v b :=
  ⟨h.ge, h.isB, (hf.block g h.lt h1 h2).trans h.blk, q_move h.tail (fun k hk => hf.block k (h.row_lt k hk) (by intro e; exact h3 (by rw [hk, e])) (by
    rcases h4 with e | e
    · rw [e] at hk; cases hk
    · rw [← hk]; exact e))⟩
theorem st_no8 (s : H8) (v : Value) (m : Int) (hv : ∀ x : Int, v ≠ Value.int .u8 x) : ∀ (i : Nat) (x : Int), (nums .u32 s.list ++ [v, .int .u64 m])[i]? ≠ some (Value.int .u8 x) := by
  intro i x h
  have hm := List.mem_of_getElem? h
  simp [nums, H8.list] at hm
  exact hv x hm.symm
theorem nums8 (s : H8) : nums .u32 s.list = [.int .u32 s.a, .int .u32 s.b, .int .u32 s.c, .int .u32 s.d, .int .u32 s.e, .int .u32 s.f, .int .u32 s.g, .int .u32 s.h] := rfl
/-- Eight words are put into a block whose first cells they are. -/
theorem blk_put8 {w : World} {g t : Nat} {s : H8} {rest : List Value} (h : Blk w g t (nums .u32 s.list ++ rest)) (b1 b2 b3 b4 b5 b6 b7 b8 : Int) :
    Blk ((((((((w.setCell ⟨g, 0, none⟩ (.int .u32 b1)).setCell ⟨g, 1, none⟩ (.int .u32 b2)).setCell ⟨g, 2, none⟩ (.int .u32 b3)).setCell ⟨g, 3, none⟩ (.int .u32 b4)).setCell ⟨g, 4, none⟩ (.int .u32 b5)).setCell ⟨g, 5, none⟩ (.int .u32 b6)).setCell ⟨g, 6, none⟩ (.int .u32 b7)).setCell ⟨g, 7, none⟩ (.int .u32 b8)) g t (nums .u32 (H8.list ⟨b1, b2, b3, b4, b5, b6, b7, b8⟩) ++ rest) :=
  Blk.set_ (Blk.set_ (Blk.set_ (Blk.set_ (Blk.set_ (Blk.set_ (Blk.set_ (Blk.set_ h 0 (.int .u32 b1)) 1 (.int .u32 b2)) 2 (.int .u32 b3)) 3 (.int .u32 b4)) 4 (.int .u32 b5)) 5 (.int .u32 b6)) 6 (.int .u32 b7)) 7 (.int .u32 b8)
theorem Tb.fr {w w1 : World} {g : Nat} {row : Option Nat} (h : Tb w) (hf : Fr w w1 g row) (hg : 0 < g) (hr : ∀ k, row = some k → 0 < k) : Tb w1 := by
  have hl := h.lt
  obtain ⟨t, fr, h⟩ := h
  exact ⟨t, fr, (hf.block 0 hl (by omega) (by intro e; have := hr 0 e.symm; omega)).trans h⟩
theorem block8 {A : Option Addr} {c : Nat} {l : List Int} {a1 a2 a3 a4 a5 a6 a7 a8 : Int} {w : World} (hs : H8.ok ⟨a1, a2, a3, a4, a5, a6, a7, a8⟩) (hr : Rd w A 64 c l) (hb : IsB l) (ht : Tb w) :
    Calls Tryd.prog 69 #[.agg #[.int .u32 a1, .int .u32 a2, .int .u32 a3, .int .u32 a4, .int .u32 a5, .int .u32 a6, .int .u32 a7, .int .u32 a8], .slice A 64 c] w fun e w' =>
      ∃ b1 b2 b3 b4 b5 b6 b7 b8 : Int, Aside0 (blockS ⟨a1, a2, a3, a4, a5, a6, a7, a8⟩ l = ⟨b1, b2, b3, b4, b5, b6, b7, b8⟩) ∧ e = .returned (.agg #[.int .u32 b1, .int .u32 b2, .int .u32 b3, .int .u32 b4, .int .u32 b5, .int .u32 b6, .int .u32 b7, .int .u32 b8]) ∧ Below w.heap.size w w' := by
  refine (block_c (s := ⟨a1, a2, a3, a4, a5, a6, a7, a8⟩) hs hr hb ht).mono ?_
  rintro e w' ⟨rfl, hB⟩
  exact ⟨_, _, _, _, _, _, _, _, ⟨rfl⟩, rfl, hB⟩
end Go.Proofs.YtmmbonlidcbkcaaDoor.DgState
/- digest.New and (State).Add, walked. -/
namespace Go.Proofs.YtmmbonlidcbkcaaDoor.DgAdd
open Go.RowKit Go.Proofs.YtmmbonlidcbkcaaDoorW.PrintWords Go.Proofs.YtmmbonlidcbkcaaDoor.Num Go.Proofs.YtmmbonlidcbkcaaDoor.Sha Go.Proofs.YtmmbonlidcbkcaaDoor.WordC Go.Proofs.YtmmbonlidcbkcaaDoor.Arr Go.Proofs.YtmmbonlidcbkcaaDoor.App Go.Proofs.YtmmbonlidcbkcaaDoor.DgC Go.Proofs.YtmmbonlidcbkcaaDoor.DgWords Go.Proofs.YtmmbonlidcbkcaaDoor.DgBlock Go.Proofs.YtmmbonlidcbkcaaDoor.DgState
set_option linter.unusedVariables false
set_option linter.unusedSimpArgs false

set_option maxHeartbeats 1000000 in
theorem New_c {w : World} : Calls Tryd.prog 29 #[] w fun e w' => ∃ g, e = .returned (.pointer (some ⟨g, 0, none⟩)) ∧ St w' w.heap.size g (.slice none 0 0) [] ∧ Below w.heap.size w w' := by
  go_enter Tryd.func29, Tryd.ntmps29
  go_wp2
  go_ret
  exact ⟨_, rfl, ⟨Nat.le_refl _, (fun x hx => by cases hx), heap_alloc_new _ _, Qw.nil _ _⟩, (Below.refl _ _).alloc (Nat.le_refl _) _⟩
theorem Add_none {A : Option Addr} {n c : Nat} {w : World} : Calls Tryd.prog 30 #[.pointer none, .slice A n c] w fun e w' => e = .returned (.tuple #[]) ∧ w' = w := by
  go_enter Tryd.func30, Tryd.ntmps30
  go_wp2
  exact bodyPost_ret (v := .tuple #[]) (by simp [results, Tryd.results30, go_sem]) rfl ⟨rfl, rfl⟩
theorem drop64 (X : List Int) (j : Nat) : (X.drop (64 * j)).drop 64 = X.drop (64 * (j + 1)) := by rw [List.drop_drop]; congr 1
theorem blocksS_next (s : H8) (X : List Int) (j : Nat) : blockS (blocksS j s X) ((X.drop (64 * j)).take 64) = blocksS (j + 1) s X := by rw [blocksS_add j 1]; rfl
set_option maxHeartbeats 8000000 in
set_option maxRecDepth 100000 in
theorem Add_c {base g : Nat} {v : Value} {b l : List Int} {A : Option Addr} {n c : Nat} {w : World} (hS : St w base g v b) (hr : Rd w A n c l) (hB : IsB l) (ht : Tb w) (ht0 : 0 < base) (hbase : base ≤ w.heap.size) (hl : b.length + n ≤ 140737488355328) :
    Calls Tryd.prog 30 #[.pointer (some ⟨g, 0, none⟩), .slice A n c] w fun e w' => e = .returned (.tuple #[]) ∧ ∃ v', St w' base g v' (b ++ l) ∧ Fr w w' g v.ownBlock ∧ (v'.ownBlock = v.ownBlock ∨ ∃ k, v'.ownBlock = some k ∧ w.heap.size ≤ k) := by
  obtain ⟨hge, hbB, hblk, htail⟩ := hS
  obtain ⟨Av, cv, rfl, hrv⟩ := htail.rd
  have hno := st_no8 (goneS b) (.slice Av (restS b).length cv) b.length (fun x h => by cases h)
  have hln := hr.len
  have hrl := restS_length b
  have hrB : IsB (restS b) := fun x hx => hbB x (List.mem_of_mem_drop hx)
  have hw : IntKind.u64.wrap ((b.length : Int) + (n : Int)) = ((b ++ l).length : Int) := by rw [IntWalk.u64_in _ (by omega), List.length_append]; omega
  have c9 : w.cell? ⟨g, 9, none⟩ = some (.int .u64 b.length) := Blk.cell hblk 9
  have f9 := Blk.frozen hblk 9
  have hT1 : Qw (w.setCell ⟨g, 9, none⟩ (.int .u64 ((b ++ l).length : Int))) base (.slice Av (restS b).length cv) (restS b) := htail.far hblk (by decide) 9 _
  have hB1 : Blk (w.setCell ⟨g, 9, none⟩ (.int .u64 ((b ++ l).length : Int))) g 91 (nums .u32 (goneS b).list ++ [.slice Av (restS b).length cv, .int .u64 (b ++ l).length]) := Blk.set_ hblk 9 _
  have hF1 : Fr w (w.setCell ⟨g, 9, none⟩ (.int .u64 ((b ++ l).length : Int))) g (Value.slice Av (restS b).length cv).ownBlock := (Fr.refl w g _).setCell 9 _
  have hR1 := rd_far hr hblk hno 9 (.int .u64 ((b ++ l).length : Int))
  have hs1 : base ≤ (w.setCell ⟨g, 9, none⟩ (.int .u64 ((b ++ l).length : Int))).heap.size := by simpa [World.setCell] using hbase
  have hrl' : (restS b).length + n ≤ 140737488355328 := by omega
  obtain ⟨T, HT⟩ : ∃ T : Nat, Aside0 ((b ++ l).length = T) := ⟨_, ⟨rfl⟩⟩
  rw [HT.out] at hT1 hB1 hF1 hR1 hs1 hw
  have HTB := Aside0.mk hblk
  have HLN := Aside0.mk hln
  have HRL := Aside0.mk hrl
  have c8 : (w.setCell ⟨g, 9, none⟩ (.int .u64 (T : Int))).cell? ⟨g, 8, none⟩ = some (.slice Av (restS b).length cv) := Blk.cell hB1 8
  obtain ⟨X, HX⟩ : ∃ X, Aside0 (restS b ++ l = X) := ⟨_, ⟨rfl⟩⟩
  have hXB : IsB X := by rw [← HX.out]; intro x hx; rcases List.mem_append.1 hx with h | h; exact hrB x h; exact hB x h
  have hXl : X.length = (restS b).length + n := by rw [← HX.out, List.length_append, hln]
  have hXm : X.length ≤ 140737488355328 := by omega
  have HXL := Aside0.mk hXl
  obtain ⟨row, HROW⟩ : ∃ row, Aside0 ((Value.slice Av (restS b).length cv).ownBlock = row) := ⟨_, ⟨rfl⟩⟩
  have hrow : ∀ k, row = some k → base ≤ k := by rw [← HROW.out]; exact fun k hk => (q_typed hT1 k hk).1
  have hrne : some g ≠ row := by rw [← HROW.out]; exact Qw.ne hT1 hB1 (by decide)
  rw [HROW.out] at hF1 ⊢
  have hgok := goneS_ok b
  clear hln hrl hblk htail hXl hr hrv hno
  go_enter Tryd.func30, Tryd.ntmps30
  go_wp2_with (first
    | (at_builtin; refine append_qw base rfl (.tmp 20) (.tmp 21) rfl (.slice Av (restS b).length cv) (restS b) l A n c rfl rfl hT1 hR1 hs1 hrl' ?_; intro v2 w2 hq2 hg2 hat2; rw [HROW.out] at hg2 hat2; rw [HX.out] at hq2; have hB2 := blk_grow hB1 hg2 hrne; have hF2 := hF1.grown hg2 (.inl rfl); have f8 := Blk.frozen hB2 8; have d8 : w2.cell? ⟨g, 8, none⟩ = some (.slice Av (restS b).length cv) := Blk.cell hB2 8; obtain ⟨A2, c2, rfl, hr2⟩ := hq2.rd))
  have hq3 : Aside0 (Qw (w2.setCell ⟨g, 8, none⟩ (.slice A2 X.length c2)) base (.slice A2 X.length c2) (X.drop (64 * 0))) := ⟨Qw.far hq2 hB2 (by decide) 8 _⟩
  have hB3 : Aside0 (Blk (w2.setCell ⟨g, 8, none⟩ (.slice A2 X.length c2)) g 91 (nums .u32 (blocksS 0 (goneS b) X).list ++ [.slice A2 X.length c2, .int .u64 T])) := ⟨Blk.set_ hB2 8 _⟩
  have hF3 : Fr w (w2.setCell ⟨g, 8, none⟩ (.slice A2 X.length c2)) g row := hF2.setCell 8 _
  have hat3 : Aside0 ((Value.slice A2 X.length c2).ownBlock = row ∨ ∃ k, (Value.slice A2 X.length c2).ownBlock = some k ∧ w.heap.size ≤ k) := ⟨by
    rcases hat2 with e | ⟨k, e, hk⟩
    · exact .inl e
    · exact .inr ⟨k, e, by simpa [World.setCell] using hk⟩⟩
  clear hq2 hB2 hF2 hat2 hg2 f8 d8 hr2 hR1 hT1 hB1 hF1 c8 c9 f9
  go_loopg [25] (X.length / 64) (fun k s25 wr => ∃ (j m : Nat) (Aj : Option Addr) (cj : Nat), 64 * j + m = X.length ∧ k + j = X.length / 64 ∧ Aside0 (Blk wr g 91 (nums .u32 (blocksS j (goneS b) X).list ++ [.slice Aj m cj, .int .u64 T])) ∧ Aside0 (Qw wr base (.slice Aj m cj) (X.drop (64 * j))) ∧ Fr w wr g row ∧ Aside0 ((Value.slice Aj m cj).ownBlock = row ∨ ∃ k, (Value.slice Aj m cj).ownBlock = some k ∧ w.heap.size ≤ k))
  case atStart => exact ⟨0, X.length, A2, c2, by omega, by omega, hB3, hq3, hF3, hat3⟩
  case round =>
    clear hq3 hB3 hF3 hat3
    obtain ⟨j, m, Aj, cj, hjm, hkj, hBj, hQj, hFj, hatj⟩ := hrel
    have k8 : wr.cell? ⟨g, 8, none⟩ = some (.slice Aj m cj) := Blk.cell hBj.out 8
    by_cases hlt : 64 ≤ m
    · have hlt' : (64 : Int) ≤ (m : Int) := by omega
      have hok := blocksS_ok hgok j X
      obtain ⟨R, HRE⟩ : ∃ R, Aside0 (blocksS j (goneS b) X = R) := ⟨_, ⟨rfl⟩⟩
      rw [HRE.out] at hBj hok
      obtain ⟨a1, a2, a3, a4, a5, a6, a7, a8⟩ := R
      have k0 : wr.cell? ⟨g, 0, none⟩ = some (.int .u32 a1) := Blk.cell hBj.out 0
      have k1 : wr.cell? ⟨g, 1, none⟩ = some (.int .u32 a2) := Blk.cell hBj.out 1
      have k2 : wr.cell? ⟨g, 2, none⟩ = some (.int .u32 a3) := Blk.cell hBj.out 2
      have k3 : wr.cell? ⟨g, 3, none⟩ = some (.int .u32 a4) := Blk.cell hBj.out 3
      have k4 : wr.cell? ⟨g, 4, none⟩ = some (.int .u32 a5) := Blk.cell hBj.out 4
      have k5 : wr.cell? ⟨g, 5, none⟩ = some (.int .u32 a6) := Blk.cell hBj.out 5
      have k6 : wr.cell? ⟨g, 6, none⟩ = some (.int .u32 a7) := Blk.cell hBj.out 6
      have k7 : wr.cell? ⟨g, 7, none⟩ = some (.int .u32 a8) := Blk.cell hBj.out 7
      have hrd := Qw.rd' hQj.out
      obtain ⟨hcut, hrd64⟩ := rd_slice_to hrd 64 (y := 64) (by omega) hlt
      obtain ⟨A', c', hcut2, hq', hown'⟩ := qw_cut hQj.out 64 (x := 64) (by omega) hlt
      have hI : IsB ((X.drop (64 * j)).take 64) := fun x hx => hXB x (List.mem_of_mem_drop (List.mem_of_mem_take hx))
      have HT1 : Tb wr.drew := Tb.fr ht hFj.drew (by omega) (fun k hk => by have := hrow k hk; omega)
      have hnext := blocksS_next (goneS b) X j
      rw [HRE.out] at hnext
      have HNEXT := Aside0.mk hnext
      have HQ' := Aside0.mk hq'
      have HOWN := Aside0.mk hown'
      clear hnext hq' hown' hrd
      go_wp2_with fail
      go_region_with (first
        | (go_at_call 69; (with_reducible refine (block8 hok hrd64.drew hI HT1).mono ?_); rintro x w4 ⟨b1, b2, b3, b4, b5, b6, b7, b8, HB8, rfl, hb4⟩; have hB4 := Blk.below (w := wr.drew) hBj.out hb4; have e8 : w4.cell? ⟨g, 8, none⟩ = some (.slice Aj m cj) := Blk.cell hB4 8; have e0 : w4.cell? ⟨g, 0, none⟩ = some (.int .u32 a1) := Blk.cell hB4 0; have e1 : w4.cell? ⟨g, 1, none⟩ = some (.int .u32 a2) := Blk.cell hB4 1; have e2 : w4.cell? ⟨g, 2, none⟩ = some (.int .u32 a3) := Blk.cell hB4 2; have e3 : w4.cell? ⟨g, 3, none⟩ = some (.int .u32 a4) := Blk.cell hB4 3; have e4 : w4.cell? ⟨g, 4, none⟩ = some (.int .u32 a5) := Blk.cell hB4 4; have e5 : w4.cell? ⟨g, 5, none⟩ = some (.int .u32 a6) := Blk.cell hB4 5; have e6 : w4.cell? ⟨g, 6, none⟩ = some (.int .u32 a7) := Blk.cell hB4 6; have e7 : w4.cell? ⟨g, 7, none⟩ = some (.int .u32 a8) := Blk.cell hB4 7; have g0 := Blk.frozen hB4 0; have g1 := Blk.frozen hB4 1; have g2 := Blk.frozen hB4 2; have g3 := Blk.frozen hB4 3; have g4 := Blk.frozen hB4 4; have g5 := Blk.frozen hB4 5; have g6 := Blk.frozen hB4 6; have g7 := Blk.frozen hB4 7; have g8 := Blk.frozen hB4 8; have HB4 := Aside0.mk hB4; clear hB4))
      all_goals
        have hW := blk_put8 HB4.out b1 b2 b3 b4 b5 b6 b7 b8
        have hQ4 := Qw.below (w := wr.drew) (w1 := w4) hQj.out hb4
        have hQ5 := Qw.keep hQ4 HB4.out (by decide) (((((((((KeepBut.refl w4 g none).set_ 0 (.int .u32 b1)).set_ 1 (.int .u32 b2)).set_ 2 (.int .u32 b3)).set_ 3 (.int .u32 b4)).set_ 4 (.int .u32 b5)).set_ 5 (.int .u32 b6)).set_ 6 (.int .u32 b7)).set_ 7 (.int .u32 b8))
        have hF5 := (((((((((hFj.drew.next hb4).setCell 0 (.int .u32 b1)).setCell 1 (.int .u32 b2)).setCell 2 (.int .u32 b3)).setCell 3 (.int .u32 b4)).setCell 4 (.int .u32 b5)).setCell 5 (.int .u32 b6)).setCell 6 (.int .u32 b7)).setCell 7 (.int .u32 b8))
        clear e0 g0 e1 g1 e2 g2 e3 g3 e4 g4 e5 g5 e6 g6 e7 g7 e8 g8 k0 k1 k2 k3 k4 k5 k6 k7 k8
        obtain ⟨w5, hw5⟩ : ∃ w5, w5 = ((((((((w4.setCell ⟨g, 0, none⟩ (.int .u32 b1)).setCell ⟨g, 1, none⟩ (.int .u32 b2)).setCell ⟨g, 2, none⟩ (.int .u32 b3)).setCell ⟨g, 3, none⟩ (.int .u32 b4)).setCell ⟨g, 4, none⟩ (.int .u32 b5)).setCell ⟨g, 5, none⟩ (.int .u32 b6)).setCell ⟨g, 6, none⟩ (.int .u32 b7)).setCell ⟨g, 7, none⟩ (.int .u32 b8)) := ⟨_, rfl⟩
        rw [← hw5] at hW hQ5 hF5 ⊢
        clear hw5
        rw [← HB8.out, HNEXT.out] at hW
        have k8 : w5.cell? ⟨g, 8, none⟩ = some (.slice Aj m cj) := Blk.cell hW 8
        have f8 := Blk.frozen hW 8
        have hW6 : Aside0 (Blk (w5.setCell ⟨g, 8, none⟩ (.slice A' (m - 64) c')) g 91 (nums .u32 (blocksS (j + 1) (goneS b) X).list ++ [.slice A' (m - 64) c', .int .u64 T])) := ⟨Blk.set_ hW 8 _⟩
        have hQ6 : Aside0 (Qw (w5.setCell ⟨g, 8, none⟩ (.slice A' (m - 64) c')) base (.slice A' (m - 64) c') (X.drop (64 * (j + 1)))) := ⟨by
          have h := Qw.far (HQ'.out _ hQ5) hW (by decide) 8 (.slice A' (m - 64) c')
          rw [drop64] at h; exact h⟩
        have hF6 : Fr w (w5.setCell ⟨g, 8, none⟩ (.slice A' (m - 64) c')) g row := hF5.setCell 8 _
        have hat6 : Aside0 ((Value.slice A' (m - 64) c').ownBlock = row ∨ ∃ k, (Value.slice A' (m - 64) c').ownBlock = some k ∧ w.heap.size ≤ k) := ⟨by rw [HOWN.out]; exact hatj.out⟩
        clear hW hQ4 hQ5 hF5
        go_wp2_with fail
        go_roundg (gk - 1)
        case measure => omega
        case rel => exact ⟨j + 1, m - 64, A', c', by omega, by omega, hW6, hQ6, hF6, hat6⟩
    · have hlt' : ¬ (64 : Int) ≤ (m : Int) := by omega
      have hj : j = X.length / 64 := by omega
      have HJ := Aside0.mk hj
      clear hj
      go_wp2_with fail
      go_end0
      have h1 := hBj.out
      have h2 := hQj.out
      have h3 := HXL.out
      have h4 := HLN.out
      rw [HJ.out] at h1 h2
      have e1 : blocksS (X.length / 64) (goneS b) X = goneS (b ++ l) := by rw [goneS_append, HX.out, h3, h4]
      have e2 : X.drop (64 * (X.length / 64)) = restS (b ++ l) := by rw [restS_append, HX.out]; rw [h3, h4]
      rw [e1, ← HT.out] at h1
      rw [e2] at h2
      exact ⟨rfl, _, ⟨hge, (fun x hx => by rcases List.mem_append.1 hx with h | h; exact hbB x h; exact hB x h), h1, h2⟩, hFj, hatj.out⟩
end Go.Proofs.YtmmbonlidcbkcaaDoor.DgAdd
/- (State).Sum, walked: the sum of all that was added. -/
namespace Go.Proofs.YtmmbonlidcbkcaaDoor.DgSum
open Go.RowKit Go.Proofs.YtmmbonlidcbkcaaDoorW.PrintWords Go.Proofs.YtmmbonlidcbkcaaDoor.Num Go.Proofs.YtmmbonlidcbkcaaDoor.Sha Go.Proofs.YtmmbonlidcbkcaaDoor.WordC Go.Proofs.YtmmbonlidcbkcaaDoor.Arr Go.Proofs.YtmmbonlidcbkcaaDoor.App Go.Proofs.YtmmbonlidcbkcaaDoor.DgC Go.Proofs.YtmmbonlidcbkcaaDoor.DgWords Go.Proofs.YtmmbonlidcbkcaaDoor.DgBlock Go.Proofs.YtmmbonlidcbkcaaDoor.DgState Go.Proofs.YtmmbonlidcbkcaaDoor.DgAdd
set_option linter.unusedVariables false
set_option linter.unusedSimpArgs false

theorem size27 : (Tryd.prog.info? 27).map (·.size) = some 32 := by kernel_rfl
theorem rd_one (w : World) (x : Int) : Rd (w.alloc (.cells #[.int .u8 x] 5)) (some ⟨w.heap.size, 0, none⟩) 1 1 [x] :=
  rd_of_blk (t := 5) (cs := [.int .u8 x]) (heap_alloc_new _ _) 0 [x] 1 (Nat.le_refl _) (by simp) (fun j hj => by
    have : j = 0 := by simp at hj; omega
    subst this; rfl)
theorem rd_keep {w w1 : World} {A : Option Addr} {n c g t : Nat} {l : List Int} {cs : List Value} (h : Rd w A n c l) (hg : Blk w g t cs) (hno : ∀ (i : Nat) (x : Int), cs[i]? ≠ some (Value.int .u8 x)) (hk : KeepBut w w1 g none) : Rd w1 A n c l :=
  ⟨h.len, h.cap, Kd.C_foot_ne (fun h => h) h.cells (rd_apart h hg hno) _ hk⟩
theorem h8_no8 (s : H8) : ∀ (i : Nat) (x : Int), (nums .u32 s.list)[i]? ≠ some (Value.int .u8 x) := by
  intro i x h
  have hm := List.mem_of_getElem? h
  simp [nums, H8.list] at hm
theorem outS_take (s : H8) (i : Nat) (h : i < 8) : (outS s).take (4 * i) ++ told 4 (s.list.getD i 0) = (outS s).take (4 * (i + 1)) := by
  have hc : i = 0 ∨ i = 1 ∨ i = 2 ∨ i = 3 ∨ i = 4 ∨ i = 5 ∨ i = 6 ∨ i = 7 := by omega
  rcases hc with rfl | rfl | rfl | rfl | rfl | rfl | rfl | rfl <;> rfl
theorem index8 (s : H8) (t : Nat) (ht : t < 8) (w : World) : (Instr.index 89 (.agg #[.int .u32 s.a, .int .u32 s.b, .int .u32 s.c, .int .u32 s.d, .int .u32 s.e, .int .u32 s.f, .int .u32 s.g, .int .u32 s.h]) (.int .i64 t)).run Tryd.prog w = .ok (.int .u32 (s.list.getD t 0)) w := by
  obtain ⟨i, hi, hz⟩ := Option.map_eq_some_iff.1 info88
  have hn : (0 : Int) ≤ (t : Int) ∧ (t : Int) < 8 := by omega
  have hk := nums_get .u32 s.list t (by exact ht)
  have hg : (isAgg 88).run Tryd.prog w = .ok false w := by
    unfold isAgg
    rw [Sem.run_bind, run_underlying Tryd.underlying88]
    rfl
  show (Instr.index 89 (.agg (nums .u32 s.list).toArray) (.int .i64 t)).run Tryd.prog w = _
  simp [Instr.index, run_underlying Tryd.underlying89, asIntOf, hn, go_sem, Go.sizeOf, typeInfo, hi, hz, ht, hg, hk]
theorem sizeU8 : (Tryd.prog.info? 5).map (·.size) = some 1 := by kernel_rfl
/-- out[4*i:], of an array of 32 bytes -/
theorem slice_arr (G T : Nat) (h : T < 8) (W : World) : (Instr.sliceAt 27 (.pointer (some ⟨G, 0, none⟩)) (some (.int .i64 (4 * (T : Int)))) none none).run Tryd.prog W = .ok (.slice (some ⟨G, 4 * T, none⟩) (32 - 4 * T) (32 - 4 * T)) W := by
  obtain ⟨i, hi, hz⟩ := infoX
  have h0 : (0 : Int) ≤ 4 * (T : Int) ∧ 4 * (T : Int) ≤ 32 := by omega
  have h1 : (4 * (T : Int)).toNat = 4 * T := by omega
  have h2 : ¬ 32 = 4 * T := by omega
  have h3 : (⟨G, 0, none⟩ : Addr).add (4 * T) = ⟨G, 4 * T, none⟩ := add_plain G (4 * T)
  simp [Instr.sliceAt, run_underlying Tryd.underlying27, Instr.sureAddr, Instr.sliceBounds, Instr.sliceBound, asIntOf, sizeOf, typeInfo, hi, hz, h0, h1, h2, h3]
/-- The bytes of the sum as they stand when so many words have been told. -/
def outT (s : H8) (T : Nat) : List Int := (outS s).take (4 * T) ++ List.replicate (32 - 4 * T) 0
theorem outT_length (s : H8) (T : Nat) (h : T ≤ 8) : (outT s T).length = 32 := by simp [outT, outS_length]; omega
theorem outT_zero (s : H8) : outT s 0 = List.replicate 32 0 := rfl
theorem outT_full (s : H8) : outT s 8 = outS s := by
  unfold outT
  rw [List.take_of_length_le (by rw [outS_length]; omega)]; simp
theorem outT_next (s : H8) (T : Nat) (h : T < 8) : (nums .u8 (outT s T)).take (4 * T) ++ nums .u8 (told 4 (s.list.getD T 0)) ++ (nums .u8 (outT s T)).drop (4 * T + 4) = nums .u8 (outT s (T + 1)) := by
  have hl : ((outS s).take (4 * T)).length = 4 * T := by rw [List.length_take, outS_length]; omega
  unfold nums
  rw [← List.map_take, ← List.map_drop, ← List.map_append, ← List.map_append]
  congr 1
  unfold outT
  rw [← outS_take s T h, List.take_append_of_le_length (by omega), List.take_of_length_le (by omega), List.drop_append, List.drop_of_length_le (by omega), hl, show 4 * T + 4 - 4 * T = 4 by omega, List.drop_replicate, show 32 - 4 * T - 4 = 32 - 4 * (T + 1) by omega]
  simp
theorem endS_isB (n : Nat) : IsB (endS n) := fun x hx => paddedS_isB (b := List.replicate n 0) (fun y hy => by rw [(List.mem_replicate.1 hy).2]; omega) x (by simp [paddedS, hx])
set_option maxHeartbeats 8000000 in
set_option maxRecDepth 100000 in
theorem Sum_c {base g : Nat} {v : Value} {b : List Int} {w : World} (hS : St w base g v b) (ht : Tb w) (hn : b.length ≤ 140737488351232) :
    Calls Tryd.prog 31 #[.pointer (some ⟨g, 0, none⟩)] w fun e w' => e = .returned (.agg (nums .u8 (shaS b)).toArray) ∧ Below w.heap.size w w' := by
  go_enter Tryd.func31, Tryd.ntmps31
  go_upto_region 3 with (fail)
  generalize hW : w.alloc _ = W0
  have hB0 : Below w.heap.size w W0 := by rw [← hW]; exact (Below.refl _ w).alloc (Nat.le_refl _) _
  have hO : Aside0 (Blk W0 w.heap.size 27 (nums .u8 (List.replicate 32 0))) := ⟨by rw [← hW]; exact heap_alloc_new _ _⟩
  clear hW
  have hS0 := hS.below hB0
  have ht0 := ht.below hB0
  clear hS ht
  obtain ⟨hge, hSI, hSb, hSt⟩ := hS0
  obtain ⟨Av, cv, rfl, hrv⟩ := hSt.rd
  clear hSt hge
  have hl := restS_length b
  have hrB : IsB (restS b) := fun x hx => hSI x (List.mem_of_mem_drop hx)
  obtain ⟨r, HR⟩ : ∃ r, Aside0 (restS b = r) := ⟨_, ⟨rfl⟩⟩
  obtain ⟨s0, HS0⟩ : ∃ s0, Aside0 (goneS b = s0) := ⟨_, ⟨rfl⟩⟩
  have hs0 := goneS_ok b
  rw [HS0.out] at hs0 hSb
  rw [HR.out] at hl hrB hrv hSb
  obtain ⟨n, HN⟩ : ∃ n, Aside0 (b.length = n) := ⟨_, ⟨rfl⟩⟩
  rw [HN.out] at hl hn hSb
  have hsh : shaS b = outS (blocksS ((r.length + (endS n).length) / 64) s0 (r ++ endS n)) := by rw [shaS_of b, HR.out, HS0.out, HN.out]
  obtain ⟨m, HM0⟩ : ∃ m, Aside0 (r.length = m) := ⟨_, ⟨rfl⟩⟩
  rw [HM0.out] at hl hrv hSb hsh
  have HSH := Aside0.mk hsh
  clear hsh hSI
  have hm64 : m < 64 := by omega
  obtain ⟨a1, a2, a3, a4, a5, a6, a7, a8⟩ := s0
  have HL := Aside0.mk hl
  have HSB := Aside0.mk hSb
  have k8 : (W0.alloc (.cells #[] 5)).cell? ⟨g, 8, none⟩ = some (.slice Av m cv) := Blk.cell (hSb.alloc _) 8
  clear hl hSb
  go_wp2_with (first
    | (at_builtin; refine append_ow (w0 := W0) W0.heap.size rfl (.tmp 11) (.tmp 15) rfl (.slice (some ⟨W0.heap.size, 0, none⟩) 0 0) [] r Av m cv rfl rfl (ow_empty W0 _ (Nat.le_refl _)) (hrv.alloc _) ((Below.refl _ _).alloc (Nat.le_refl _) _) (by simp) (by simp; omega) ?_; intro v1 w1 ho1 hb1 hx1 hy1; clear hx1 hy1; rw [List.nil_append] at ho1; obtain ⟨A1, c1, rfl, hr1⟩ := rd_of_own ho1; rw [HM0.out] at ho1 hr1 ⊢)
    | (at_builtin; refine append_ow (w0 := W0) W0.heap.size rfl (.tmp 16) (.tmp 17) rfl (.slice A1 m c1) r [128] (some ⟨w1.heap.size, 0, none⟩) 1 1 rfl rfl (Kd.R_alloc ho1 _) (rd_one w1 128) (hb1.alloc hb1.size _) (Nat.le_trans hb1.size (by simp)) (by rw [HM0.out]; omega) ?_; intro v2 w2 ho2 hb2 hx2 hy2; clear hx2 hy2; obtain ⟨A2, c2, rfl, hr2⟩ := rd_of_own ho2; have e2 : (r ++ [128]).length = m + 1 := (by simp [HM0.out]); rw [e2] at ho2; rw [e2] at hr2; rw [e2]; clear e2))
  have H2 : Aside0 (Ow w2 W0.heap.size (.slice A2 (m + 1) c2) (r ++ 128 :: List.replicate 0 0)) := ⟨ho2⟩
  clear ho1 ho2 hr1 hr2 hb1 k8
  go_loopw [3] (fun v wq => ∃ (k : Nat) (vv : Value), k ≤ zerosS n ∧ vv = v ∧ Aside0 (Ow wq W0.heap.size vv (r ++ 128 :: List.replicate k 0)) ∧ Below W0.heap.size W0 wq) (fun v _ => 200 - (match v with | .slice _ q _ => q | _ => 0))
  case atStart => exact ⟨0, _, by omega, rfl, H2, hb2⟩
  case round =>
    clear H2 hb2
    obtain ⟨k, vv, hk, rfl, hO1, hB⟩ := hrel
    obtain ⟨A3, c3, rfl, hr3⟩ := rd_of_own hO1.out
    have hM : (r ++ 128 :: List.replicate k 0).length = m + 1 + k := by simp [HM0.out]; omega
    by_cases hlt : k < zerosS n
    · have h56 : ((m + 1 + k : Nat) : Int) % 64 ≠ 56 := by have h9 := HL.out; unfold zerosS at hlt; omega
      rw [hM] at hr3 ⊢
      have HO : Aside0 (Ow wr W0.heap.size (.slice A3 (m + 1 + k) c3) (r ++ 128 :: List.replicate k 0)) := ⟨by have h := hO1.out; rw [hM] at h; exact h⟩
      have HM := Aside0.mk hM
      clear hM hO1
      have hk64 : k < 64 := by unfold zerosS at hlt; omega
      go_wp2_with (first
        | (at_builtin; refine append_ow (w0 := W0) W0.heap.size rfl (.tmp 23) (.tmp 24) rfl (.slice A3 (m + 1 + k) c3) (r ++ 128 :: List.replicate k 0) [0] (some ⟨wr.heap.size, 0, none⟩) 1 1 rfl rfl (Kd.R_alloc HO.out _) (rd_one wr 0) (hB.alloc hB.size _) (Nat.le_trans hB.size (by simp)) (by rw [HM.out]; omega) ?_; intro v4 w4 ho4 hb4 hx4 hy4; clear hx4 hy4; rw [List.append_assoc, List.cons_append, ← List.replicate_succ'] at ho4; obtain ⟨A4, c4, rfl, hr4⟩ := rd_of_own ho4; have e4 : (r ++ 128 :: List.replicate (k + 1) 0).length = m + 1 + (k + 1) := (by simp [HM0.out]; omega); rw [e4] at ho4; rw [e4] at hr4; rw [e4]; clear e4))
      go_roundw
      case rel => exact ⟨k + 1, _, by omega, rfl, ⟨ho4⟩, hb4⟩
      case measure =>
        show 200 - (m + 1 + (k + 1)) < 200 - (m + 1 + k)
        clear h56 hlt
        omega
    · have hkz : k = zerosS n := by omega
      have h56 : ((m + 1 + k : Nat) : Int) % 64 = 56 := by have h9 := HL.out; rw [hkz]; unfold zerosS; omega
      rw [hM] at hr3 ⊢
      have HO1 : Aside0 (Ow wr W0.heap.size (.slice A3 (m + 1 + k) c3) (r ++ 128 :: List.replicate (zerosS n) 0)) := ⟨by have h := hO1.out; rw [hM] at h; rw [← hkz]; exact h⟩
      have hk64 : k < 64 := by rw [hkz]; unfold zerosS; omega
      have HM := Aside0.mk hM
      have HKZ := Aside0.mk hkz
      clear hM hO1 hkz hlt hk
      have k9 : wr.cell? ⟨g, 9, none⟩ = some (.int .u64 n) := Blk.cell (HSB.out.below hB) 9
      go_wp2_with fail
      refine (Tell_c (a := (n : Int) * 8) (by omega) (by omega)).mono ?_
      rintro x w4 ⟨v4, rfl, ho4, hb4⟩
      obtain ⟨A4, c4, rfl, hr4⟩ := rd_of_own ho4
      have l8 := told_length 8 ((n : Int) * 8)
      rw [l8] at hr4 ⊢
      have hO4 : Ow w4 W0.heap.size (.slice A3 (m + 1 + k) c3) (r ++ 128 :: List.replicate (zerosS n) 0) := Kd.R_below HO1.out hb4
      have hB4 := below_next hB hb4
      obtain ⟨E, HE⟩ : ∃ E, Aside0 (r ++ endS n = E) := ⟨_, ⟨rfl⟩⟩
      have hEe : (r ++ 128 :: List.replicate (zerosS n) 0) ++ told 8 ((n : Int) * 8) = E := by rw [← HE.out]; unfold endS; simp
      have hEl : E.length = m + (endS n).length := by rw [← HE.out, List.length_append, HM0.out]
      have hEm : E.length % 64 = 0 := by rw [hEl, endS_length]; have h9 := HL.out; unfold zerosS; omega
      have hEs : E.length ≤ 200 := by rw [hEl, endS_length]; unfold zerosS; omega
      have hEB : IsB E := by
        rw [← HE.out]; intro x hx
        rcases List.mem_append.1 hx with h | h
        · exact hrB x h
        · exact endS_isB n x h
      have HEL := Aside0.mk hEl
      have HEE := Aside0.mk hEe
      clear l8 k9 hEl hEe
      go_wp2_with (first
        | (at_builtin; refine append_ow (w0 := W0) W0.heap.size rfl (.tmp 26) (.tmp 32) rfl (.slice A3 (m + 1 + k) c3) (r ++ 128 :: List.replicate (zerosS n) 0) (told 8 ((n : Int) * 8)) A4 8 c4 rfl rfl hO4 hr4 hB4 hB4.size (by rw [← HKZ.out, HM.out]; omega) ?_; intro v5 w5 ho5 hb5 hx5 hy5; clear hx5 hy5; rw [HEE.out] at ho5; obtain ⟨A5, c5, rfl, hr5⟩ := rd_of_own ho5; have hSB5 := HSB.out.below hb5; have k0 : w5.cell? ⟨g, 0, none⟩ = some (.int .u32 a1) := Blk.cell hSB5 0; have k1 : w5.cell? ⟨g, 1, none⟩ = some (.int .u32 a2) := Blk.cell hSB5 1; have k2 : w5.cell? ⟨g, 2, none⟩ = some (.int .u32 a3) := Blk.cell hSB5 2; have k3 : w5.cell? ⟨g, 3, none⟩ = some (.int .u32 a4) := Blk.cell hSB5 3; have k4 : w5.cell? ⟨g, 4, none⟩ = some (.int .u32 a5) := Blk.cell hSB5 4; have k5 : w5.cell? ⟨g, 5, none⟩ = some (.int .u32 a6) := Blk.cell hSB5 5; have k6 : w5.cell? ⟨g, 6, none⟩ = some (.int .u32 a7) := Blk.cell hSB5 6; have k7 : w5.cell? ⟨g, 7, none⟩ = some (.int .u32 a8) := Blk.cell hSB5 7; clear hSB5))
      have hk5 : True := trivial
      generalize hW6 : w5.alloc _ = W6
      obtain ⟨s0, HSS⟩ : ∃ s0, Aside0 ((⟨a1, a2, a3, a4, a5, a6, a7, a8⟩ : H8) = s0) := ⟨_, ⟨rfl⟩⟩
      have hH : Aside0 (Blk W6 w5.heap.size 89 (nums .u32 (blocksS 0 s0 E).list)) := ⟨by rw [← hW6, ← HSS.out]; exact heap_alloc_new _ _⟩
      have hR6 : Aside0 (Rd W6 A5 E.length c5 (E.drop (64 * 0))) := ⟨by rw [← hW6]; exact hr5.alloc _⟩
      have hB6 : Below W0.heap.size W0 W6 := by rw [← hW6]; exact hb5.alloc hb5.size _
      have hHge : W0.heap.size ≤ w5.heap.size := hb5.size
      have hsh := HSH.out
      rw [HSS.out] at hsh hs0
      rw [HE.out, ← HEL.out] at hsh
      have HSH2 := Aside0.mk hsh
      have HSB2 := HSB
      clear hW6 hsh HSH hr5 ho5 hb5 k0 k1 k2 k3 k4 k5 k6 k7 hk5 hO4 hr4 hb4 hB4 hB HO1
      generalize w5.heap.size = H at *
      go_loopw [3] (fun v wq => ∃ (j q : Nat) (A : Option Addr) (c : Nat), 64 * j + q = E.length ∧ v = .slice A q c ∧ Aside0 (Blk wq H 89 (nums .u32 (blocksS j s0 E).list)) ∧ Aside0 (Rd wq A q c (E.drop (64 * j))) ∧ Below W0.heap.size W0 wq) (fun v _ => match v with | .slice _ q _ => q | _ => 0)
      case atStart => exact ⟨0, E.length, A5, c5, by omega, rfl, hH, hR6, hB6⟩
      case round =>
        clear hH hR6 hB6
        obtain ⟨j, q, A, c, hjq, rfl, hHj, hRj, hBj⟩ := hrel
        by_cases hlt : 64 ≤ q
        · have hlt' : (0 : Int) < (q : Int) := by omega
          have hok := blocksS_ok hs0 j E
          obtain ⟨R, HRE⟩ : ∃ R, Aside0 (blocksS j s0 E = R) := ⟨_, ⟨rfl⟩⟩
          rw [HRE.out] at hHj hok
          obtain ⟨p1, p2, p3, p4, p5, p6, p7, p8⟩ := R
          have k0 : wr.cell? ⟨H, 0, none⟩ = some (.int .u32 p1) := Blk.cell hHj.out 0
          have k1 : wr.cell? ⟨H, 1, none⟩ = some (.int .u32 p2) := Blk.cell hHj.out 1
          have k2 : wr.cell? ⟨H, 2, none⟩ = some (.int .u32 p3) := Blk.cell hHj.out 2
          have k3 : wr.cell? ⟨H, 3, none⟩ = some (.int .u32 p4) := Blk.cell hHj.out 3
          have k4 : wr.cell? ⟨H, 4, none⟩ = some (.int .u32 p5) := Blk.cell hHj.out 4
          have k5 : wr.cell? ⟨H, 5, none⟩ = some (.int .u32 p6) := Blk.cell hHj.out 5
          have k6 : wr.cell? ⟨H, 6, none⟩ = some (.int .u32 p7) := Blk.cell hHj.out 6
          have k7 : wr.cell? ⟨H, 7, none⟩ = some (.int .u32 p8) := Blk.cell hHj.out 7
          obtain ⟨hcut, hrd64⟩ := rd_slice_to hRj.out 64 (y := 64) (by omega) hlt
          have hI : IsB ((E.drop (64 * j)).take 64) := fun x hx => hEB x (List.mem_of_mem_drop (List.mem_of_mem_take hx))
          have HT1 : Tb wr.drew := Tb.below ht0 ((hBj.drew).mono (Nat.le_refl _))
          have hnext := blocksS_next s0 E j
          rw [HRE.out] at hnext
          have HNEXT := Aside0.mk hnext
          clear hnext
          go_wp2_with fail
          go_region_with (first
            | (go_at_call 69; (with_reducible refine (block8 hok hrd64.drew hI HT1).mono ?_); rintro x w7 ⟨b1, b2, b3, b4, b5, b6, b7, b8, HB8, rfl, hb7⟩; have hH7 := Blk.below (w := wr.drew) hHj.out hb7; have e0 : w7.cell? ⟨H, 0, none⟩ = some (.int .u32 p1) := Blk.cell hH7 0; have g0 := Blk.frozen hH7 0; have e1 : w7.cell? ⟨H, 1, none⟩ = some (.int .u32 p2) := Blk.cell hH7 1; have g1 := Blk.frozen hH7 1; have e2 : w7.cell? ⟨H, 2, none⟩ = some (.int .u32 p3) := Blk.cell hH7 2; have g2 := Blk.frozen hH7 2; have e3 : w7.cell? ⟨H, 3, none⟩ = some (.int .u32 p4) := Blk.cell hH7 3; have g3 := Blk.frozen hH7 3; have e4 : w7.cell? ⟨H, 4, none⟩ = some (.int .u32 p5) := Blk.cell hH7 4; have g4 := Blk.frozen hH7 4; have e5 : w7.cell? ⟨H, 5, none⟩ = some (.int .u32 p6) := Blk.cell hH7 5; have g5 := Blk.frozen hH7 5; have e6 : w7.cell? ⟨H, 6, none⟩ = some (.int .u32 p7) := Blk.cell hH7 6; have g6 := Blk.frozen hH7 6; have e7 : w7.cell? ⟨H, 7, none⟩ = some (.int .u32 p8) := Blk.cell hH7 7; have g7 := Blk.frozen hH7 7; have HH7 := Aside0.mk hH7; clear hH7))
          have hW := blk_put8 (rest := []) (by rw [List.append_nil]; exact HH7.out) b1 b2 b3 b4 b5 b6 b7 b8
          rw [List.append_nil] at hW
          have hR7 := hRj.out.drew.below hb7
          have hR8 := rd_keep hR7 HH7.out (h8_no8 _) (((((((((KeepBut.refl w7 H none).set_ 0 (.int .u32 b1)).set_ 1 (.int .u32 b2)).set_ 2 (.int .u32 b3)).set_ 3 (.int .u32 b4)).set_ 4 (.int .u32 b5)).set_ 5 (.int .u32 b6)).set_ 6 (.int .u32 b7)).set_ 7 (.int .u32 b8))
          have hB7 : Below W0.heap.size W0 w7 := hBj.drew.trans (hb7.mono hBj.drew.size)
          have hB8 := ((((((((hB7.setCell (p := ⟨H, 0, none⟩) hHge (.int .u32 b1)).setCell (p := ⟨H, 1, none⟩) hHge (.int .u32 b2)).setCell (p := ⟨H, 2, none⟩) hHge (.int .u32 b3)).setCell (p := ⟨H, 3, none⟩) hHge (.int .u32 b4)).setCell (p := ⟨H, 4, none⟩) hHge (.int .u32 b5)).setCell (p := ⟨H, 5, none⟩) hHge (.int .u32 b6)).setCell (p := ⟨H, 6, none⟩) hHge (.int .u32 b7)).setCell (p := ⟨H, 7, none⟩) hHge (.int .u32 b8))
          clear e0 e1 e2 e3 e4 e5 e6 e7 g0 g1 g2 g3 g4 g5 g6 g7 k0 k1 k2 k3 k4 k5 k6 k7
          obtain ⟨w8, hw8⟩ : ∃ w8, w8 = ((((((((w7.setCell ⟨H, 0, none⟩ (.int .u32 b1)).setCell ⟨H, 1, none⟩ (.int .u32 b2)).setCell ⟨H, 2, none⟩ (.int .u32 b3)).setCell ⟨H, 3, none⟩ (.int .u32 b4)).setCell ⟨H, 4, none⟩ (.int .u32 b5)).setCell ⟨H, 5, none⟩ (.int .u32 b6)).setCell ⟨H, 6, none⟩ (.int .u32 b7)).setCell ⟨H, 7, none⟩ (.int .u32 b8)) := ⟨_, rfl⟩
          rw [← hw8] at hW hR8 hB8 ⊢
          clear hw8
          rw [← HB8.out, HNEXT.out] at hW
          obtain ⟨A', c', hcut2, hR9⟩ := rd_slice_from hR8 64 (x := 64) (by omega) hlt
          rw [drop64] at hR9
          have HW := Aside0.mk hW
          have HR9 := Aside0.mk hR9
          clear hW hR9 hR7 hR8
          go_wp2_with fail
          go_roundw
          case rel => exact ⟨j + 1, q - 64, A', c', by omega, rfl, HW, HR9, hB8⟩
          case measure => show q - 64 < q; omega
        · have hq0 : q = 0 := by omega
          subst hq0
          have hj : j = E.length / 64 := by omega
          have hok := blocksS_ok hs0 j E
          obtain ⟨R, HRE⟩ : ∃ R, Aside0 (blocksS j s0 E = R) := ⟨_, ⟨rfl⟩⟩
          have hsh : shaS b = outS R := by rw [HSH2.out, ← HRE.out, hj]
          rw [HRE.out] at hHj hok
          have HSH3 := Aside0.mk hsh
          obtain ⟨p1, p2, p3, p4, p5, p6, p7, p8⟩ := R
          clear hsh hj
          go_upto_region 12 with (fail)
          generalize hW9 : wr.alloc _ = W9
          have hG9 : Aside0 (Blk W9 wr.heap.size 27 (nums .u8 (outT ⟨p1, p2, p3, p4, p5, p6, p7, p8⟩ 0))) := ⟨by rw [← hW9, outT_zero]; exact heap_alloc_new _ _⟩
          have hH9 : Blk W9 H 89 (nums .u32 (H8.list ⟨p1, p2, p3, p4, p5, p6, p7, p8⟩)) := by rw [← hW9]; exact Blk.alloc hHj.out _
          have hB9 : Below W0.heap.size W0 W9 := by rw [← hW9]; exact hBj.alloc hBj.size _
          have hG0 : W0.heap.size ≤ wr.heap.size := hBj.size
          have hOlt := Blk.lt hO.out
          clear hW9
          have k0 : W9.cell? ⟨H, 0, none⟩ = some (.int .u32 p1) := Blk.cell hH9 0
          have k1 : W9.cell? ⟨H, 1, none⟩ = some (.int .u32 p2) := Blk.cell hH9 1
          have k2 : W9.cell? ⟨H, 2, none⟩ = some (.int .u32 p3) := Blk.cell hH9 2
          have k3 : W9.cell? ⟨H, 3, none⟩ = some (.int .u32 p4) := Blk.cell hH9 3
          have k4 : W9.cell? ⟨H, 4, none⟩ = some (.int .u32 p5) := Blk.cell hH9 4
          have k5 : W9.cell? ⟨H, 5, none⟩ = some (.int .u32 p6) := Blk.cell hH9 5
          have k6 : W9.cell? ⟨H, 6, none⟩ = some (.int .u32 p7) := Blk.cell hH9 6
          have k7 : W9.cell? ⟨H, 7, none⟩ = some (.int .u32 p8) := Blk.cell hH9 7
          go_wp2_with fail
          clear k0 k1 k2 k3 k4 k5 k6 k7 hH9
          generalize wr.heap.size = G at *
          go_loopw [48] (fun i wq => ∃ T : Nat, T ≤ 8 ∧ i = .int .i64 T ∧ Aside0 (Blk wq G 27 (nums .u8 (outT ⟨p1, p2, p3, p4, p5, p6, p7, p8⟩ T))) ∧ Below W0.heap.size W0 wq) (fun i _ => 8 - (intOf i).toNat)
          case atStart => exact ⟨0, by omega, rfl, hG9, hB9⟩
          case round =>
            clear hG9 hB9 hHj hRj hBj
            obtain ⟨T, hT8, rfl, hGT, hBT⟩ := hrel
            by_cases hlt : T < 8
            · have hlt' : (T : Int) < 8 := by omega
              have hx := getD_isW hok T
              have hnext := outT_next ⟨p1, p2, p3, p4, p5, p6, p7, p8⟩ T hlt
              obtain ⟨x1, HX1⟩ : ∃ x1, Aside0 ((H8.list ⟨p1, p2, p3, p4, p5, p6, p7, p8⟩).getD T 0 = x1) := ⟨_, ⟨rfl⟩⟩
              rw [HX1.out] at hx hnext
              have hix : ∀ W : World, (Instr.index 89 (.agg #[.int .u32 p1, .int .u32 p2, .int .u32 p3, .int .u32 p4, .int .u32 p5, .int .u32 p6, .int .u32 p7, .int .u32 p8]) (.int .i64 (T : Int))).run Tryd.prog W = .ok (.int .u32 x1) W := fun W => by rw [← HX1.out]; exact index8 ⟨p1, p2, p3, p4, p5, p6, p7, p8⟩ T hlt W
              have hsl := slice_arr G T hlt
              have hw4 : IntKind.i64.wrap (4 * (T : Int)) = 4 * (T : Int) := IntWalk.i64_in _ (by omega)
              have HNEXT := Aside0.mk hnext
              have hlen : Aside0 ((nums .u8 (outT ⟨p1, p2, p3, p4, p5, p6, p7, p8⟩ T)).length = 32) := ⟨by rw [nums_length]; exact outT_length _ _ (by omega)⟩
              clear hnext
              go_wp2_with fail
              go_region_held3 (fun _ => True) (exact trivial)
                (first
                 | (go_at_call 71; (with_reducible refine (Store_c hx.1 hx.2 false).mono ?_); rintro x w3 ⟨v3, rfl, ho3, hb3⟩; obtain ⟨A3, c3, rfl, hx3⟩ := rd_of_own ho3)
                 | (have hx4 := hx3; have e1 : (storeW x1 false).length ≤ 32 - 4 * T := (by rw [storeW_length]; omega); have e2 : 4 * T + (storeW x1 false).length ≤ (nums .u8 (outT ⟨p1, p2, p3, p4, p5, p6, p7, p8⟩ T)).length := (by rw [hlen.out, storeW_length]; omega); have e3 : Blk w3 G 27 (nums .u8 (outT ⟨p1, p2, p3, p4, p5, p6, p7, p8⟩ T)) := Blk.below (w := wr.drew) hGT.out hb3; refine step_copy_blk rfl (.tmp 54) (.tmp 56) 22 22 rfl 5 Tryd.underlying22 sizeU8 G (4 * T) (32 - 4 * T) (32 - 4 * T) A3 (storeW x1 false).length c3 rfl rfl (nums .u8 (outT ⟨p1, p2, p3, p4, p5, p6, p7, p8⟩ T)) 27 e3 (storeW x1 false) hx4 e1 e2 ?_; clear e1 e2 e3 hx4; intro w4 hG4 hg4))
              have hB3 : Below W0.heap.size W0 w3 := hBT.drew.trans (hb3.mono hBT.drew.size)
              have hB4 : Below W0.heap.size W0 w4 := hB3.grown hg4 hB3.size (fun k hk => by cases hk; exact hG0)
              rw [storeW_length, show storeW x1 false = told 4 x1 from rfl, HNEXT.out] at hG4
              have HG4 := Aside0.mk hG4
              clear hG4 hx3 ho3
              go_wp2_with fail
              go_roundw
              case rel => exact ⟨T + 1, by omega, by go_num, HG4, hB4⟩
              case measure => simp [intOf]; omega
            · have hge : ¬ (T : Int) < 8 := by omega
              have h8 : T = 8 := by omega
              rw [h8, outT_full, ← HSH3.out] at hGT
              have hOT := Blk.below hO.out hBT
              have hl32 := shaS_length b
              obtain ⟨S, HS⟩ : ∃ S, Aside0 (shaS b = S) := ⟨_, ⟨rfl⟩⟩
              rw [HS.out] at hGT hl32
              have HL32 := Aside0.mk hl32
              clear h8 hl32
              go_wp2_with (first
                | (refine load_arr rfl 27 (.tmp 5) rfl G rfl 27 .u8 S 32 5 hGT.out Tryd.underlying27 size27 HL32.out ?_)
                | (refine store_arr rfl 27 (.tmp 2) (.tmp 59) rfl w.heap.size .u8 S rfl rfl 27 32 _ hOT size27 HL32.out (by rw [nums_length]; rfl) ?_; intro w12 hO12 hg12; have HO12 := Aside0.mk hO12; clear hO12))
              refine bodyPost_ret (v := .agg (nums .u8 S).toArray) ?_ rfl ⟨?_, (hB0.trans (hBT.mono hB0.size)).grown hg12 (hB0.trans (hBT.mono hB0.size)).size (fun k hk => by cases hk; exact Nat.le_refl _)⟩
              · refine results_arr (p := 2) (ty := 27) (h := ?_) (g := w.heap.size) (t := 27) (n := 32) (e := 5) (k := .u8) (l := S) (hp := ?_) (hg := HO12.out) (hu := Tryd.underlying27) (hi := size27) (hl := HL32.out) ..
                · rfl
                · rfl
              · rw [HS.out]
set_option maxHeartbeats 8000000 in
set_option maxRecDepth 100000 in
theorem Sum_nil {w : World} (ht : Tb w) :
    Calls Tryd.prog 31 #[.pointer none] w fun e w' => e = .returned (.agg (nums .u8 (shaS [])).toArray) ∧ Below w.heap.size w w' := by
  go_enter Tryd.func31, Tryd.ntmps31
  go_wp2_with fail
  generalize hW : w.alloc _ = W9
  have hB9 : Below w.heap.size w W9 := by rw [← hW]; exact (Below.refl _ w).alloc (Nat.le_refl _) _
  have hO9 : Blk W9 w.heap.size 27 (nums .u8 (List.replicate 32 0)) := by rw [← hW]; exact heap_alloc_new _ _
  clear hW
  refine New_c.mono ?_
  rintro x W0 ⟨g, rfl, hS0, hb0⟩
  have hO : Aside0 (Blk W0 w.heap.size 27 (nums .u8 (List.replicate 32 0))) := ⟨hO9.below hb0⟩
  have hB0 := below_next hB9 hb0
  have ht0 := ht.below hB0
  have hn : ([] : List Int).length ≤ 140737488351232 := by simp
  clear ht hB9 hO9 hb0
  go_upto_region 3 with (fail)
  obtain ⟨b, HBN⟩ : ∃ b, Aside0 (([] : List Int) = b) := ⟨_, ⟨rfl⟩⟩
  rw [HBN.out] at hS0 hn
  generalize Value.slice none 0 0 = v at hS0
  obtain ⟨hge, hSI, hSb, hSt⟩ := hS0
  obtain ⟨Av, cv, rfl, hrv⟩ := hSt.rd
  clear hSt hge
  have hl := restS_length b
  have hrB : IsB (restS b) := fun x hx => hSI x (List.mem_of_mem_drop hx)
  obtain ⟨r, HR⟩ : ∃ r, Aside0 (restS b = r) := ⟨_, ⟨rfl⟩⟩
  obtain ⟨s0, HS0⟩ : ∃ s0, Aside0 (goneS b = s0) := ⟨_, ⟨rfl⟩⟩
  have hs0 := goneS_ok b
  rw [HS0.out] at hs0 hSb
  rw [HR.out] at hl hrB hrv hSb
  obtain ⟨n, HN⟩ : ∃ n, Aside0 (b.length = n) := ⟨_, ⟨rfl⟩⟩
  rw [HN.out] at hl hn hSb
  have hsh : shaS b = outS (blocksS ((r.length + (endS n).length) / 64) s0 (r ++ endS n)) := by rw [shaS_of b, HR.out, HS0.out, HN.out]
  obtain ⟨m, HM0⟩ : ∃ m, Aside0 (r.length = m) := ⟨_, ⟨rfl⟩⟩
  rw [HM0.out] at hl hrv hSb hsh
  have HSH := Aside0.mk hsh
  clear hsh hSI
  have hm64 : m < 64 := by omega
  obtain ⟨a1, a2, a3, a4, a5, a6, a7, a8⟩ := s0
  have HL := Aside0.mk hl
  have HSB := Aside0.mk hSb
  have k8 : (W0.alloc (.cells #[] 5)).cell? ⟨g, 8, none⟩ = some (.slice Av m cv) := Blk.cell (hSb.alloc _) 8
  clear hl hSb
  go_wp2_with (first
    | (at_builtin; refine append_ow (w0 := W0) W0.heap.size rfl (.tmp 11) (.tmp 15) rfl (.slice (some ⟨W0.heap.size, 0, none⟩) 0 0) [] r Av m cv rfl rfl (ow_empty W0 _ (Nat.le_refl _)) (hrv.alloc _) ((Below.refl _ _).alloc (Nat.le_refl _) _) (by simp) (by simp; omega) ?_; intro v1 w1 ho1 hb1 hx1 hy1; clear hx1 hy1; rw [List.nil_append] at ho1; obtain ⟨A1, c1, rfl, hr1⟩ := rd_of_own ho1; rw [HM0.out] at ho1 hr1 ⊢)
    | (at_builtin; refine append_ow (w0 := W0) W0.heap.size rfl (.tmp 16) (.tmp 17) rfl (.slice A1 m c1) r [128] (some ⟨w1.heap.size, 0, none⟩) 1 1 rfl rfl (Kd.R_alloc ho1 _) (rd_one w1 128) (hb1.alloc hb1.size _) (Nat.le_trans hb1.size (by simp)) (by rw [HM0.out]; omega) ?_; intro v2 w2 ho2 hb2 hx2 hy2; clear hx2 hy2; obtain ⟨A2, c2, rfl, hr2⟩ := rd_of_own ho2; have e2 : (r ++ [128]).length = m + 1 := (by simp [HM0.out]); rw [e2] at ho2; rw [e2] at hr2; rw [e2]; clear e2))
  have H2 : Aside0 (Ow w2 W0.heap.size (.slice A2 (m + 1) c2) (r ++ 128 :: List.replicate 0 0)) := ⟨ho2⟩
  clear ho1 ho2 hr1 hr2 hb1 k8
  go_loopw [3] (fun v wq => ∃ (k : Nat) (vv : Value), k ≤ zerosS n ∧ vv = v ∧ Aside0 (Ow wq W0.heap.size vv (r ++ 128 :: List.replicate k 0)) ∧ Below W0.heap.size W0 wq) (fun v _ => 200 - (match v with | .slice _ q _ => q | _ => 0))
  case atStart => exact ⟨0, _, by omega, rfl, H2, hb2⟩
  case round =>
    clear H2 hb2
    obtain ⟨k, vv, hk, rfl, hO1, hB⟩ := hrel
    obtain ⟨A3, c3, rfl, hr3⟩ := rd_of_own hO1.out
    have hM : (r ++ 128 :: List.replicate k 0).length = m + 1 + k := by simp [HM0.out]; omega
    by_cases hlt : k < zerosS n
    · have h56 : ((m + 1 + k : Nat) : Int) % 64 ≠ 56 := by have h9 := HL.out; unfold zerosS at hlt; omega
      rw [hM] at hr3 ⊢
      have HO : Aside0 (Ow wr W0.heap.size (.slice A3 (m + 1 + k) c3) (r ++ 128 :: List.replicate k 0)) := ⟨by have h := hO1.out; rw [hM] at h; exact h⟩
      have HM := Aside0.mk hM
      clear hM hO1
      have hk64 : k < 64 := by unfold zerosS at hlt; omega
      go_wp2_with (first
        | (at_builtin; refine append_ow (w0 := W0) W0.heap.size rfl (.tmp 23) (.tmp 24) rfl (.slice A3 (m + 1 + k) c3) (r ++ 128 :: List.replicate k 0) [0] (some ⟨wr.heap.size, 0, none⟩) 1 1 rfl rfl (Kd.R_alloc HO.out _) (rd_one wr 0) (hB.alloc hB.size _) (Nat.le_trans hB.size (by simp)) (by rw [HM.out]; omega) ?_; intro v4 w4 ho4 hb4 hx4 hy4; clear hx4 hy4; rw [List.append_assoc, List.cons_append, ← List.replicate_succ'] at ho4; obtain ⟨A4, c4, rfl, hr4⟩ := rd_of_own ho4; have e4 : (r ++ 128 :: List.replicate (k + 1) 0).length = m + 1 + (k + 1) := (by simp [HM0.out]; omega); rw [e4] at ho4; rw [e4] at hr4; rw [e4]; clear e4))
      go_roundw
      case rel => exact ⟨k + 1, _, by omega, rfl, ⟨ho4⟩, hb4⟩
      case measure =>
        show 200 - (m + 1 + (k + 1)) < 200 - (m + 1 + k)
        clear h56 hlt
        omega
    · have hkz : k = zerosS n := by omega
      have h56 : ((m + 1 + k : Nat) : Int) % 64 = 56 := by have h9 := HL.out; rw [hkz]; unfold zerosS; omega
      rw [hM] at hr3 ⊢
      have HO1 : Aside0 (Ow wr W0.heap.size (.slice A3 (m + 1 + k) c3) (r ++ 128 :: List.replicate (zerosS n) 0)) := ⟨by have h := hO1.out; rw [hM] at h; rw [← hkz]; exact h⟩
      have hk64 : k < 64 := by rw [hkz]; unfold zerosS; omega
      have HM := Aside0.mk hM
      have HKZ := Aside0.mk hkz
      clear hM hO1 hkz hlt hk
      have k9 : wr.cell? ⟨g, 9, none⟩ = some (.int .u64 n) := Blk.cell (HSB.out.below hB) 9
      go_wp2_with fail
      refine (Tell_c (a := (n : Int) * 8) (by omega) (by omega)).mono ?_
      rintro x w4 ⟨v4, rfl, ho4, hb4⟩
      obtain ⟨A4, c4, rfl, hr4⟩ := rd_of_own ho4
      have l8 := told_length 8 ((n : Int) * 8)
      rw [l8] at hr4 ⊢
      have hO4 : Ow w4 W0.heap.size (.slice A3 (m + 1 + k) c3) (r ++ 128 :: List.replicate (zerosS n) 0) := Kd.R_below HO1.out hb4
      have hB4 := below_next hB hb4
      obtain ⟨E, HE⟩ : ∃ E, Aside0 (r ++ endS n = E) := ⟨_, ⟨rfl⟩⟩
      have hEe : (r ++ 128 :: List.replicate (zerosS n) 0) ++ told 8 ((n : Int) * 8) = E := by rw [← HE.out]; unfold endS; simp
      have hEl : E.length = m + (endS n).length := by rw [← HE.out, List.length_append, HM0.out]
      have hEm : E.length % 64 = 0 := by rw [hEl, endS_length]; have h9 := HL.out; unfold zerosS; omega
      have hEs : E.length ≤ 200 := by rw [hEl, endS_length]; unfold zerosS; omega
      have hEB : IsB E := by
        rw [← HE.out]; intro x hx
        rcases List.mem_append.1 hx with h | h
        · exact hrB x h
        · exact endS_isB n x h
      have HEL := Aside0.mk hEl
      have HEE := Aside0.mk hEe
      clear l8 k9 hEl hEe
      go_wp2_with (first
        | (at_builtin; refine append_ow (w0 := W0) W0.heap.size rfl (.tmp 26) (.tmp 32) rfl (.slice A3 (m + 1 + k) c3) (r ++ 128 :: List.replicate (zerosS n) 0) (told 8 ((n : Int) * 8)) A4 8 c4 rfl rfl hO4 hr4 hB4 hB4.size (by rw [← HKZ.out, HM.out]; omega) ?_; intro v5 w5 ho5 hb5 hx5 hy5; clear hx5 hy5; rw [HEE.out] at ho5; obtain ⟨A5, c5, rfl, hr5⟩ := rd_of_own ho5; have hSB5 := HSB.out.below hb5; have k0 : w5.cell? ⟨g, 0, none⟩ = some (.int .u32 a1) := Blk.cell hSB5 0; have k1 : w5.cell? ⟨g, 1, none⟩ = some (.int .u32 a2) := Blk.cell hSB5 1; have k2 : w5.cell? ⟨g, 2, none⟩ = some (.int .u32 a3) := Blk.cell hSB5 2; have k3 : w5.cell? ⟨g, 3, none⟩ = some (.int .u32 a4) := Blk.cell hSB5 3; have k4 : w5.cell? ⟨g, 4, none⟩ = some (.int .u32 a5) := Blk.cell hSB5 4; have k5 : w5.cell? ⟨g, 5, none⟩ = some (.int .u32 a6) := Blk.cell hSB5 5; have k6 : w5.cell? ⟨g, 6, none⟩ = some (.int .u32 a7) := Blk.cell hSB5 6; have k7 : w5.cell? ⟨g, 7, none⟩ = some (.int .u32 a8) := Blk.cell hSB5 7; clear hSB5))
      have hk5 : True := trivial
      generalize hW6 : w5.alloc _ = W6
      obtain ⟨s0, HSS⟩ : ∃ s0, Aside0 ((⟨a1, a2, a3, a4, a5, a6, a7, a8⟩ : H8) = s0) := ⟨_, ⟨rfl⟩⟩
      have hH : Aside0 (Blk W6 w5.heap.size 89 (nums .u32 (blocksS 0 s0 E).list)) := ⟨by rw [← hW6, ← HSS.out]; exact heap_alloc_new _ _⟩
      have hR6 : Aside0 (Rd W6 A5 E.length c5 (E.drop (64 * 0))) := ⟨by rw [← hW6]; exact hr5.alloc _⟩
      have hB6 : Below W0.heap.size W0 W6 := by rw [← hW6]; exact hb5.alloc hb5.size _
      have hHge : W0.heap.size ≤ w5.heap.size := hb5.size
      have hsh := HSH.out
      rw [HSS.out] at hsh hs0
      rw [HE.out, ← HEL.out] at hsh
      have HSH2 := Aside0.mk hsh
      have HSB2 := HSB
      clear hW6 hsh HSH hr5 ho5 hb5 k0 k1 k2 k3 k4 k5 k6 k7 hk5 hO4 hr4 hb4 hB4 hB HO1
      generalize w5.heap.size = H at *
      go_loopw [3] (fun v wq => ∃ (j q : Nat) (A : Option Addr) (c : Nat), 64 * j + q = E.length ∧ v = .slice A q c ∧ Aside0 (Blk wq H 89 (nums .u32 (blocksS j s0 E).list)) ∧ Aside0 (Rd wq A q c (E.drop (64 * j))) ∧ Below W0.heap.size W0 wq) (fun v _ => match v with | .slice _ q _ => q | _ => 0)
      case atStart => exact ⟨0, E.length, A5, c5, by omega, rfl, hH, hR6, hB6⟩
      case round =>
        clear hH hR6 hB6
        obtain ⟨j, q, A, c, hjq, rfl, hHj, hRj, hBj⟩ := hrel
        by_cases hlt : 64 ≤ q
        · have hlt' : (0 : Int) < (q : Int) := by omega
          have hok := blocksS_ok hs0 j E
          obtain ⟨R, HRE⟩ : ∃ R, Aside0 (blocksS j s0 E = R) := ⟨_, ⟨rfl⟩⟩
          rw [HRE.out] at hHj hok
          obtain ⟨p1, p2, p3, p4, p5, p6, p7, p8⟩ := R
          have k0 : wr.cell? ⟨H, 0, none⟩ = some (.int .u32 p1) := Blk.cell hHj.out 0
          have k1 : wr.cell? ⟨H, 1, none⟩ = some (.int .u32 p2) := Blk.cell hHj.out 1
          have k2 : wr.cell? ⟨H, 2, none⟩ = some (.int .u32 p3) := Blk.cell hHj.out 2
          have k3 : wr.cell? ⟨H, 3, none⟩ = some (.int .u32 p4) := Blk.cell hHj.out 3
          have k4 : wr.cell? ⟨H, 4, none⟩ = some (.int .u32 p5) := Blk.cell hHj.out 4
          have k5 : wr.cell? ⟨H, 5, none⟩ = some (.int .u32 p6) := Blk.cell hHj.out 5
          have k6 : wr.cell? ⟨H, 6, none⟩ = some (.int .u32 p7) := Blk.cell hHj.out 6
          have k7 : wr.cell? ⟨H, 7, none⟩ = some (.int .u32 p8) := Blk.cell hHj.out 7
          obtain ⟨hcut, hrd64⟩ := rd_slice_to hRj.out 64 (y := 64) (by omega) hlt
          have hI : IsB ((E.drop (64 * j)).take 64) := fun x hx => hEB x (List.mem_of_mem_drop (List.mem_of_mem_take hx))
          have HT1 : Tb wr.drew := Tb.below ht0 ((hBj.drew).mono (Nat.le_refl _))
          have hnext := blocksS_next s0 E j
          rw [HRE.out] at hnext
          have HNEXT := Aside0.mk hnext
          clear hnext
          go_wp2_with fail
          go_region_with (first
            | (go_at_call 69; (with_reducible refine (block8 hok hrd64.drew hI HT1).mono ?_); rintro x w7 ⟨b1, b2, b3, b4, b5, b6, b7, b8, HB8, rfl, hb7⟩; have hH7 := Blk.below (w := wr.drew) hHj.out hb7; have e0 : w7.cell? ⟨H, 0, none⟩ = some (.int .u32 p1) := Blk.cell hH7 0; have g0 := Blk.frozen hH7 0; have e1 : w7.cell? ⟨H, 1, none⟩ = some (.int .u32 p2) := Blk.cell hH7 1; have g1 := Blk.frozen hH7 1; have e2 : w7.cell? ⟨H, 2, none⟩ = some (.int .u32 p3) := Blk.cell hH7 2; have g2 := Blk.frozen hH7 2; have e3 : w7.cell? ⟨H, 3, none⟩ = some (.int .u32 p4) := Blk.cell hH7 3; have g3 := Blk.frozen hH7 3; have e4 : w7.cell? ⟨H, 4, none⟩ = some (.int .u32 p5) := Blk.cell hH7 4; have g4 := Blk.frozen hH7 4; have e5 : w7.cell? ⟨H, 5, none⟩ = some (.int .u32 p6) := Blk.cell hH7 5; have g5 := Blk.frozen hH7 5; have e6 : w7.cell? ⟨H, 6, none⟩ = some (.int .u32 p7) := Blk.cell hH7 6; have g6 := Blk.frozen hH7 6; have e7 : w7.cell? ⟨H, 7, none⟩ = some (.int .u32 p8) := Blk.cell hH7 7; have g7 := Blk.frozen hH7 7; have HH7 := Aside0.mk hH7; clear hH7))
          have hW := blk_put8 (rest := []) (by rw [List.append_nil]; exact HH7.out) b1 b2 b3 b4 b5 b6 b7 b8
          rw [List.append_nil] at hW
          have hR7 := hRj.out.drew.below hb7
          have hR8 := rd_keep hR7 HH7.out (h8_no8 _) (((((((((KeepBut.refl w7 H none).set_ 0 (.int .u32 b1)).set_ 1 (.int .u32 b2)).set_ 2 (.int .u32 b3)).set_ 3 (.int .u32 b4)).set_ 4 (.int .u32 b5)).set_ 5 (.int .u32 b6)).set_ 6 (.int .u32 b7)).set_ 7 (.int .u32 b8))
          have hB7 : Below W0.heap.size W0 w7 := hBj.drew.trans (hb7.mono hBj.drew.size)
          have hB8 := ((((((((hB7.setCell (p := ⟨H, 0, none⟩) hHge (.int .u32 b1)).setCell (p := ⟨H, 1, none⟩) hHge (.int .u32 b2)).setCell (p := ⟨H, 2, none⟩) hHge (.int .u32 b3)).setCell (p := ⟨H, 3, none⟩) hHge (.int .u32 b4)).setCell (p := ⟨H, 4, none⟩) hHge (.int .u32 b5)).setCell (p := ⟨H, 5, none⟩) hHge (.int .u32 b6)).setCell (p := ⟨H, 6, none⟩) hHge (.int .u32 b7)).setCell (p := ⟨H, 7, none⟩) hHge (.int .u32 b8))
          clear e0 e1 e2 e3 e4 e5 e6 e7 g0 g1 g2 g3 g4 g5 g6 g7 k0 k1 k2 k3 k4 k5 k6 k7
          obtain ⟨w8, hw8⟩ : ∃ w8, w8 = ((((((((w7.setCell ⟨H, 0, none⟩ (.int .u32 b1)).setCell ⟨H, 1, none⟩ (.int .u32 b2)).setCell ⟨H, 2, none⟩ (.int .u32 b3)).setCell ⟨H, 3, none⟩ (.int .u32 b4)).setCell ⟨H, 4, none⟩ (.int .u32 b5)).setCell ⟨H, 5, none⟩ (.int .u32 b6)).setCell ⟨H, 6, none⟩ (.int .u32 b7)).setCell ⟨H, 7, none⟩ (.int .u32 b8)) := ⟨_, rfl⟩
          rw [← hw8] at hW hR8 hB8 ⊢
          clear hw8
          rw [← HB8.out, HNEXT.out] at hW
          obtain ⟨A', c', hcut2, hR9⟩ := rd_slice_from hR8 64 (x := 64) (by omega) hlt
          rw [drop64] at hR9
          have HW := Aside0.mk hW
          have HR9 := Aside0.mk hR9
          clear hW hR9 hR7 hR8
          go_wp2_with fail
          go_roundw
          case rel => exact ⟨j + 1, q - 64, A', c', by omega, rfl, HW, HR9, hB8⟩
          case measure => show q - 64 < q; omega
        · have hq0 : q = 0 := by omega
          subst hq0
          have hj : j = E.length / 64 := by omega
          have hok := blocksS_ok hs0 j E
          obtain ⟨R, HRE⟩ : ∃ R, Aside0 (blocksS j s0 E = R) := ⟨_, ⟨rfl⟩⟩
          have hsh : shaS b = outS R := by rw [HSH2.out, ← HRE.out, hj]
          rw [HRE.out] at hHj hok
          have HSH3 := Aside0.mk hsh
          obtain ⟨p1, p2, p3, p4, p5, p6, p7, p8⟩ := R
          clear hsh hj
          go_upto_region 12 with (fail)
          generalize hW9 : wr.alloc _ = W9
          have hG9 : Aside0 (Blk W9 wr.heap.size 27 (nums .u8 (outT ⟨p1, p2, p3, p4, p5, p6, p7, p8⟩ 0))) := ⟨by rw [← hW9, outT_zero]; exact heap_alloc_new _ _⟩
          have hH9 : Blk W9 H 89 (nums .u32 (H8.list ⟨p1, p2, p3, p4, p5, p6, p7, p8⟩)) := by rw [← hW9]; exact Blk.alloc hHj.out _
          have hB9 : Below W0.heap.size W0 W9 := by rw [← hW9]; exact hBj.alloc hBj.size _
          have hG0 : W0.heap.size ≤ wr.heap.size := hBj.size
          have hOlt := Blk.lt hO.out
          clear hW9
          have k0 : W9.cell? ⟨H, 0, none⟩ = some (.int .u32 p1) := Blk.cell hH9 0
          have k1 : W9.cell? ⟨H, 1, none⟩ = some (.int .u32 p2) := Blk.cell hH9 1
          have k2 : W9.cell? ⟨H, 2, none⟩ = some (.int .u32 p3) := Blk.cell hH9 2
          have k3 : W9.cell? ⟨H, 3, none⟩ = some (.int .u32 p4) := Blk.cell hH9 3
          have k4 : W9.cell? ⟨H, 4, none⟩ = some (.int .u32 p5) := Blk.cell hH9 4
          have k5 : W9.cell? ⟨H, 5, none⟩ = some (.int .u32 p6) := Blk.cell hH9 5
          have k6 : W9.cell? ⟨H, 6, none⟩ = some (.int .u32 p7) := Blk.cell hH9 6
          have k7 : W9.cell? ⟨H, 7, none⟩ = some (.int .u32 p8) := Blk.cell hH9 7
          go_wp2_with fail
          clear k0 k1 k2 k3 k4 k5 k6 k7 hH9
          generalize wr.heap.size = G at *
          go_loopw [48] (fun i wq => ∃ T : Nat, T ≤ 8 ∧ i = .int .i64 T ∧ Aside0 (Blk wq G 27 (nums .u8 (outT ⟨p1, p2, p3, p4, p5, p6, p7, p8⟩ T))) ∧ Below W0.heap.size W0 wq) (fun i _ => 8 - (intOf i).toNat)
          case atStart => exact ⟨0, by omega, rfl, hG9, hB9⟩
          case round =>
            clear hG9 hB9 hHj hRj hBj
            obtain ⟨T, hT8, rfl, hGT, hBT⟩ := hrel
            by_cases hlt : T < 8
            · have hlt' : (T : Int) < 8 := by omega
              have hx := getD_isW hok T
              have hnext := outT_next ⟨p1, p2, p3, p4, p5, p6, p7, p8⟩ T hlt
              obtain ⟨x1, HX1⟩ : ∃ x1, Aside0 ((H8.list ⟨p1, p2, p3, p4, p5, p6, p7, p8⟩).getD T 0 = x1) := ⟨_, ⟨rfl⟩⟩
              rw [HX1.out] at hx hnext
              have hix : ∀ W : World, (Instr.index 89 (.agg #[.int .u32 p1, .int .u32 p2, .int .u32 p3, .int .u32 p4, .int .u32 p5, .int .u32 p6, .int .u32 p7, .int .u32 p8]) (.int .i64 (T : Int))).run Tryd.prog W = .ok (.int .u32 x1) W := fun W => by rw [← HX1.out]; exact index8 ⟨p1, p2, p3, p4, p5, p6, p7, p8⟩ T hlt W
              have hsl := slice_arr G T hlt
              have hw4 : IntKind.i64.wrap (4 * (T : Int)) = 4 * (T : Int) := IntWalk.i64_in _ (by omega)
              have HNEXT := Aside0.mk hnext
              have hlen : Aside0 ((nums .u8 (outT ⟨p1, p2, p3, p4, p5, p6, p7, p8⟩ T)).length = 32) := ⟨by rw [nums_length]; exact outT_length _ _ (by omega)⟩
              clear hnext
              go_wp2_with fail
              go_region_held3 (fun _ => True) (exact trivial)
                (first
                 | (go_at_call 71; (with_reducible refine (Store_c hx.1 hx.2 false).mono ?_); rintro x w3 ⟨v3, rfl, ho3, hb3⟩; obtain ⟨A3, c3, rfl, hx3⟩ := rd_of_own ho3)
                 | (have hx4 := hx3; have e1 : (storeW x1 false).length ≤ 32 - 4 * T := (by rw [storeW_length]; omega); have e2 : 4 * T + (storeW x1 false).length ≤ (nums .u8 (outT ⟨p1, p2, p3, p4, p5, p6, p7, p8⟩ T)).length := (by rw [hlen.out, storeW_length]; omega); have e3 : Blk w3 G 27 (nums .u8 (outT ⟨p1, p2, p3, p4, p5, p6, p7, p8⟩ T)) := Blk.below (w := wr.drew) hGT.out hb3; refine step_copy_blk rfl (.tmp 54) (.tmp 56) 22 22 rfl 5 Tryd.underlying22 sizeU8 G (4 * T) (32 - 4 * T) (32 - 4 * T) A3 (storeW x1 false).length c3 rfl rfl (nums .u8 (outT ⟨p1, p2, p3, p4, p5, p6, p7, p8⟩ T)) 27 e3 (storeW x1 false) hx4 e1 e2 ?_; clear e1 e2 e3 hx4; intro w4 hG4 hg4))
              have hB3 : Below W0.heap.size W0 w3 := hBT.drew.trans (hb3.mono hBT.drew.size)
              have hB4 : Below W0.heap.size W0 w4 := hB3.grown hg4 hB3.size (fun k hk => by cases hk; exact hG0)
              rw [storeW_length, show storeW x1 false = told 4 x1 from rfl, HNEXT.out] at hG4
              have HG4 := Aside0.mk hG4
              clear hG4 hx3 ho3
              go_wp2_with fail
              go_roundw
              case rel => exact ⟨T + 1, by omega, by go_num, HG4, hB4⟩
              case measure => simp [intOf]; omega
            · have hge : ¬ (T : Int) < 8 := by omega
              have h8 : T = 8 := by omega
              rw [h8, outT_full, ← HSH3.out] at hGT
              have hOT := Blk.below hO.out hBT
              have hl32 := shaS_length b
              obtain ⟨S, HS⟩ : ∃ S, Aside0 (shaS b = S) := ⟨_, ⟨rfl⟩⟩
              rw [HS.out] at hGT hl32
              have HL32 := Aside0.mk hl32
              clear h8 hl32
              go_wp2_with (first
                | (refine load_arr rfl 27 (.tmp 5) rfl G rfl 27 .u8 S 32 5 hGT.out Tryd.underlying27 size27 HL32.out ?_)
                | (refine store_arr rfl 27 (.tmp 2) (.tmp 59) rfl w.heap.size .u8 S rfl rfl 27 32 _ hOT size27 HL32.out (by rw [nums_length]; rfl) ?_; intro w12 hO12 hg12; have HO12 := Aside0.mk hO12; clear hO12))
              refine bodyPost_ret (v := .agg (nums .u8 S).toArray) ?_ rfl ⟨?_, (hB0.trans (hBT.mono hB0.size)).grown hg12 (hB0.trans (hBT.mono hB0.size)).size (fun k hk => by cases hk; exact Nat.le_refl _)⟩
              · refine results_arr (p := 2) (ty := 27) (h := ?_) (g := w.heap.size) (t := 27) (n := 32) (e := 5) (k := .u8) (l := S) (hp := ?_) (hg := HO12.out) (hu := Tryd.underlying27) (hi := size27) (hl := HL32.out) ..
                · rfl
                · rfl
              · rw [HBN.out, HS.out]
end Go.Proofs.YtmmbonlidcbkcaaDoor.DgSum
/- digest.Of, walked: the sum of all parts, one behind the other. -/
namespace Go.Proofs.YtmmbonlidcbkcaaDoor.DgOf
open Go.RowKit Go.Proofs.YtmmbonlidcbkcaaDoorW.PrintWords Go.Proofs.YtmmbonlidcbkcaaDoor.Num Go.Proofs.YtmmbonlidcbkcaaDoor.Sha Go.Proofs.YtmmbonlidcbkcaaDoor.WordC Go.Proofs.YtmmbonlidcbkcaaDoor.Arr Go.Proofs.YtmmbonlidcbkcaaDoor.App Go.Proofs.YtmmbonlidcbkcaaDoor.DgC Go.Proofs.YtmmbonlidcbkcaaDoor.DgWords Go.Proofs.YtmmbonlidcbkcaaDoor.DgBlock Go.Proofs.YtmmbonlidcbkcaaDoor.DgState Go.Proofs.YtmmbonlidcbkcaaDoor.DgAdd Go.Proofs.YtmmbonlidcbkcaaDoor.DgSum
set_option linter.unusedVariables false
set_option linter.unusedSimpArgs false

/-- A slice of slices of bytes that is read. -/
structure Pt (w : World) (A : Option Addr) (n c : Nat) (ll : List (List Int)) : Prop where
  cap : n ≤ c
  rows : Kd.C (Kd.slice 5 (Kd.int .u8)) w A n ll
theorem Pt.len {w : World} {A : Option Addr} {n c : Nat} {ll : List (List Int)} (h : Pt w A n c ll) : ll.length = n := Kd.C_len h.rows
theorem Pt.below {w w1 : World} {A : Option Addr} {n c : Nat} {ll : List (List Int)} (h : Pt w A n c ll) (hb : Below w.heap.size w w1) : Pt w1 A n c ll := ⟨h.cap, Kd.C_below h.rows hb⟩
theorem Pt.at_ {w : World} {A : Option Addr} {n c : Nat} {ll : List (List Int)} (h : Pt w A n c ll) (i : Nat) (hi : i < n) :
    ∃ ad Ai ci, A = some ad ∧ w.cell? (ad.add i) = some (.slice Ai (ll.getD i []).length ci) ∧ Rd w Ai (ll.getD i []).length ci (ll.getD i []) := by
  obtain ⟨ad, cs, e, hl, ⟨Ai, ci, rfl, hc, hC⟩, hcell⟩ := Kd.C_get h.rows [] (i : Int) (by omega) (by omega)
  simp only [Int.toNat_natCast] at hcell hC hc
  refine ⟨ad, Ai, ci, e, ?_, rfl, hc, hC⟩
  have := hcell 0 _ rfl
  have e1 : i * (Kd.slice 5 (Kd.int .u8)).sz + 0 = i := Nat.mul_one i
  rwa [e1] at this
theorem flat_take (ll : List (List Int)) (i : Nat) (h : i < ll.length) : (ll.take (i + 1)).flatten = (ll.take i).flatten ++ ll.getD i [] := by
  rw [List.take_add_one, List.flatten_append, List.getElem?_eq_getElem h, List.getD_eq_getElem?_getD, List.getElem?_eq_getElem h]; simp
theorem flat_le (ll : List (List Int)) (i : Nat) : (ll.take i).flatten.length ≤ ll.flatten.length := by
  have := congrArg List.length (congrArg List.flatten (List.take_append_drop i ll))
  rw [List.flatten_append, List.length_append] at this
  omega
theorem part_isB {ll : List (List Int)} (h : ∀ l ∈ ll, IsB l) (i : Nat) : IsB (ll.getD i []) := by
  rw [List.getD_eq_getElem?_getD]
  rcases Nat.lt_or_ge i ll.length with hl | hl
  · rw [List.getElem?_eq_getElem hl]; exact h _ (List.getElem_mem hl)
  · rw [List.getElem?_eq_none hl]; intro x hx; cases hx
set_option maxHeartbeats 8000000 in
set_option maxRecDepth 100000 in
theorem Of_c {A : Option Addr} {n c : Nat} {ll : List (List Int)} {w : World} (hP : Pt w A n c ll) (hB : ∀ l ∈ ll, IsB l) (hl : ll.flatten.length ≤ 140737488351232) (ht : Tb w) :
    Calls Tryd.prog 26 #[.slice A n c] w fun e w' => e = .returned (.agg (nums .u8 (shaS ll.flatten)).toArray) ∧ Below w.heap.size w w' := by
  have hln := hP.len
  have hn63 : n ≤ 9223372036854775807 := Kd.C_max hP.rows
  have HLN := Aside0.mk hln
  clear hln
  go_enter Tryd.func26, Tryd.ntmps26
  go_wp2_with fail
  generalize hW : w.alloc _ = W0
  have hB0 : Below w.heap.size w W0 := by rw [← hW]; exact (Below.refl _ w).alloc (Nat.le_refl _) _
  have hO : Aside0 (Blk W0 w.heap.size 27 (nums .u8 (List.replicate 32 0))) := ⟨by rw [← hW]; exact heap_alloc_new _ _⟩
  clear hW
  have ht0 := ht.below hB0
  have hP0 := hP.below hB0
  have hz0 := Blk.lt hO.out
  refine New_c.mono ?_
  rintro x w1 ⟨g, rfl, hS1, hb1⟩
  have HS1 : St w1 W0.heap.size g (.slice none 0 0) (ll.take 0).flatten := hS1
  have HP := Aside0.mk hP0
  have HB := Aside0.mk hB
  clear hP hP0 hS1 ht hB
  go_wp2_with fail
  go_loopw [9] (fun i wr => ∃ (j : Nat) (v : Value), j ≤ n ∧ i = .int .i64 j ∧ Aside0 (St wr W0.heap.size g v (ll.take j).flatten) ∧ Below W0.heap.size W0 wr) (fun i _ => n - (intOf i).toNat)
  case atStart => exact ⟨0, _, by omega, rfl, ⟨HS1⟩, hb1⟩
  case round =>
    clear HS1 hb1
    obtain ⟨j, v, hj, rfl, hS, hb⟩ := hrel
    by_cases hlt : j < n
    · have hlt' : (j : Int) < (n : Int) := by omega
      obtain ⟨ad, Ai, ci, rfl, hcell, hrd⟩ := (HP.out.below hb).at_ j hlt
      have hnext := flat_take ll j (by have := HLN.out; omega)
      have hle := flat_le ll (j + 1)
      rw [hnext, List.length_append] at hle
      have hIB := part_isB HB.out j
      obtain ⟨p, HPP⟩ : ∃ p, Aside0 (ll.getD j [] = p) := ⟨_, ⟨rfl⟩⟩
      rw [HPP.out] at hnext hle hIB hrd hcell
      have HNEXT := Aside0.mk hnext
      obtain ⟨q, HQ⟩ : ∃ q, Aside0 (p.length = q) := ⟨_, ⟨rfl⟩⟩
      rw [HQ.out] at hle hrd hcell
      clear hnext
      go_wp2_with fail
      refine (Add_c hS.out hrd hIB (ht0.below hb) (by omega) hb.size (by omega)).mono ?_
      rintro x w2 ⟨rfl, v2, hS2, hF2, hat2⟩
      have hb2 := hF2.below hb hb.size hS.out.ge hS.out.row_ge
      rw [← HNEXT.out] at hS2
      have HS2 := Aside0.mk hS2
      clear hS2 hF2 hat2
      go_wp2_with fail
      go_roundw
      case rel => exact ⟨j + 1, v2, by omega, by go_num, HS2, hb2⟩
      case measure => simp [intOf]; omega
    · have hge : ¬ (j : Int) < (n : Int) := by omega
      have hjn : j = n := by omega
      have hS' := hS.out
      rw [hjn, List.take_of_length_le (by rw [HLN.out]; omega)] at hS'
      have HS' := Aside0.mk hS'
      clear hS' hjn hS
      go_wp2_with fail
      refine (Sum_c HS'.out (ht0.below hb) hl).mono ?_
      rintro x w2 ⟨rfl, hb2⟩
      have hb3 := below_next hb hb2
      have hO3 := Blk.below hO.out hb3
      have hl32 := shaS_length ll.flatten
      obtain ⟨S, HS⟩ : ∃ S, Aside0 (shaS ll.flatten = S) := ⟨_, ⟨rfl⟩⟩
      rw [HS.out] at hl32
      rw [HS.out]
      have HL32 := Aside0.mk hl32
      clear hl32
      go_wp2_with (first
        | (refine store_arr rfl 27 (.tmp 2) (.tmp 18) rfl w.heap.size .u8 S rfl rfl 27 32 _ hO3 size27 HL32.out (by rw [nums_length]; rfl) ?_; intro w12 hO12 hg12; have HO12 := Aside0.mk hO12; clear hO12))
      have hbb : Below w.heap.size w w2 := hB0.trans (hb3.mono hB0.size)
      refine bodyPost_ret (v := .agg (nums .u8 S).toArray) ?_ rfl ⟨by rw [HS.out], hbb.grown hg12 hbb.size (fun k hk => by cases hk; exact Nat.le_refl _)⟩
      refine results_arr (p := 2) (ty := 27) (h := ?_) (g := w.heap.size) (t := 27) (n := 32) (e := 5) (k := .u8) (l := S) (hp := ?_) (hg := HO12.out) (hu := Tryd.underlying27) (hi := size27) (hl := HL32.out) ..
      · rfl
      · rfl
end Go.Proofs.YtmmbonlidcbkcaaDoor.DgOf
/- (State).Copy, walked. -/
namespace Go.Proofs.YtmmbonlidcbkcaaDoor.DgCopy
open Go.RowKit Go.Proofs.YtmmbonlidcbkcaaDoorW.PrintWords Go.Proofs.YtmmbonlidcbkcaaDoor.Num Go.Proofs.YtmmbonlidcbkcaaDoor.Sha Go.Proofs.YtmmbonlidcbkcaaDoor.WordC Go.Proofs.YtmmbonlidcbkcaaDoor.Arr Go.Proofs.YtmmbonlidcbkcaaDoor.App Go.Proofs.YtmmbonlidcbkcaaDoor.DgC Go.Proofs.YtmmbonlidcbkcaaDoor.DgWords Go.Proofs.YtmmbonlidcbkcaaDoor.DgBlock Go.Proofs.YtmmbonlidcbkcaaDoor.DgState Go.Proofs.YtmmbonlidcbkcaaDoor.DgAdd
set_option linter.unusedVariables false
set_option linter.unusedSimpArgs false

theorem append_ow_step {ops : Array Oper} {o : Oper} {a : Act} {Q : Exit → Act → World → Prop} {Kc : Act → World → Prop} {w0 W : World} (base : Nat) (hw : Region.wanted o (yielded ops a.tmps) = true) (s x : Operand)
    (ho : o.op = .call { callee := .builtin .append, args := #[s, x], argTypes := #[22, 22] })
    (v : Value) (xs ys : List Int) (A : Option Addr) (m c : Nat) (hs : a.eval s = v) (hx : a.eval x = .slice A m c)
    (HO : Ow W base v xs) (HR : Rd W A m c ys) (HB : Below base w0 W) (hbase : base ≤ W.heap.size) (hl : xs.length + m ≤ 140737488355328)
    (h : ∀ v1 w1, Ow w1 base v1 (xs ++ ys) → Below base w0 w1 → W.grownBy w1 v.ownBlock → (v1.ownBlock = v.ownBlock ∨ ∃ b, v1.ownBlock = some b ∧ W.heap.size ≤ b) → Kc (a.put o.dst v1) w1) :
    if Region.wanted o (yielded ops a.tmps) = true then Oper.wp Tryd.prog o a W Kc Q else Kc (a.put o.dst undef) W :=
  Kd.R_append_rows_step (Kd.int .u8) (w0 := w0) base hw s x 22 5 (.int .u8 0) 1 ho Tryd.underlying22 infoB rfl (by decide) (by omega) v xs ys A m c (fun _ => True) (fun _ => False) hs hx HO HR.cells (fun _ _ h => h) (fun _ h => h.elim) (fun _ _ => trivial) HB hbase (by omega) h
theorem Copy_none {w : World} : Calls Tryd.prog 32 #[.pointer none] w fun e w' => e = .returned (.pointer none) ∧ w' = w := by
  go_enter Tryd.func32, Tryd.ntmps32
  go_wp2
  go_ret
  exact ⟨rfl, rfl⟩
set_option maxHeartbeats 8000000 in
set_option maxRecDepth 100000 in
theorem Copy_c {base g : Nat} {v : Value} {b : List Int} {w : World} (hS : St w base g v b) :
    Calls Tryd.prog 32 #[.pointer (some ⟨g, 0, none⟩)] w fun e w' => ∃ g' v', e = .returned (.pointer (some ⟨g', 0, none⟩)) ∧ St w' w.heap.size g' v' b ∧ Below w.heap.size w w' := by
  obtain ⟨hge, hSI, hSb, hSt⟩ := hS
  obtain ⟨Av, cv, rfl, hrv⟩ := hSt.rd
  have hl := restS_length b
  obtain ⟨r, HR⟩ : ∃ r, Aside0 (restS b = r) := ⟨_, ⟨rfl⟩⟩
  obtain ⟨s0, HS0⟩ : ∃ s0, Aside0 (goneS b = s0) := ⟨_, ⟨rfl⟩⟩
  rw [HS0.out] at hSb
  rw [HR.out] at hl hrv hSb
  obtain ⟨m, HM0⟩ : ∃ m, Aside0 (r.length = m) := ⟨_, ⟨rfl⟩⟩
  rw [HM0.out] at hl hrv hSb
  have hm64 : m < 64 := by omega
  have hglt := Blk.lt hSb
  obtain ⟨n, HN⟩ : ∃ n, Aside0 (b.length = n) := ⟨_, ⟨rfl⟩⟩
  rw [HN.out] at hSb
  obtain ⟨a1, a2, a3, a4, a5, a6, a7, a8⟩ := s0
  have c0 : w.cell? ⟨g, 0, none⟩ = some (.int .u32 a1) := Blk.cell hSb 0
  have c1 : w.cell? ⟨g, 1, none⟩ = some (.int .u32 a2) := Blk.cell hSb 1
  have c2 : w.cell? ⟨g, 2, none⟩ = some (.int .u32 a3) := Blk.cell hSb 2
  have c3 : w.cell? ⟨g, 3, none⟩ = some (.int .u32 a4) := Blk.cell hSb 3
  have c4 : w.cell? ⟨g, 4, none⟩ = some (.int .u32 a5) := Blk.cell hSb 4
  have c5 : w.cell? ⟨g, 5, none⟩ = some (.int .u32 a6) := Blk.cell hSb 5
  have c6 : w.cell? ⟨g, 6, none⟩ = some (.int .u32 a7) := Blk.cell hSb 6
  have c7 : w.cell? ⟨g, 7, none⟩ = some (.int .u32 a8) := Blk.cell hSb 7
  have c8 : w.cell? ⟨g, 8, none⟩ = some (.slice Av m cv) := Blk.cell hSb 8
  have c9 : w.cell? ⟨g, 9, none⟩ = some (.int .u64 n) := Blk.cell hSb 9
  have HL := Aside0.mk hl
  have HSB := Aside0.mk hSb
  clear hl hSb hSt
  have hE : ∀ w', Below w.heap.size w w' → (w'.cell? ⟨g, 0, none⟩ = some (.int .u32 a1) ∧ w'.cell? ⟨g, 1, none⟩ = some (.int .u32 a2) ∧ w'.cell? ⟨g, 2, none⟩ = some (.int .u32 a3) ∧ w'.cell? ⟨g, 3, none⟩ = some (.int .u32 a4) ∧ w'.cell? ⟨g, 4, none⟩ = some (.int .u32 a5) ∧ w'.cell? ⟨g, 5, none⟩ = some (.int .u32 a6) ∧ w'.cell? ⟨g, 6, none⟩ = some (.int .u32 a7) ∧ w'.cell? ⟨g, 7, none⟩ = some (.int .u32 a8) ∧ w'.cell? ⟨g, 8, none⟩ = some (.slice Av m cv) ∧ w'.cell? ⟨g, 9, none⟩ = some (.int .u64 n)) := fun w' hb => by
    have h := HSB.out.below hb
    exact ⟨Blk.cell h 0, Blk.cell h 1, Blk.cell h 2, Blk.cell h 3, Blk.cell h 4, Blk.cell h 5, Blk.cell h 6, Blk.cell h 7, Blk.cell h 8, Blk.cell h 9⟩
  have HE := Aside0.mk hE
  clear hE
  have hD : Below w.heap.size w w.drew := (Below.refl _ w).drew
  go_enter Tryd.func32, Tryd.ntmps32
  go_wp2_with fail
  go_region_held3 (fun w' => w'.cell? ⟨g, 0, none⟩ = some (.int .u32 a1) ∧ w'.cell? ⟨g, 1, none⟩ = some (.int .u32 a2) ∧ w'.cell? ⟨g, 2, none⟩ = some (.int .u32 a3) ∧ w'.cell? ⟨g, 3, none⟩ = some (.int .u32 a4) ∧ w'.cell? ⟨g, 4, none⟩ = some (.int .u32 a5) ∧ w'.cell? ⟨g, 5, none⟩ = some (.int .u32 a6) ∧ w'.cell? ⟨g, 6, none⟩ = some (.int .u32 a7) ∧ w'.cell? ⟨g, 7, none⟩ = some (.int .u32 a8) ∧ w'.cell? ⟨g, 8, none⟩ = some (.slice Av m cv) ∧ w'.cell? ⟨g, 9, none⟩ = some (.int .u64 n))
    (first | exact HE.out _ hD | exact HE.out _ (hD.alloc (Nat.le_refl _) _) | exact HE.out _ hb1 | exact HE.out _ (hb1.alloc hb1.size _))
    (first
      | (refine append_ow_step (w0 := w) w.heap.size (by rfl) (.tmp 9) (.tmp 13) rfl (.slice (some ⟨w.heap.size, 0, none⟩) 0 0) [] r Av m cv rfl rfl (ow_empty w.drew _ (Nat.le_refl _)) (hrv.drew.alloc _) (hD.alloc (Nat.le_refl _) _) (by simp [World.drew]) (by simp; omega) ?_; intro v1 w1 ho1 hb1 hx1 hy1; clear hx1 hy1; rw [List.nil_append] at ho1; obtain ⟨A1, d1, rfl, hr1⟩ := rd_of_own ho1; rw [HM0.out] at ho1 hr1; rw [HM0.out]))
  have hQ : Qw w1 w.heap.size (.slice A1 m d1) r := Qw.of_ow ho1
  have HQ := Aside0.mk hQ
  clear hQ ho1 hr1
  go_wp2_with fail
  go_ret
  refine ⟨_, .slice A1 m d1, rfl, ⟨hb1.size, hSI, ?_, ?_⟩, hb1.alloc hb1.size _⟩
  · rw [HS0.out, HN.out]; exact heap_alloc_new _ _
  · rw [HR.out]; exact HQ.out.below (below_alloc (Below.refl _ _) _)
end Go.Proofs.YtmmbonlidcbkcaaDoor.DgCopy
/- hypogeumref02.block, walked: one block. -/
namespace Go.Proofs.YtmmbonlidcbkcaaDoor.RefBlock
open Go.RowKit Go.Proofs.YtmmbonlidcbkcaaDoorW.PrintWords Go.Proofs.YtmmbonlidcbkcaaDoor.Num Go.Proofs.YtmmbonlidcbkcaaDoor.Sha Go.Proofs.YtmmbonlidcbkcaaDoor.WordC Go.Proofs.YtmmbonlidcbkcaaDoor.Arr Go.Proofs.YtmmbonlidcbkcaaDoor.App Go.Proofs.YtmmbonlidcbkcaaDoor.DgC Go.Proofs.YtmmbonlidcbkcaaDoor.DgWords Go.Proofs.YtmmbonlidcbkcaaDoor.DgBlock
set_option linter.unusedVariables false
set_option linter.unusedSimpArgs false

/-- Words that lie in a block from its start on. -/
def Lie (w : World) (g : Nat) (l : List Int) : Prop := ∃ cs t fr, w.heap[g]? = some (.cells cs t fr) ∧ ∀ j, j < l.length → cs[j]? = some (.int .u32 (l.getD j 0))
theorem Lie.lt {w : World} {g : Nat} {l : List Int} (h : Lie w g l) : g < w.heap.size := by
  obtain ⟨cs, t, fr, h, _⟩ := h
  exact (Array.getElem?_eq_some_iff.1 h).1
theorem Lie.cell {w : World} {g : Nat} {l : List Int} (h : Lie w g l) (j : Nat) (hj : j < l.length) : w.cell? ⟨g, j, none⟩ = some (.int .u32 (l.getD j 0)) := by
  obtain ⟨cs, t, fr, h, hc⟩ := h
  rw [cell_of_row w g j cs t fr h]; exact hc j hj
theorem Lie.below {w w1 : World} {g : Nat} {l : List Int} (h : Lie w g l) (hb : Below w.heap.size w w1) : Lie w1 g l := by
  have hl := h.lt
  obtain ⟨cs, t, fr, h, hc⟩ := h
  exact ⟨cs, t, fr, (hb.block g hl).trans h, hc⟩
theorem Lie.alloc {w : World} {g : Nat} {l : List Int} (h : Lie w g l) (o : Obj) : Lie (w.alloc o) g l := by
  have hl := h.lt
  obtain ⟨cs, t, fr, h, hc⟩ := h
  exact ⟨cs, t, fr, (Below.heap_alloc w o g hl).trans h, hc⟩
theorem Lie.grown {w w' : World} {g : Nat} {p : Option Nat} {l : List Int} (h : Lie w g l) (hg : w.grownBy w' p) (hne : some g ≠ p) : Lie w' g l := by
  have hl := h.lt
  obtain ⟨cs, t, fr, h, hc⟩ := h
  exact ⟨cs, t, fr, (hg.block g hl hne).trans h, hc⟩
theorem lie_new (w : World) (t : Nat) (l : List Int) : Lie (w.alloc (.cells (nums .u32 l).toArray t)) w.heap.size l :=
  ⟨(nums .u32 l).toArray, t, (0, 0), heap_alloc_new _ _, fun j hj => by simpa using nums_get .u32 l j hj⟩
theorem lie_of_own {w : World} {base : Nat} {v : Value} {l : List Int} (h : OwW w base v l) (hp : 0 < l.length) : ∃ g c, v = .slice (some ⟨g, 0, none⟩) l.length c ∧ base ≤ g ∧ l.length ≤ c ∧ Lie w g l := by
  have ho := Kd.own_of_R h
  obtain ⟨hlen, (⟨_, hz⟩ | ⟨g, cap, cur, hv, hb, hg, hnc, hcm, hcs, htake⟩)⟩ := ho
  · omega
  · refine ⟨g, cap, hv, hb, hnc, cur, 88, (0, 0), hg, fun j hj => ?_⟩
    have h1 := congrArg (·[j]?) htake
    simp only [List.getElem?_take, Nat.mul_one, hj, if_true, encs, List.getElem?_map, List.getElem?_eq_getElem hj, Option.map_some] at h1
    rw [List.getD_eq_getElem?_getD, List.getElem?_eq_getElem hj]
    simpa using h1
theorem infoW : (Tryd.prog.info? 88).map (fun i => (i.zero, i.size, i.bytes)) = some (some (.int .u32 0), 1, 4) := by kernel_rfl
theorem addS_take (s r : H8) (i : Nat) (h : i < 8) : (addS s r).list.take i ++ [(s.list.getD i 0 + r.list.getD i 0) % 4294967296] = (addS s r).list.take (i + 1) := by
  have hc : i = 0 ∨ i = 1 ∨ i = 2 ∨ i = 3 ∨ i = 4 ∨ i = 5 ∨ i = 6 ∨ i = 7 := by omega
  rcases hc with rfl | rfl | rfl | rfl | rfl | rfl | rfl | rfl <;> rfl
set_option maxHeartbeats 8000000 in
set_option maxRecDepth 100000 in
theorem refblock_c {A : Option Addr} {c : Nat} {l : List Int} {g0 c0 : Nat} {s : H8} {w : World} (hs : s.ok) (h0 : Lie w g0 s.list) (hr : Rd w A 64 c l) (hb : IsB l) :
    Calls Tryd.prog 67 #[.slice (some ⟨g0, 0, none⟩) 8 c0, .slice A 64 c] w fun e w' => ∃ v, e = .returned v ∧ OwW w' w.heap.size v (blockS s l).list ∧ Below w.heap.size w w' := by
  go_enter Tryd.func67, Tryd.ntmps67
  go_wp2_with fail
  refine (refwords_c hr hb).mono ?_
  rintro x w1 ⟨v1, rfl, ho1, hb1⟩
  obtain ⟨S, HSE⟩ : ∃ S, Aside0 (schedS l = S) := ⟨_, ⟨rfl⟩⟩
  have hSL := schedS_length l
  rw [HSE.out] at ho1 hSL
  obtain ⟨g1, c1, rfl, hg1, hc1, hL1⟩ := lie_of_own ho1 (by omega)
  rw [hSL] at hc1 ⊢
  have HSL := Aside0.mk hSL
  clear hSL ho1
  go_wp2_with fail
  refine keys_c.mono ?_
  rintro x w2 ⟨v2, rfl, ho2, hb2⟩
  obtain ⟨g2, c2, rfl, hg2, hc2, hL2⟩ := lie_of_own ho2 (by show 0 < 64; omega)
  have hk64 : keysS.length = 64 := rfl
  rw [hk64] at hc2 ⊢
  clear hk64 ho2
  go_wp2_with fail
  have H0 : Aside0 (Lie w2 g0 s.list) := ⟨(h0.below hb1).below hb2⟩
  have H1 : Aside0 (Lie w2 g1 S) := ⟨hL1.below hb2⟩
  have H2 : Aside0 (Lie w2 g2 keysS) := ⟨hL2⟩
  have HB : Below w.heap.size w w2 := below_next hb1 hb2
  clear hL1 hL2 hb1 hb2 hg1 hg2 h0
  go_loopw [8, 7] (fun i v wr => ∃ t g cc : Nat, t ≤ 64 ∧ i = .int .i64 t ∧ v = .slice (some ⟨g, 0, none⟩) 8 cc ∧ Aside0 (Lie wr g (roundsS s S t).list) ∧ Aside0 (Lie wr g0 s.list) ∧ Aside0 (Lie wr g1 S) ∧ Aside0 (Lie wr g2 keysS) ∧ Below w.heap.size w wr) (fun i _ _ => 64 - (intOf i).toNat)
  case atStart => exact ⟨0, g0, c0, by omega, rfl, rfl, H0, H0, H1, H2, HB⟩
  case round =>
    obtain ⟨t, g, cc, ht64, rfl, rfl, hV, hG0, hG1, hG2, hB⟩ := hrel
    by_cases hlt : t < 64
    · have hlt' : (t : Int) < 64 := by omega
      have hR := roundsS_ok hs S t
      obtain ⟨R, HRE⟩ : ∃ R, Aside0 (roundsS s S t = R) := ⟨_, ⟨rfl⟩⟩
      rw [HRE.out] at hV hR
      obtain ⟨a1, a2, a3, a4, a5, a6, a7, a8⟩ := R
      rw [H8.ok_iff] at hR
      have k1 : wr.cell? ⟨g, 0, none⟩ = some (.int .u32 a1) := hV.out.cell 0 (by show 0 < 8; omega)
      have k2 : wr.cell? ⟨g, 1, none⟩ = some (.int .u32 a2) := hV.out.cell 1 (by show 1 < 8; omega)
      have k3 : wr.cell? ⟨g, 2, none⟩ = some (.int .u32 a3) := hV.out.cell 2 (by show 2 < 8; omega)
      have k4 : wr.cell? ⟨g, 3, none⟩ = some (.int .u32 a4) := hV.out.cell 3 (by show 3 < 8; omega)
      have k5 : wr.cell? ⟨g, 4, none⟩ = some (.int .u32 a5) := hV.out.cell 4 (by show 4 < 8; omega)
      have k6 : wr.cell? ⟨g, 5, none⟩ = some (.int .u32 a6) := hV.out.cell 5 (by show 5 < 8; omega)
      have k7 : wr.cell? ⟨g, 6, none⟩ = some (.int .u32 a7) := hV.out.cell 6 (by show 6 < 8; omega)
      have k8 : wr.cell? ⟨g, 7, none⟩ = some (.int .u32 a8) := hV.out.cell 7 (by show 7 < 8; omega)
      have kW : wr.cell? ⟨g1, t, none⟩ = some (.int .u32 (S.getD t 0)) := hG1.out.cell t (by rw [HSL.out]; exact hlt)
      have kK : wr.cell? ⟨g2, t, none⟩ = some (.int .u32 (keysS.getD t 0)) := hG2.out.cell t hlt
      generalize hkx : keysS.getD t 0 = kx at *
      generalize hwx : S.getD t 0 = wx at *
      have HKX := Aside0.mk hkx
      have HWX := Aside0.mk hwx
      clear hkx hwx
      go_wp2_with fail
      go_region_held3 (fun w' => w'.cell? ⟨g, 5, none⟩ = some (.int .u32 a6) ∧ w'.cell? ⟨g, 6, none⟩ = some (.int .u32 a7) ∧ w'.cell? ⟨g, 7, none⟩ = some (.int .u32 a8) ∧ w'.cell? ⟨g1, t, none⟩ = some (.int .u32 wx) ∧ w'.cell? ⟨g2, t, none⟩ = some (.int .u32 kx))
        (first | exact ⟨k6, k7, k8, kW, kK⟩ | go_keep)
        (first | (go_at_call 83; (with_reducible refine (right_c hR.2.2.2.2.1.1 hR.2.2.2.2.1.2 (by omega)).mono ?_); rintro x w4 ⟨rfl, ⟨n4, rfl⟩⟩))
      generalize hU : IntKind.u32.wrap (IntKind.u32.wrap _ + wx) = U
      have HU := Aside0.mk hU
      clear hU
      go_wp2_with fail
      go_region_held3 (fun w' => w'.cell? ⟨g, 1, none⟩ = some (.int .u32 a2) ∧ w'.cell? ⟨g, 2, none⟩ = some (.int .u32 a3))
        (first | exact ⟨k2, k3⟩ | go_keep)
        (first | (go_at_call 83; (with_reducible refine (right_c hR.1.1 hR.1.2 (by omega)).mono ?_); rintro x w5 ⟨rfl, ⟨n5, rfl⟩⟩))
      generalize hV' : IntKind.u32.wrap (bits BinOp.xor IntKind.u32 _ (turn a1 (-22)) + _) = V
      have HV' := Aside0.mk hV'
      clear hV'
      generalize hX9 : wr.drewN _ = w9
      have l1 : Aside0 (Lie w9 g [a1, a2, a3, a4, a5, a6, a7, a8]) := by rw [← hX9]; exact ⟨hV.out⟩
      have l2 : Aside0 (Lie w9 g0 s.list) := by rw [← hX9]; exact ⟨hG0.out⟩
      have l3 : Aside0 (Lie w9 g1 S) := by rw [← hX9]; exact ⟨hG1.out⟩
      have l4 : Aside0 (Lie w9 g2 keysS) := by rw [← hX9]; exact ⟨hG2.out⟩
      have hb9 : Below w.heap.size w w9 := by rw [← hX9]; exact pw_below_drewN hB _
      clear hX9 hV hG0 hG1 hG2 hB k1 k2 k3 k4 k5 k6 k7 k8 kW kK
      have k2 : w9.cell? ⟨g, 1, none⟩ = some (.int .u32 a2) := l1.out.cell 1 (by show 1 < 8; omega)
      have k3 : w9.cell? ⟨g, 2, none⟩ = some (.int .u32 a3) := l1.out.cell 2 (by show 2 < 8; omega)
      have k4 : w9.cell? ⟨g, 3, none⟩ = some (.int .u32 a4) := l1.out.cell 3 (by show 3 < 8; omega)
      have k6 : w9.cell? ⟨g, 5, none⟩ = some (.int .u32 a6) := l1.out.cell 5 (by show 5 < 8; omega)
      have k7 : w9.cell? ⟨g, 6, none⟩ = some (.int .u32 a7) := l1.out.cell 6 (by show 6 < 8; omega)
      go_wp2_with fail
      go_region_held3 (fun w' => w'.cell? ⟨g, 1, none⟩ = some (.int .u32 a2) ∧ w'.cell? ⟨g, 2, none⟩ = some (.int .u32 a3) ∧ w'.cell? ⟨g, 3, none⟩ = some (.int .u32 a4) ∧ w'.cell? ⟨g, 5, none⟩ = some (.int .u32 a6) ∧ w'.cell? ⟨g, 6, none⟩ = some (.int .u32 a7))
        (first | exact ⟨k2, k3, k4, k6, k7⟩ | go_keep)
        (fail)
      have hU' : U = uS ⟨a1, a2, a3, a4, a5, a6, a7, a8⟩ kx wx := by rw [← HU.out]; simp only [IntKind.wrap_u32']; rfl
      have hV' : V = vS ⟨a1, a2, a3, a4, a5, a6, a7, a8⟩ := by rw [← HV'.out]; simp only [IntKind.wrap_u32']; rfl
      have hroll : roundsS s S (t + 1) = ⟨IntKind.u32.wrap (U + V), a1, a2, a3, IntKind.u32.wrap (a4 + U), a5, a6, a7⟩ := by
        show roundS (roundsS s S t) (keysS.getD t 0) (S.getD t 0) = _
        rw [HRE.out, HKX.out, HWX.out, hU', hV', IntKind.wrap_u32', IntKind.wrap_u32']
        rfl
      have m1 : Aside0 (Lie (w9.alloc (.cells (nums .u32 (H8.list ⟨IntKind.u32.wrap (U + V), a1, a2, a3, IntKind.u32.wrap (a4 + U), a5, a6, a7⟩)).toArray 88)) w9.heap.size (roundsS s S (t + 1)).list) := ⟨by rw [hroll]; exact lie_new w9 88 _⟩
      have m2 := Aside0.mk (l2.out.alloc (.cells (nums .u32 (H8.list ⟨IntKind.u32.wrap (U + V), a1, a2, a3, IntKind.u32.wrap (a4 + U), a5, a6, a7⟩)).toArray 88))
      have m3 := Aside0.mk (l3.out.alloc (.cells (nums .u32 (H8.list ⟨IntKind.u32.wrap (U + V), a1, a2, a3, IntKind.u32.wrap (a4 + U), a5, a6, a7⟩)).toArray 88))
      have m4 := Aside0.mk (l4.out.alloc (.cells (nums .u32 (H8.list ⟨IntKind.u32.wrap (U + V), a1, a2, a3, IntKind.u32.wrap (a4 + U), a5, a6, a7⟩)).toArray 88))
      have m5 := hb9.alloc hb9.size (.cells (nums .u32 (H8.list ⟨IntKind.u32.wrap (U + V), a1, a2, a3, IntKind.u32.wrap (a4 + U), a5, a6, a7⟩)).toArray 88)
      clear hroll hU' hV'
      go_wp2_with fail
      go_roundw
      case rel => exact ⟨t + 1, w9.heap.size, 8, by omega, by go_num, rfl, ⟨m1.out⟩, ⟨m2.out⟩, ⟨m3.out⟩, ⟨m4.out⟩, m5.drew⟩
      case measure => simp [intOf]; omega
    · have hge : ¬ (t : Int) < 64 := by omega
      have h64 : t = 64 := by omega
      rw [h64] at hV
      have hR := roundsS_ok hs S 64
      obtain ⟨R, HRE⟩ : ∃ R, Aside0 (roundsS s S 64 = R) := ⟨_, ⟨rfl⟩⟩
      rw [HRE.out] at hV hR
      clear h64
      go_wp2_with fail
      have hend : addS s R = blockS s l := by unfold blockS; rw [← HRE.out, HSE.out]
      have HEND := Aside0.mk hend
      clear hend
      obtain ⟨wo, rfl⟩ : ∃ wo, wo = wr := ⟨_, rfl⟩
      have HZ0 : Aside0 (OwW wo wo.heap.size (.slice none 0 0) ((addS s R).list.take 0)) := ⟨Kd.R_nil _ _ _ _ _⟩
      go_loopw [14, 13] (fun i v wq => ∃ (T : Nat) (vv : Value), T ≤ 8 ∧ i = .int .i64 T ∧ vv = v ∧ Aside0 (OwW wq wo.heap.size vv ((addS s R).list.take T)) ∧ Below wo.heap.size wo wq) (fun i _ _ => 8 - (intOf i).toNat)
      case atStart => exact ⟨0, _, by omega, rfl, rfl, HZ0, Below.refl _ _⟩
      case round =>
        obtain ⟨T, vv, hT8, rfl, rfl, hO, hQ⟩ := hrel
        by_cases hlt : T < 8
        · have hlt' : (T : Int) < 8 := by omega
          have cX : wr.cell? ⟨g0, T, none⟩ = some (.int .u32 (s.list.getD T 0)) := (hG0.out.below hQ).cell T hlt
          have cV : wr.cell? ⟨g, T, none⟩ = some (.int .u32 (R.list.getD T 0)) := (hV.out.below hQ).cell T hlt
          have hnext := addS_take s R T hlt
          have HNEXT := Aside0.mk hnext
          clear hnext
          generalize s.list.getD T 0 = x1 at *
          generalize R.list.getD T 0 = x2 at *
          have eX : ∀ w', Below wo.heap.size wo w' → w'.cell? ⟨g0, T, none⟩ = some (.int .u32 x1) := fun w' hb => (hb.cell (p := ⟨g0, T, none⟩) hG0.out.lt).trans ((hQ.cell (p := ⟨g0, T, none⟩) hG0.out.lt).symm.trans cX)
          have eV : ∀ w', Below wo.heap.size wo w' → w'.cell? ⟨g, T, none⟩ = some (.int .u32 x2) := fun w' hb => (hb.cell (p := ⟨g, T, none⟩) hV.out.lt).trans ((hQ.cell (p := ⟨g, T, none⟩) hV.out.lt).symm.trans cV)
          have hlen : (((addS s R).list.take T).length + 1) * 4 ≤ 140737488355328 := by rw [List.length_take]; omega
          have HO : OwW wr.drew wo.heap.size vv ((addS s R).list.take T) := Kd.R_drew hO.out
          have hQd := hQ.drew
          have hQs : wo.heap.size ≤ wr.drew.heap.size := hQ.size
          go_wp2_with fail
          go_region_held3 (fun w' => w'.cell? ⟨g0, T, none⟩ = some (.int .u32 x1) ∧ w'.cell? ⟨g, T, none⟩ = some (.int .u32 x2))
            (first | exact ⟨cX, cV⟩ | exact ⟨eX _ hb20, eV _ hb20⟩ | go_keep)
            (first | (refine Kd.R_append_step (Kd.int .u32) (w0 := wo) wo.heap.size (by rfl) (.tmp 119) (.tmp 129) 84 88 (.int .u32 0) 4 rfl Tryd.underlying84 infoW rfl (by decide) (by omega) vv ((addS s R).list.take T) (IntKind.u32.wrap (x1 + x2)) [.int .u32 (IntKind.u32.wrap (x1 + x2))] (fun _ => True) (fun _ => False) rfl rfl rfl (fun _ hk => hk.elim) (fun _ _ => trivial) HO hQd hQs hlen ?_; intro v20 w20 ho20 hb20 hg20 hat20))
          rw [IntKind.wrap_u32', HNEXT.out] at ho20
          have HO20 := Aside0.mk ho20
          clear ho20 hg20 hat20 cX cV HO
          go_wp2_with fail
          go_roundw
          case rel => exact ⟨T + 1, v20, by omega, by go_num, rfl, ⟨HO20.out⟩, hb20⟩
          case measure => simp [intOf]; omega
        · have hge : ¬ (T : Int) < 8 := by omega
          have h8 : T = 8 := by omega
          have HE : OwW wr w.heap.size vv (blockS s l).list := by
            have h1 := hO.out
            rw [h8] at h1
            rw [← HEND.out]
            exact Kd.R_lower h1 hB.size
          clear h8
          go_wp2_with fail
          go_ret
          exact ⟨_, rfl, HE, below_next hB hQ⟩
end Go.Proofs.YtmmbonlidcbkcaaDoor.RefBlock
/- hypogeumref02.Of, walked: the sum of bytes. -/
namespace Go.Proofs.YtmmbonlidcbkcaaDoor.RefOf
open Go.RowKit Go.Proofs.YtmmbonlidcbkcaaDoorW.PrintWords Go.Proofs.YtmmbonlidcbkcaaDoor.Num Go.Proofs.YtmmbonlidcbkcaaDoor.Sha Go.Proofs.YtmmbonlidcbkcaaDoor.WordC Go.Proofs.YtmmbonlidcbkcaaDoor.Arr Go.Proofs.YtmmbonlidcbkcaaDoor.App Go.Proofs.YtmmbonlidcbkcaaDoor.DgC Go.Proofs.YtmmbonlidcbkcaaDoor.DgWords Go.Proofs.YtmmbonlidcbkcaaDoor.DgBlock Go.Proofs.YtmmbonlidcbkcaaDoor.RefBlock
set_option linter.unusedVariables false
set_option linter.unusedSimpArgs false

/-- One byte in a block of its own. -/
theorem rd_one (w : World) (x : Int) : Rd (w.alloc (.cells #[.int .u8 x] 5)) (some ⟨w.heap.size, 0, none⟩) 1 1 [x] :=
  rd_of_blk (t := 5) (cs := [.int .u8 x]) (heap_alloc_new _ _) 0 [x] 1 (Nat.le_refl _) (by simp) (fun j hj => by
    have : j = 0 := by simp at hj; omega
    subst this; rfl)
theorem outS_take (s : H8) (i : Nat) (h : i < 8) : (outS s).take (4 * i) ++ told 4 (s.list.getD i 0) = (outS s).take (4 * (i + 1)) := by
  have hc : i = 0 ∨ i = 1 ∨ i = 2 ∨ i = 3 ∨ i = 4 ∨ i = 5 ∨ i = 6 ∨ i = 7 := by omega
  rcases hc with rfl | rfl | rfl | rfl | rfl | rfl | rfl | rfl <;> rfl
theorem storeW_told (x : Int) : storeW x false = told 4 x := rfl
set_option maxHeartbeats 8000000 in
set_option maxRecDepth 100000 in
theorem refof_c {A : Option Addr} {n c : Nat} {l : List Int} {w : World} (hr : Rd w A n c l) (hb : IsB l) (hn : n ≤ 140737488351232) :
    Calls Tryd.prog 27 #[.slice A n c] w fun e w' => ∃ v, e = .returned v ∧ Ow w' w.heap.size v (shaS l) ∧ Below w.heap.size w w' := by
  have hrA := hr.alloc (.cells #[] 5)
  have hbE : Below w.heap.size w (w.alloc (.cells #[] 5)) := (Below.refl _ _).alloc (Nat.le_refl _) _
  have hl := hr.len
  have HL := Aside0.mk hl
  clear hl
  go_enter Tryd.func27, Tryd.ntmps27
  go_wp2_with (first
    | (at_builtin; refine append_ow (w0 := w) w.heap.size rfl (.tmp 8) (.tmp 9) rfl _ [] l A n c rfl rfl (ow_empty w _ (Nat.le_refl _)) hrA hbE (by simp) (by simp; omega) ?_; intro v1 w1 ho1 hb1 hx1 hy1; clear hx1 hy1; rw [List.nil_append] at ho1; obtain ⟨A1, c1, rfl, hr1⟩ := rd_of_own ho1)
    | (at_builtin; refine append_ow (w0 := w) w.heap.size rfl (.tmp 10) (.tmp 11) rfl (.slice A1 l.length c1) l [128] (some ⟨w1.heap.size, 0, none⟩) 1 1 rfl rfl (Kd.R_alloc ho1 _) (rd_one w1 128) (hb1.alloc hb1.size _) (Nat.le_trans hb1.size (by simp)) (by have h9 := HL.out; omega) ?_; intro v2 w2 ho2 hb2 hx2 hy2; clear hx2 hy2; obtain ⟨A2, c2, rfl, hr2⟩ := rd_of_own ho2))
  have H2 : Aside0 (Ow w2 w.heap.size (.slice A2 (l.length + 1) c2) (l ++ 128 :: List.replicate 0 0)) := ⟨by simpa using ho2⟩
  clear ho1 ho2 hr1 hr2 hb1 hbE hrA
  go_loopw [3] (fun v wq => ∃ (k : Nat) (vv : Value), k ≤ zerosS n ∧ vv = v ∧ Aside0 (Ow wq w.heap.size vv (l ++ 128 :: List.replicate k 0)) ∧ Below w.heap.size w wq) (fun v _ => 70 + n - (match v with | .slice _ m _ => m | _ => 0))
  case atStart => exact ⟨0, _, by omega, rfl, H2, hb2⟩
  case round =>
    obtain ⟨k, vv, hk, rfl, hO, hB⟩ := hrel
    obtain ⟨A3, c3, rfl, hr3⟩ := rd_of_own hO.out
    have hM : (l ++ 128 :: List.replicate k 0).length = n + 1 + k := by simp [HL.out]; omega
    by_cases hlt : k < zerosS n
    · have h56 : ((n + 1 + k : Nat) : Int) % 64 ≠ 56 := by unfold zerosS at hlt; omega
      rw [hM] at hr3 ⊢
      have HO : Aside0 (Ow wr w.heap.size (.slice A3 (n + 1 + k) c3) (l ++ 128 :: List.replicate k 0)) := ⟨by have h := hO.out; rw [hM] at h; exact h⟩
      have HM := Aside0.mk hM
      clear hM hO
      have hk64 : k < 64 := by unfold zerosS at hlt; omega
      go_wp2_with (first
        | (at_builtin; refine append_ow (w0 := w) w.heap.size rfl (.tmp 17) (.tmp 18) rfl (.slice A3 (n + 1 + k) c3) (l ++ 128 :: List.replicate k 0) [0] (some ⟨wr.heap.size, 0, none⟩) 1 1 rfl rfl (Kd.R_alloc HO.out _) (rd_one wr 0) (hB.alloc hB.size _) (Nat.le_trans hB.size (by simp)) (by rw [HM.out]; omega) ?_; intro v4 w4 ho4 hb4 hx4 hy4; clear hx4 hy4; rw [List.append_assoc, List.cons_append, ← List.replicate_succ'] at ho4; obtain ⟨A4, c4, rfl, hr4⟩ := rd_of_own ho4))
      go_roundw
      case rel => exact ⟨k + 1, _, by omega, rfl, ⟨by have h := ho4; simp only [List.length_append, List.length_cons, List.length_replicate] at h; exact h⟩, hb4⟩
      case measure =>
        have h9 := HL.out
        show 70 + n - (l.length + (k + 1 + 1)) < 70 + n - (n + 1 + k)
        clear h56 hlt
        omega
    · have hkz : k = zerosS n := by omega
      have h56 : ((n + 1 + k : Nat) : Int) % 64 = 56 := by rw [hkz]; unfold zerosS; omega
      rw [hM] at hr3 ⊢
      have HO : Aside0 (Ow wr w.heap.size (.slice A3 (n + 1 + k) c3) (l ++ 128 :: List.replicate (zerosS n) 0)) := ⟨by have h := hO.out; rw [hM] at h; rw [← hkz]; exact h⟩
      have hk64 : k < 64 := by rw [hkz]; unfold zerosS; omega
      have HM := Aside0.mk hM
      have HKZ := Aside0.mk hkz
      clear hM hO hkz hlt hk
      go_wp2_with fail
      refine (Told_c (a := (n : Int) * 8) (by omega) (by omega) 8 (by omega) rfl).mono ?_
      rintro x w4 ⟨v4, rfl, ho4, hb4⟩
      obtain ⟨A4, c4, rfl, hr4⟩ := rd_of_own ho4
      have l8 := told_length 8 ((n : Int) * 8)
      rw [l8] at hr4 ⊢
      have hO4 : Ow w4 w.heap.size (.slice A3 (n + 1 + k) c3) (l ++ 128 :: List.replicate (zerosS n) 0) := Kd.R_below HO.out hb4
      have hB4 := below_next hB hb4
      clear l8
      go_wp2_with (first
        | (at_builtin; refine append_ow (w0 := w) w.heap.size rfl (.tmp 20) (.tmp 25) rfl (.slice A3 (n + 1 + k) c3) (l ++ 128 :: List.replicate (zerosS n) 0) (told 8 ((n : Int) * 8)) A4 8 c4 rfl rfl hO4 hr4 hB4 hB4.size (by rw [← HKZ.out, HM.out]; omega) ?_; intro v5 w5 ho5 hb5 hx5 hy5; clear hx5 hy5; obtain ⟨A5, c5, rfl, hr5⟩ := rd_of_own ho5))
      obtain ⟨P, HP⟩ : ∃ P, Aside0 (paddedS l = P) := ⟨_, ⟨rfl⟩⟩
      have hPe : (l ++ 128 :: List.replicate (zerosS n) 0) ++ told 8 ((n : Int) * 8) = P := by
        rw [← HP.out]; unfold paddedS endS; rw [HL.out]; simp
      have hPl : l.length + (zerosS n + (told 8 ((n : Int) * 8)).length + 1) = P.length := by rw [← hPe]; simp
      have hPs : P.length ≤ 140737488355328 := by rw [← hPl, told_length]; have h9 := HL.out; have h10 := HKZ.out; omega
      have hPm : P.length % 64 = 0 := by rw [← HP.out]; exact padded_blocks l
      have hPB : IsB P := by rw [← HP.out]; exact paddedS_isB hb
      have hR5 : Rd w5 A5 P.length c5 P := by rw [hPe] at hr5; exact hr5
      rw [hPl]
      refine first_c.mono ?_
      rintro x w6 ⟨v6, rfl, ho6, hb6⟩
      obtain ⟨g6, c6, rfl, hg6, hc6, hL6⟩ := lie_of_own ho6 (by show 0 < 8; omega)
      have h8 : first8.list.length = 8 := rfl
      rw [h8] at hc6 ⊢
      clear h8
      go_wp2_with fail
      have HR5 := Aside0.mk (hR5.below hb6)
      have HL6 : Aside0 (Lie w6 g6 (blocksS 0 first8 P).list) := ⟨hL6⟩
      have HB6 := below_next hb5 hb6
      go_loopw [5, 4] (fun i v wq => ∃ j g cc : Nat, 64 * j ≤ P.length ∧ i = .int .i64 ((64 * j : Nat) : Int) ∧ v = .slice (some ⟨g, 0, none⟩) 8 cc ∧ Aside0 (Lie wq g (blocksS j first8 P).list) ∧ Aside0 (Rd wq A5 P.length c5 P) ∧ Below w.heap.size w wq) (fun i _ _ => P.length - (intOf i).toNat)
      case atStart => exact ⟨0, g6, c6, by omega, rfl, rfl, HL6, HR5, HB6⟩
      case round =>
        obtain ⟨j, g, cc, hj, rfl, rfl, hG, hRd, hB7⟩ := hrel
        by_cases hlt : 64 * j < P.length
        · obtain ⟨A8, c8, hcut, hR8⟩ := rd_slice hRd.out (64 * j) (64 * j + 64) (x := 64 * (j : Int)) (y := 64 * (j : Int) + 64) (by omega) (by omega) (by omega) (by omega)
          rw [show 64 * j + 64 - 64 * j = 64 by omega] at hcut hR8
          have hI : IsB ((P.take (64 * j + 64)).drop (64 * j)) := fun x hx => hPB x (List.mem_of_mem_take (List.mem_of_mem_drop hx))
          have hw : wrap64 (64 * (j : Int) + 64) = 64 * (j : Int) + 64 := IntWalk.wrap64_in _ (by omega)
          have hlt' : ((64 * j : Nat) : Int) < (P.length : Int) := by omega
          go_wp2_with fail
          refine (refblock_c (blocksS_ok first8_ok j P) hG.out hR8 hI).mono ?_
          rintro x w8 ⟨v8, rfl, ho8, hb8⟩
          obtain ⟨g8, c8', rfl, hg8, hc8, hL8⟩ := lie_of_own ho8 (by show 0 < 8; omega)
          have hnext : blockS (blocksS j first8 P) ((P.take (64 * j + 64)).drop (64 * j)) = blocksS (j + 1) first8 P := by
            rw [blocksS_add j 1, List.drop_take, show 64 * j + 64 - 64 * j = 64 by omega]
            rfl
          rw [hnext] at hL8
          have HL8 := Aside0.mk hL8
          have HR8 := Aside0.mk (hRd.out.below hb8)
          have hB8 := below_next hB7 hb8
          rw [show (blockS (blocksS j first8 P) ((P.take (64 * j + 64)).drop (64 * j))).list.length = 8 from rfl]
          go_wp2_with fail
          go_roundw
          case rel => exact ⟨j + 1, g8, c8', by omega, by go_num, rfl, HL8, HR8, hB8⟩
          case measure => simp [intOf]; omega
        · have hend : 64 * j = P.length := by omega
          have hge : ¬ ((64 * j : Nat) : Int) < (P.length : Int) := by omega
          have hsh : shaS l = outS (blocksS j first8 P) := by
            unfold shaS; rw [HP.out, show P.length / 64 = j by omega]
          have hH := blocksS_ok first8_ok j P
          obtain ⟨H, HE⟩ : ∃ H, Aside0 (blocksS j first8 P = H) := ⟨_, ⟨rfl⟩⟩
          rw [HE.out] at hsh hG hH
          have HSH := Aside0.mk hsh
          clear hsh hend
          go_wp2_with fail
          obtain ⟨wo, rfl⟩ : ∃ wo, wo = wr := ⟨_, rfl⟩
          have HZ0 : Aside0 (Ow wo wo.heap.size (.slice none 0 0) ((outS H).take (4 * 0))) := ⟨Kd.R_nil _ _ _ _ _⟩
          go_loopw [7, 6] (fun i v wq => ∃ (T : Nat) (vv : Value), T ≤ 8 ∧ i = .int .i64 T ∧ vv = v ∧ Aside0 (Ow wq wo.heap.size vv ((outS H).take (4 * T))) ∧ Below wo.heap.size wo wq) (fun i _ _ => 8 - (intOf i).toNat)
          case atStart => exact ⟨0, _, by omega, rfl, rfl, HZ0, Below.refl _ _⟩
          case round =>
            obtain ⟨T, vv, hT8, rfl, rfl, hO, hQ⟩ := hrel
            by_cases hlt : T < 8
            · have hlt' : (T : Int) < 8 := by omega
              have cX : wr.cell? ⟨g, T, none⟩ = some (.int .u32 (H.list.getD T 0)) := (hG.out.below hQ).cell T hlt
              have hx := getD_isW hH T
              have hnext := outS_take H T hlt
              have HNEXT := Aside0.mk hnext
              clear hnext
              generalize H.list.getD T 0 = x1 at *
              have hlen : ((outS H).take (4 * T)).length = 4 * T := by rw [List.length_take, outS_length]; omega
              have hb7 := below_next hB7 hQ
              have HLEN := Aside0.mk hlen
              clear hlen
              go_wp2_with fail
              refine (refStore_c hx.1 hx.2 false).mono ?_
              rintro x w9 ⟨v9, rfl, ho9, hb9⟩
              obtain ⟨A9, c9, rfl, hr9⟩ := rd_of_own ho9
              rw [storeW_length] at hr9 ⊢
              have hO9 : Ow w9 wo.heap.size vv ((outS H).take (4 * T)) := Kd.R_below hO.out hb9
              have hQ9 := below_next hQ hb9
              clear ho9
              go_wp2_with (first
                | (at_builtin; refine append_ow (w0 := wo) wo.heap.size rfl (.tmp 45) (.tmp 50) rfl vv ((outS H).take (4 * T)) (storeW x1 false) A9 4 c9 rfl rfl hO9 hr9 hQ9 hQ9.size (by rw [HLEN.out]; omega) ?_; intro v10 w10 ho10 hb10 hx10 hy10; clear hx10 hy10; rw [storeW_told, HNEXT.out] at ho10; have HO10 := Aside0.mk ho10; clear ho10))
              go_roundw
              case rel => exact ⟨T + 1, v10, by omega, by go_num, rfl, ⟨HO10.out⟩, hb10⟩
              case measure => simp [intOf]; omega
            · have hge : ¬ (T : Int) < 8 := by omega
              have h8 : T = 8 := by omega
              have HE : Ow wr w.heap.size vv (shaS l) := by
                have h1 := hO.out
                rw [h8] at h1
                rw [HSH.out]
                have e : (outS H).take (4 * 8) = outS H := List.take_of_length_le (by rw [outS_length]; omega)
                rw [e] at h1
                exact Kd.R_lower h1 hB7.size
              clear h8
              go_wp2_with fail
              go_ret
              exact ⟨_, rfl, HE, below_next hB7 hQ⟩
end Go.Proofs.YtmmbonlidcbkcaaDoor.RefOf
/- What the statements of the digest lean on: bytes of their own, a sum held against bytes, a sum that is fixed. -/
namespace Go.Proofs.YtmmbonlidcbkcaaDoor.DgLaw
open Go.RowKit Go.Proofs.YtmmbonlidcbkcaaDoorW.PrintWords Go.Proofs.YtmmbonlidcbkcaaDoor.Num Go.Proofs.YtmmbonlidcbkcaaDoor.Sha Go.Proofs.YtmmbonlidcbkcaaDoor.WordC Go.Proofs.YtmmbonlidcbkcaaDoor.Arr Go.Proofs.YtmmbonlidcbkcaaDoor.App Go.Proofs.YtmmbonlidcbkcaaDoor.DgC Go.Proofs.YtmmbonlidcbkcaaDoor.DgBlock Go.Proofs.YtmmbonlidcbkcaaDoor.DgState Go.Proofs.YtmmbonlidcbkcaaDoor.DgAdd Go.Proofs.YtmmbonlidcbkcaaDoor.DgSum Go.Proofs.YtmmbonlidcbkcaaDoor.DgOf Go.Proofs.YtmmbonlidcbkcaaDoor.DgWords
set_option linter.unusedVariables false
set_option linter.unusedSimpArgs false

theorem pt_blk {w : World} {g t : Nat} {cs : List Value} {ll : List (List Int)} {n : Nat} (hg : Blk w g t cs) (hn : ll.length = n) (hm : n ≤ 9223372036854775807)
    (h : ∀ i, i < n → ∃ A c, cs[i]? = some (.slice A (ll.getD i []).length c) ∧ Rd w A (ll.getD i []).length c (ll.getD i [])) : Pt w (some ⟨g, 0, none⟩) n n ll := by
  refine ⟨Nat.le_refl _, hn, hm, fun hp => ⟨_, rfl, fun j p hj => ?_⟩⟩
  have hjl : j < ll.length := (List.getElem?_eq_some_iff.1 hj).1
  have hp' : ll.getD j [] = p := by rw [List.getD_eq_getElem?_getD, hj]; rfl
  obtain ⟨A, c, hc, hr⟩ := h j (by omega)
  rw [hp'] at hc hr
  refine ⟨[.slice A p.length c], rfl, ⟨A, c, rfl, hr.cap, hr.cells⟩, fun i u hu => ?_⟩
  have hi : i = 0 := by
    have := (List.getElem?_eq_some_iff.1 hu).1
    simp at this; omega
  subst hi
  simp at hu
  subst hu
  rw [add_plain]
  have e : j * (Kd.slice 5 (Kd.int .u8)).sz + 0 = j := Nat.mul_one j
  rw [e, Blk.cell hg j]; exact hc
theorem pt_one {w : World} {A : Option Addr} {n c : Nat} {l : List Int} (h : Rd w A n c l) : Pt (w.alloc (.cells #[.slice A n c] 22)) (some ⟨w.heap.size, 0, none⟩) 1 1 [l] := by
  refine pt_blk (t := 22) (cs := [.slice A n c]) (heap_alloc_new _ _) rfl (by omega) (fun i hi => ?_)
  obtain rfl : i = 0 := by omega
  obtain rfl := h.len
  exact ⟨A, c, rfl, h.alloc _⟩
theorem pt_two {w : World} {A A' : Option Addr} {n c n' c' : Nat} {l l' : List Int} (h : Rd w A n c l) (h' : Rd w A' n' c' l') : Pt (w.alloc (.cells #[.slice A n c, .slice A' n' c'] 22)) (some ⟨w.heap.size, 0, none⟩) 2 2 [l, l'] := by
  refine pt_blk (t := 22) (cs := [.slice A n c, .slice A' n' c']) (heap_alloc_new _ _) rfl (by omega) (fun i hi => ?_)
  obtain rfl := h.len
  obtain rfl := h'.len
  have : i = 0 ∨ i = 1 := by omega
  rcases this with rfl | rfl
  · exact ⟨A, c, rfl, h.alloc _⟩
  · exact ⟨A', c', rfl, h'.alloc _⟩
theorem isB_two {l l' : List Int} (h : IsB l) (h' : IsB l') : ∀ x ∈ [l, l'], IsB x := by
  intro x hx
  simp only [List.mem_cons, List.not_mem_nil, or_false] at hx
  rcases hx with rfl | rfl
  · exact h
  · exact h'
theorem isB_one {l : List Int} (h : IsB l) : ∀ x ∈ [l], IsB x := by
  intro x hx
  rw [List.mem_singleton.1 hx]; exact h
theorem flat_one (l : List Int) : [l].flatten = l := by simp
theorem flat_two (l l' : List Int) : [l, l'].flatten = l ++ l' := by simp
/-- One part. -/
theorem Of1_c {A : Option Addr} {n c : Nat} {k : Nat} {l : List Int} {w : World} (hk : k = w.heap.size) (hr : Rd w A n c l) (hB : IsB l) (hl : n ≤ 140737488351232) (ht : Tb w) :
    Calls Tryd.prog 26 #[.slice (some ⟨k, 0, none⟩) 1 1] (w.alloc (.cells #[.slice A n c] 22)) fun e w' => e = .returned (.agg (nums .u8 (shaS l)).toArray) ∧ Below w.heap.size w w' := by
  subst hk
  refine (Of_c (pt_one hr) (isB_one hB) (by rw [flat_one, hr.len]; exact hl) (ht.below (below_alloc (Below.refl _ _) _))).mono ?_
  rintro e w' ⟨rfl, hb⟩
  rw [flat_one]
  exact ⟨rfl, ((Below.refl _ w).alloc (Nat.le_refl _) _).trans (hb.mono (by simp))⟩
theorem Of2_c {A A' : Option Addr} {n c n' c' : Nat} {k : Nat} {l l' : List Int} {w : World} (hk : k = w.heap.size) (hr : Rd w A n c l) (hr' : Rd w A' n' c' l') (hB : IsB l) (hB' : IsB l') (hl : n + n' ≤ 140737488351232) (ht : Tb w) :
    Calls Tryd.prog 26 #[.slice (some ⟨k, 0, none⟩) 2 2] (w.alloc (.cells #[.slice A n c, .slice A' n' c'] 22)) fun e w' => e = .returned (.agg (nums .u8 (shaS (l ++ l'))).toArray) ∧ Below w.heap.size w w' := by
  subst hk
  refine (Of_c (pt_two hr hr') (isB_two hB hB') (by rw [flat_two, List.length_append, hr.len, hr'.len]; exact hl) (ht.below (below_alloc (Below.refl _ _) _))).mono ?_
  rintro e w' ⟨rfl, hb⟩
  rw [flat_two]
  exact ⟨rfl, ((Below.refl _ w).alloc (Nat.le_refl _) _).trans (hb.mono (by simp))⟩
set_option maxHeartbeats 1000000 in
theorem own_c {A : Option Addr} {n c : Nat} {l : List Int} {w : World} (hr : Rd w A n c l) (hn : n ≤ 140737488351232) :
    Calls Tryd.prog 24 #[.slice A n c] w fun e w' => ∃ v, e = .returned v ∧ Ow w' w.heap.size v l ∧ Below w.heap.size w w' := by
  have hrA := hr.alloc (.cells #[] 5)
  have hbE : Below w.heap.size w (w.alloc (.cells #[] 5)) := (Below.refl _ _).alloc (Nat.le_refl _) _
  go_enter Tryd.func24, Tryd.ntmps24
  go_wp2_with (first
    | (at_builtin; refine append_ow (w0 := w) w.heap.size rfl (.tmp 3) (.tmp 4) rfl (.slice (some ⟨w.heap.size, 0, none⟩) 0 0) [] l A n c rfl rfl (ow_empty w _ (Nat.le_refl _)) hrA hbE (by simp) (by simp; omega) ?_; intro v1 w1 ho1 hb1 hx1 hy1; clear hx1 hy1; rw [List.nil_append] at ho1; have HO := Aside0.mk ho1; clear ho1))
  go_ret
  exact ⟨_, rfl, HO.out, hb1⟩
theorem rd_blk32 {w : World} {g t : Nat} {S : List Int} (h : Blk w g t (nums .u8 S)) (hl : S.length = 32) : Rd w (some ⟨g, 0, none⟩) 32 32 S := by
  have := rd_of_blk (t := t) (cs := nums .u8 S) h 0 S 32 (by omega) (by omega) (fun j hj => by rw [Nat.zero_add]; exact nums_get .u8 S j hj)
  rw [hl] at this; exact this
set_option maxHeartbeats 2000000 in
set_option maxRecDepth 100000 in
theorem is_c {A : Option Addr} {n c : Nat} {l S : List Int} {w : World} (hr : Rd w A n c l) (hB : IsB l) (hS : IsB S) (hl : S.length = 32) :
    Calls Tryd.prog 25 #[.agg (nums .u8 S).toArray, .slice A n c] w fun e w' => e = .returned (.bool (eqB S l)) ∧ Below w.heap.size w w' := by
  have hb1 : Below w.heap.size w (w.alloc (.cells (nums .u8 S).toArray 27)) := (Below.refl _ _).alloc (Nat.le_refl _) _
  have hq1 := (rd_blk32 (heap_alloc_new w (.cells (nums .u8 S).toArray 27)) hl).drew
  have hq2 := (hr.below hb1).drew
  have s1 := rd_string hq1
  have s2 := rd_string hq2
  have HS := Aside0.mk hl
  clear hq1 hq2 hl
  go_enter Tryd.func25, Tryd.ntmps25
  go_wp2_with fail
  go_region_held3 (fun w' => (convert 22 9 (.slice (some ⟨w.heap.size, 0, none⟩) 32 32)).run Tryd.prog w' = .ok (.string (strOfNums S)) w' ∧ (convert 22 9 (.slice A n c)).run Tryd.prog w' = .ok (.string (strOfNums l)) w')
    (first | exact ⟨s1, s2⟩)
    (fail)
  go_wp2_with fail
  go_ret
  exact ⟨congrArg (fun b => Ending.returned (Value.bool b)) (str_eq hS hB), hb1.drew⟩
/-- A literal's bytes, marked as such or not. -/
theorem rd_const (w : World) (l : List Int) (fr : Nat × Nat) (hl : l.length ≤ 9223372036854775807) : Rd (w.alloc (.cells (nums .u8 l).toArray 5 fr)) (some ⟨w.heap.size, 0, none⟩) l.length l.length l :=
  ⟨rfl, Nat.le_refl _, Kd.C_of_reads (d := (0 : Int)) (h1 := fun _ => rfl) ⟨rfl, hl, fun hp => ⟨_, rfl, fun j hj => by
    rw [add_plain, cell_of_row _ _ j _ 5 fr (heap_alloc_new _ _)]
    have := nums_get .u8 l j hj
    simpa using this⟩⟩⟩
theorem abc0 : (shaS [97, 98, 99]).getD 0 0 = 186 := by kernel_rfl
theorem abc1 : (shaS [97, 98, 99]).getD 1 0 = 120 := by kernel_rfl
theorem abc31 : (shaS [97, 98, 99]).getD 31 0 = 173 := by kernel_rfl
set_option maxHeartbeats 800000 in
set_option maxRecDepth 100000 in
theorem awake02_c {w : World} (ht : Tb w) : Calls Tryd.prog 23 #[] w fun e w' => e = .returned (.bool true) ∧ Below w.heap.size w w' := by
  have hl := shaS_length [97, 98, 99]
  have e0 := abc0
  have e1 := abc1
  have e31 := abc31
  obtain ⟨S, HS⟩ : ∃ S, Aside0 (shaS [97, 98, 99] = S) := ⟨_, ⟨rfl⟩⟩
  rw [HS.out] at hl e0 e1 e31
  have HL := Aside0.mk hl
  have E0 := Aside0.mk e0
  have E1 := Aside0.mk e1
  have E31 := Aside0.mk e31
  clear hl e0 e1 e31
  have hb1 : Below w.heap.size w (w.alloc (.cells (nums .u8 [97, 98, 99]).toArray 5 (3, 4))) := (Below.refl _ _).alloc (Nat.le_refl _) _
  have hIB : IsB [97, 98, 99] := by intro x hx; simp at hx; omega
  have hcv := fun (w : World) (C : Array Value) (n c : Nat) => Lib.run_convert_bytes_const (P := Tryd.prog) w 22 5 C n c Tryd.underlying22 Tryd.underlying5
  go_enter Tryd.func23, Tryd.ntmps23
  go_wp2_with fail
  refine (Of1_c (by simp) (rd_const w [97, 98, 99] (3, 4) (by simp)) hIB (by simp) (ht.below hb1)).mono ?_
  rintro x w2 ⟨rfl, hb2⟩
  rw [HS.out]
  have hb := below_next hb1 hb2
  go_wp2_with (first
    | (refine store_arr rfl 27 (.tmp 1) (.tmp 5) rfl w2.heap.size .u8 S rfl rfl 27 32 _ (heap_alloc_new _ _) size27 HL.out rfl ?_; intro w3 hO3 hg3; have c0 : w3.cell? ⟨w2.heap.size, 0, none⟩ = some (.int .u8 186) := (by rw [blk_num hO3 0 (by rw [HL.out]; omega), E0.out]); have c1 : w3.cell? ⟨w2.heap.size, 1, none⟩ = some (.int .u8 120) := (by rw [blk_num hO3 1 (by rw [HL.out]; omega), E1.out]); have c31 : w3.cell? ⟨w2.heap.size, 31, none⟩ = some (.int .u8 173) := (by rw [blk_num hO3 31 (by rw [HL.out]; omega), E31.out]); have hb3 := (hb.alloc hb.size _).grown hg3 (Nat.le_trans hb.size (by simp)) (fun k hk => by cases hk; exact hb.size); clear hO3 hg3))
  go_ret
  exact ⟨rfl, hb3⟩
end Go.Proofs.YtmmbonlidcbkcaaDoor.DgLaw
/- Parts that a call gathers: slices of bytes of its own, in a row of its own. -/
namespace Go.Proofs.YtmmbonlidcbkcaaDoor.DgParts
open Go.RowKit Go.Proofs.YtmmbonlidcbkcaaDoorW.PrintWords Go.Proofs.YtmmbonlidcbkcaaDoor.Num Go.Proofs.YtmmbonlidcbkcaaDoor.Sha Go.Proofs.YtmmbonlidcbkcaaDoor.WordC Go.Proofs.YtmmbonlidcbkcaaDoor.Arr Go.Proofs.YtmmbonlidcbkcaaDoor.App Go.Proofs.YtmmbonlidcbkcaaDoor.DgC Go.Proofs.YtmmbonlidcbkcaaDoor.DgBlock Go.Proofs.YtmmbonlidcbkcaaDoor.DgState Go.Proofs.YtmmbonlidcbkcaaDoor.DgAdd Go.Proofs.YtmmbonlidcbkcaaDoor.DgSum Go.Proofs.YtmmbonlidcbkcaaDoor.DgOf Go.Proofs.YtmmbonlidcbkcaaDoor.DgLaw
set_option linter.unusedVariables false
set_option linter.unusedSimpArgs false

/-- Slices of bytes of one's own, none of which is v3's. -/
abbrev Ps (w : World) (base : Nat) (v3 v4 : Value) (ll : List (List Int)) : Prop := Kd.R (Kd.slice 5 (Kd.int .u8)) 22 w base (fun k => some k ≠ v3.ownBlock) v4 ll
theorem ps_after {W w1 : World} {base : Nat} {v v1 u : Value} {ll : List (List Int)} (h : Ps W base v u ll) (hg : W.grownBy w1 v.ownBlock) (hat : v1.ownBlock = v.ownBlock ∨ ∃ b, v1.ownBlock = some b ∧ W.heap.size ≤ b) : Ps w1 base v1 u ll := by
  refine Kd.R_mono (Kd.R_grown (Kd.R_bound h) hg (fun k hk => hk.1)) (fun k hk => ?_)
  obtain ⟨hk1, _, hk3, _⟩ := hk
  rcases hat with e | ⟨b, e, hb⟩
  · rw [e]; exact hk1
  · rw [e]; intro x; injection x with x; omega
theorem ps_pt {W : World} {base : Nat} {v3 v4 : Value} {ll : List (List Int)} (h : Ps W base v3 v4 ll) : ∃ A c, v4 = .slice A ll.length c ∧ Pt W A ll.length c ll := by
  obtain ⟨A, c, e, hl, hC⟩ := Kd.R_reads h
  exact ⟨A, c, e, hl, hC⟩
theorem info22 : (Tryd.prog.info? 22).map (fun i => (i.zero, i.size, i.bytes)) = some (some (.slice none 0 0), 1, 24) := by kernel_rfl
theorem ow_types {W w1 : World} {b base : Nat} {u v4 : Value} {xs : List Int} {ok : Nat → Prop} {ll : List (List Int)} (h : Ow W b u xs) (h4 : Kd.R (Kd.slice 5 (Kd.int .u8)) 22 W base ok v4 ll) (hg : W.grownBy w1 v4.ownBlock) : Ow w1 b u xs :=
  Kd.R_over' h (Kd.R_typed h4) (by intro q hq; simp [Kd.int, Kd.scalar] at hq; omega) hg
theorem append_part {ops : Array Oper} {rest : List Oper} {o : Oper} {a : Act} {Q : Exit → Act → World → Prop} {w0 W : World} (base B : Nat) (hgd : o.guard = none) (s x : Operand)
    (ho : o.op = .call { callee := .builtin .append, args := #[s, x], argTypes := #[30, 30] })
    (v3 v4 v : Value) (ll : List (List Int)) (p : List Int) (hs : a.eval s = v4) (hx : a.eval x = .slice (some ⟨W.heap.size, 0, none⟩) 1 1)
    (HP : Ps W base v3 v4 ll) (HV : Ow W B v p) (hv3 : ∀ k, v3.ownBlock = some k → k < B) (hB : B ≤ W.heap.size) (hbB : base ≤ B) (HB : Below base w0 W) (hl : ll.length + 1 ≤ 1000000)
    (h : ∀ v1 w1, Ps w1 base v3 v1 (ll ++ [p]) → Below base w0 w1 → W.grownBy w1 v4.ownBlock → wpList Tryd.prog ops Q rest (a.put o.dst v1) w1) :
    wpList Tryd.prog ops Q (o :: rest) a (W.alloc (.cells #[v] 22)) := by
  have hb := Kd.R_bound HV
  refine Kd.R_append (Kd.slice 5 (Kd.int .u8)) (w0 := w0) base hgd s x 30 22 (.slice none 0 0) 24 ho Tryd.underlying30 info22 rfl (by decide) (by omega) v4 ll p [v] (fun k => some k ≠ v3.ownBlock)
    (fun k => B ≤ k ∧ ∃ cells, W.heap[k]? = some (.cells cells 5 (0, 0))) hs hx ⟨v, rfl, Kd.R_mono (Kd.R_lower hb hbB) (fun k hk => ⟨hk.2.1, by
      obtain ⟨_, _, _, q, hq, cells, hc⟩ := hk
      simp [Kd.int, Kd.scalar] at hq
      subst hq
      exact ⟨cells, hc⟩⟩)⟩ (fun k hk => ⟨fun e => by have := hv3 k e.symm; have := hk.1; omega, fun e => by
      obtain ⟨_, cells, hc⟩ := hk
      obtain ⟨cells', hc'⟩ := Kd.R_typed HP k e.symm
      rw [hc] at hc'
      injection hc' with hc'; injection hc' with _ hc'
      exact absurd hc' (by decide)⟩) (fun k hk e => by have := hv3 k e.symm; omega) HP HB (Nat.le_trans hbB hB) (by omega) ?_
  intro v1 w1 h1 h2 h3 _
  exact h v1 w1 h1 h2 h3
/-- May parts be gone through here? -/
def fewB (ll : List (List Int)) : Bool := decide (ll.length ≤ 20) && ll.all fun l => decide (l.length ≤ 400)
theorem fewB_iff {ll : List (List Int)} : fewB ll = true ↔ ll.length ≤ 20 ∧ ∀ l ∈ ll, l.length ≤ 400 := by simp [fewB]
set_option maxHeartbeats 2000000 in
set_option maxRecDepth 100000 in
theorem few_c {A : Option Addr} {n c : Nat} {ll : List (List Int)} {w : World} (hP : Pt w A n c ll) :
    Calls Tryd.prog 28 #[.slice A n c] w fun e w' => e = .returned (.bool (fewB ll)) ∧ w = w' := by
  have hn := hP.len
  have hm : n ≤ 9223372036854775807 := Kd.C_max hP.rows
  have HN := Aside0.mk hn
  have HP := Aside0.mk hP
  clear hn hP
  go_enter Tryd.func28, Tryd.ntmps28
  go_wp2
  go_loop [3] (fun i => ∃ j : Nat, j ≤ n ∧ j ≤ 21 ∧ i = .int .i64 j ∧ Aside0 (∀ q, q < j → (ll.getD q []).length ≤ 400)) (fun i => 22 - (intOf i).toNat)
  case atStart => exact ⟨0, by omega, by omega, rfl, ⟨fun q hq => by omega⟩⟩
  case round =>
    obtain ⟨j, hj, hj21, rfl, hall⟩ := hrel
    by_cases hlt : j < n
    · have hlt' : (j : Int) < (n : Int) := by omega
      by_cases h20 : j ≤ 20
      · have h20' : (j : Int) ≤ 20 := by omega
        obtain ⟨ad, Ai, ci, rfl, hcell, _⟩ := HP.out.at_ j hlt
        obtain ⟨q, HQ⟩ : ∃ q, Aside0 ((ll.getD j []).length = q) := ⟨_, ⟨rfl⟩⟩
        rw [HQ.out] at hcell
        by_cases h400 : q ≤ 400
        · have h400' : ¬ (400 : Int) < (q : Int) := by omega
          go_wp2
          go_round
          case rel => exact ⟨j + 1, by omega, by omega, by go_num, ⟨fun p hp => by
            rcases Nat.lt_or_ge p j with h | h
            · exact hall.out p h
            · obtain rfl : p = j := by omega
              rw [HQ.out]; exact h400⟩⟩
          case measure => simp [intOf]; omega
        · have h400' : (400 : Int) < (q : Int) := by omega
          have hno : fewB ll = false := by
            rw [Bool.eq_false_iff]; intro hf
            have := (fewB_iff.1 hf).2 (ll.getD j []) (by rw [List.getD_eq_getElem?_getD, List.getElem?_eq_getElem (by have := HN.out; omega)]; exact List.getElem_mem _)
            have := HQ.out
            omega
          have HNO := Aside0.mk hno
          clear hno
          go_wp2
          go_ret
          exact ⟨by rw [HNO.out]; rfl, rfl⟩
      · have h20' : ¬ (j : Int) ≤ 20 := by omega
        have hb : ¬ (n : Int) ≤ 20 := by omega
        have hno : fewB ll = false := by
          rw [Bool.eq_false_iff]; intro hf
          have := (fewB_iff.1 hf).1
          have := HN.out
          omega
        have HNO := Aside0.mk hno
        clear hno
        go_wp2
        go_ret
        exact ⟨by rw [HNO.out]; rfl, rfl⟩
    · have hge : ¬ (j : Int) < (n : Int) := by omega
      have hyes : fewB ll = decide ((n : Int) ≤ 20) := by
        rw [Bool.eq_iff_iff, fewB_iff, decide_eq_true_iff, HN.out]
        constructor
        · intro h; omega
        · intro h
          refine ⟨by omega, fun l hl => ?_⟩
          obtain ⟨q, hq, rfl⟩ := List.mem_iff_getElem.1 hl
          have := hall.out q (by have := HN.out; omega)
          rw [List.getD_eq_getElem?_getD, List.getElem?_eq_getElem hq] at this
          exact this
      have HYES := Aside0.mk hyes
      clear hyes
      go_wp2
      go_ret
      exact ⟨by rw [HYES.out]; rfl, rfl⟩
end Go.Proofs.YtmmbonlidcbkcaaDoor.DgParts
/- Two sums held against each other. -/
namespace Go.Proofs.YtmmbonlidcbkcaaDoor.DgEq
open Go.RowKit Go.Proofs.YtmmbonlidcbkcaaDoorW.PrintWords Go.Proofs.YtmmbonlidcbkcaaDoor.Num Go.Proofs.YtmmbonlidcbkcaaDoor.Sha Go.Proofs.YtmmbonlidcbkcaaDoor.WordC Go.Proofs.YtmmbonlidcbkcaaDoor.Arr
theorem plain5 : Tryd.prog.plainKey 5 = true := by kernel_rfl
theorem cells5 : Tryd.prog.cellsOf 5 = 1 := by kernel_rfl
theorem eqItems_nums (d : Nat) (xs ys : List Int) (W : World) : ∀ is : List Nat, (∀ i ∈ is, i < xs.length ∧ i < ys.length) →
    (Op.eqItems (d + 1) 5 1 (nums .u8 xs).toArray (nums .u8 ys).toArray is).run Tryd.prog W = .ok (is.all fun i => xs.getD i 0 == ys.getD i 0) W
  | [], _ => by simp [Op.eqItems]
  | i :: is, h => by
    have hi := h i (by simp)
    have p1 : (part 5 (nums .u8 xs).toArray (i * 1)).run Tryd.prog W = .ok (.int .u8 (xs.getD i 0)) W := run_part_plain W plain5 (by rw [Nat.mul_one]; simpa using nums_get .u8 xs i hi.1)
    have p2 : (part 5 (nums .u8 ys).toArray (i * 1)).run Tryd.prog W = .ok (.int .u8 (ys.getD i 0)) W := run_part_plain W plain5 (by rw [Nat.mul_one]; simpa using nums_get .u8 ys i hi.2)
    have p3 := run_equalIn_int (P := Tryd.prog) W d 5 .u8 .u8 (xs.getD i 0) (ys.getD i 0) Tryd.underlying5
    have ih := eqItems_nums d xs ys W is (fun j hj => h j (by simp [hj]))
    simp only [Op.eqItems, Sem.run_bind, p1, p2, p3, Result.andThen_ok, List.all_cons]
    cases hb : (xs.getD i 0 == ys.getD i 0)
    · simp
    · simpa using ih
theorem all_eqB {xs ys : List Int} {n : Nat} (hx : xs.length = n) (hy : ys.length = n) : ((List.range n).all fun i => xs.getD i 0 == ys.getD i 0) = eqB xs ys := by
  rw [Bool.eq_iff_iff, eqB_iff, List.all_eq_true]
  constructor
  · intro h
    apply List.ext_getElem (by omega)
    intro i h1 h2
    have := h i (List.mem_range.2 (by omega))
    rw [beq_iff_eq, List.getD_eq_getElem?_getD, List.getD_eq_getElem?_getD, List.getElem?_eq_getElem h1, List.getElem?_eq_getElem h2] at this
    simpa using this
  · rintro rfl i _
    simp
theorem eql27 {xs ys : List Int} (hx : xs.length = 32) (hy : ys.length = 32) (W : World) : (binOp .eql 27 (.agg (nums .u8 xs).toArray) (.agg (nums .u8 ys).toArray)).run Tryd.prog W = .ok (.bool (eqB xs ys)) W := by
  obtain ⟨i0, hi⟩ := info_of_underlying (P := Tryd.prog) Tryd.underlying5
  have h := run_equalIn_array (P := Tryd.prog) W 9999 (nums .u8 xs).toArray (nums .u8 ys).toArray Tryd.underlying27 hi
  rw [cells5, eqItems_nums 9998 xs ys W _ (fun i hm => by have := List.mem_range.1 hm; omega), all_eqB hx hy] at h
  simp only [binOp]
  simp [Op.equal, Op.maxDepth, h]
end Go.Proofs.YtmmbonlidcbkcaaDoor.DgEq
