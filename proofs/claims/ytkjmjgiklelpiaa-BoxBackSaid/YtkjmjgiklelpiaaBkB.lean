/- Merged out of BxM; what the box laws do not use is left out. -/
import Derived.Test.YtkjmjgiklelpiaaBkW
import Derived.Test.YtkjmjgiklelpiaaBkQ
import Derived.Test.YtkjmjgiklelpiaaBkP
import Derived.Deep.RegionHeld3
import Derived.Deep.Cut
import Derived.Deep.CutRange
import Derived.Test.YtkjmjgiklelpiaaBkS
import Derived.Test.YtkjmjgiklelpiaaBkC
import Derived.Test.YtkjmjgiklelpiaaBkO
/- Merged out of BxC, BxT, BxS, BxO, BxR, BxA, BxL. -/
/- Leaf contracts of box. -/
namespace Go.Proofs.Ytkjmjgiklelpiaa.BxC
open Go.RowKit Go.Proofs.YtkjmjgiklelpiaaW.PrintWords Go.Proofs.Ytkjmjgiklelpiaa.Num Go.Proofs.Ytkjmjgiklelpiaa.WordC Go.Proofs.Ytkjmjgiklelpiaa.Arr Go.Proofs.Ytkjmjgiklelpiaa.App Go.Proofs.Ytkjmjgiklelpiaa.CiC Go.Proofs.Ytkjmjgiklelpiaa.BxRef
set_option linter.unusedVariables false
set_option linter.unusedSimpArgs false

theorem own_eq (l : List Int) (hn : l.length ≤ 140737488351232) : hypogeumlaw07_own.f l = some l := by
  unfold hypogeumlaw07_own.f
  simp only [Option.bind_some]
  rw [if_pos (by simp; omega)]; simp
theorem Same_l (l l' : List Int) (hb : IsB l) (hb' : IsB l') (he : l.length = l'.length) (hn : l.length ≤ 140737488351232) : ∀ (d i k : Nat) (x : Int), i + d = l.length → d < k → 0 ≤ x → x < 256 →
    word_Same.l0 k l' x l (l.length : Int) (i : Int) = some (decide (x = 0) && eqB (l.drop i) (l'.drop i)) := by
  intro d
  induction d with
  | zero =>
    intro i k x hi hk h0 h1
    obtain ⟨k, rfl⟩ : ∃ m, k = m + 1 := ⟨k - 1, by omega⟩
    simp only [word_Same.l0]
    rw [if_neg (by omega), List.drop_of_length_le (by omega), List.drop_of_length_le (by omega), eqB_self]
    simp; rfl
  | succ d ih =>
    intro i k x hi hk h0 h1
    obtain ⟨k, rfl⟩ : ∃ m, k = m + 1 := ⟨k - 1, by omega⟩
    simp only [word_Same.l0]
    have e1 : rd l (i : Int) = l[i] := by simp [rd, List.getD_eq_getElem?_getD, List.getElem?_eq_getElem (by omega : i < l.length)]
    have e2 : rd l' (i : Int) = l'[i] := by simp [rd, List.getD_eq_getElem?_getD, List.getElem?_eq_getElem (by omega : i < l'.length)]
    rw [if_pos (by omega), if_pos (by omega), if_pos (by omega), if_pos (by omega), e1, e2]
    have hu := unlike x l[i] l'[i] ⟨h0, h1⟩ (hb _ (List.getElem_mem _)) (hb' _ (List.getElem_mem _))
    rw [show wrap64 ((i : Int) + 1) = ((i + 1 : Nat) : Int) by unfold wrap64; omega, ih (i + 1) k _ (by omega) (by omega) hu.1.1 hu.1.2]
    rw [List.drop_eq_getElem_cons (by omega : i < l.length), List.drop_eq_getElem_cons (by omega : i < l'.length)]
    congr 1
    rw [Bool.eq_iff_iff]
    simp only [Bool.and_eq_true, decide_eq_true_eq, hu.2, eqB_iff, List.cons.injEq]
    exact ⟨fun h => ⟨h.1.1, h.1.2, h.2⟩, fun h => ⟨⟨h.1, h.2.1⟩, h.2.2⟩⟩
theorem Same_eq (l l' : List Int) (hb : IsB l) (hb' : IsB l') (hn : l.length ≤ 140737488351232) (k : Nat) (hk : l.length < k) : word_Same.f k l l' = some (eqB l l') := by
  unfold word_Same.f
  by_cases he : l.length = l'.length
  · rw [if_pos (by omega)]
    have := Same_l l l' hb hb' he hn l.length 0 k 0 (by omega) hk (by omega) (by omega)
    simpa using this
  · rw [if_neg (by omega)]
    congr 1
    rw [Bool.eq_iff_iff, eqB_iff]
    exact ⟨fun h => (by cases h), fun h => absurd (congrArg List.length h) he⟩
theorem refFill_l (s : Nat) (h1 : 1 ≤ s) (h2 : s ≤ 4096) : ∀ (d : Nat) (l : List Int) (k : Nat), pad l.length s = d → l.length + d < 140737488355328 → d < k →
    hypogeumref01_Fill.l0 k (s : Int) l = some (l ++ List.replicate d 0, 0) := by
  intro d
  induction d with
  | zero =>
    intro l k hd hl hk
    obtain ⟨k, rfl⟩ : ∃ m, k = m + 1 := ⟨k - 1, by omega⟩
    simp only [hypogeumref01_Fill.l0]
    have hz : l.length % s = 0 := by
      rcases Nat.eq_zero_or_pos (l.length % s) with h | h
      · exact h
      · have := pad_step l.length s h1 (by omega); omega
    rw [if_neg (by omega), if_neg (by rw [← Int.natCast_emod, hz]; omega)]
    simp
  | succ d ih =>
    intro l k hd hl hk
    obtain ⟨k, rfl⟩ : ∃ m, k = m + 1 := ⟨k - 1, by omega⟩
    simp only [hypogeumref01_Fill.l0]
    have hz : l.length % s ≠ 0 := fun h => by have := pad_zero l.length s h; omega
    have hp := pad_step l.length s h1 hz
    rw [if_neg (by omega), if_pos (by rw [← Int.natCast_emod]; omega), if_pos (by omega), ih (l ++ [0]) k (by simp; omega) (by simp; omega) (by omega)]
    simp [List.replicate_succ]
theorem refFill_eq (l : List Int) (hn : l.length ≤ 140737488351232) (s : Nat) (h1 : 1 ≤ s) (h2 : s ≤ 4096) (k : Nat) (hk : 4100 ≤ k) : hypogeumref01_Fill.f k l (s : Int) = some (filled l s, 0) := by
  obtain ⟨k, rfl⟩ : ∃ m, k = m + 1 := ⟨k - 1, by omega⟩
  unfold hypogeumref01_Fill.f
  rw [if_neg (by omega), show decide ((s : Int) > 4096) = false by simp; omega]
  have hp := pad_lt l.length s h1
  simp only [hypogeumref01_Fill.j0]
  rw [if_neg (by simp)]
  simp only [Option.bind_some]
  rw [if_pos (by simp; omega), List.nil_append, refFill_l s h1 h2 (pad l.length s) l k rfl (by omega) (by omega)]
  rfl
theorem infoU8 : (Try.prog.info? 5).map (fun i => (i.zero, i.size, i.bytes)) = some (some (.int .u8 0), 1, 1) := by kernel_rfl
theorem sizeU8 : (Try.prog.info? 5).map (·.size) = some 1 := by kernel_rfl
/-- A made slice of bytes. -/
theorem ow_made (W : World) (base m : Nat) (hb : base ≤ W.heap.size) (hm : m ≤ 9223372036854775807) :
    Ow (W.alloc (.cells (madeCells #[.int .u8 0] m) 5)) base (.slice (some ⟨W.heap.size, 0, none⟩) m m) (List.replicate m 0) := by
  refine Kd.R_of_own ?_ (fun _ _ => trivial)
  have := own_made W base 5 .u8 m hb hm
  simpa [encs, nums] using this
set_option maxHeartbeats 1000000 in
theorem Fill_yes {A : Option Addr} {n c : Nat} {l : List Int} {w : World} (hr : Rd w A n c l) (hn : n ≤ 140737488351232) (s : Nat) {z : Int} (hz : z = s) (h1 : 1 ≤ s) (h2 : s ≤ 4096) :
    Calls Try.prog 72 #[.slice A n c, .int .i64 z] w fun e w' => ∃ v, e = .returned (.tuple #[v, .int .i64 0]) ∧ Ow w' w.heap.size v (filled l s) ∧ Below w.heap.size w w' := by
  subst hz
  have hp := pad_int n s h1
  have hpl := pad_lt n s h1
  have b1 : (1 : Int) ≤ s := by omega
  have b2 : (s : Int) ≤ 4096 := by omega
  have b3 : 0 ≤ (n : Int) % (s : Int) := Int.emod_nonneg _ (by omega)
  have b4 : (n : Int) % (s : Int) < s := Int.emod_lt_of_pos _ (by omega)
  have b5 : (0 : Int) ≤ (pad n s : Nat) := by omega
  have b6 : ((pad n s : Nat) : Int) ≤ 4096 := by omega
  have hp' : -((n : Int) % (s : Int)) % (s : Int) = (pad n s : Nat) := by rw [← hp, Int.sub_eq_add_neg, Int.add_emod_left]
  have hmk : ∀ W : World, (Instr.makeSlice 22 (.int .i64 ((n : Int) + ((pad n s : Nat) : Int))) (.int .i64 ((n : Int) + ((pad n s : Nat) : Int)))).run Try.prog W = .ok (.slice (some ⟨W.heap.size, 0, none⟩) (n + pad n s) (n + pad n s)) (W.alloc (.cells (madeCells #[.int .u8 0] (n + pad n s)) 5)) := by
    rw [show (n : Int) + ((pad n s : Nat) : Int) = ((n + pad n s : Nat) : Int) by omega]
    exact print_make 22 5 .u8 1 Try.underlying22 infoU8 (by omega) (n + pad n s) (by omega)
  go_enter Try.func72, Try.ntmps72
  go_wp2_with (refine Kd.R_copy (0 : Int) w.heap.size rfl (.tmp 27) (.tmp 28) 22 22 5 rfl Try.underlying22 sizeU8 _ (List.replicate (n + pad n s) 0) l _ n _ (fun _ => True) rfl rfl (ow_made w w.heap.size _ (Nat.le_refl _) (by omega)) (hr.alloc _).cells ((Below.refl _ w).alloc (Nat.le_refl _) _) (by simp) ?_; intro w1 hR hB1 _)
  go_ret2
  refine ⟨_, rfl, ?_, hB1⟩
  have e : l.take (min n (List.replicate (n + pad n s) (0 : Int)).length) ++ (List.replicate (n + pad n s) (0 : Int)).drop (min n (List.replicate (n + pad n s) (0 : Int)).length) = filled l s := by
    have hl := hr.len
    rw [List.length_replicate, Nat.min_eq_left (by omega), List.take_of_length_le (by omega), List.drop_replicate]
    unfold filled
    rw [hl, show n + pad n s - n = pad n s by omega]
  rw [← e]; exact hR
/-- A number in eight bytes, the lowest first. -/
def le8 (n : Nat) : List Int := (told 8 (n : Int)).reverse
theorem le8_length (n : Nat) : (le8 n).length = 8 := by simp [le8, told_length]
theorem le8_isB (n : Nat) : IsB (le8 n) := fun x hx => told_isB 8 _ x (by simpa [le8] using hx)
theorem eight_eq (n : Nat) (hn : n ≤ 140737488351232) : hypogeumref07_eight.f 3000 (n : Int) = some (le8 n) := by
  unfold hypogeumref07_eight.f
  have e1 : IntKind.u64.wrap (n : Int) = (n : Int) := by rw [IntKind.wrap_u64]; omega
  have e2 := PlainCipherBlocks.Told_eq (n : Int) (by omega) (by omega) 8 (by omega) 3000 (by omega)
  rw [e1]
  rw [show ((8 : Nat) : Int) = 8 from rfl] at e2
  rw [e2]
  simp only [Option.bind_some]
  rw [PlainCipherBlocks.Back_eq _ (by rw [told_length]; omega) 3000 (by rw [told_length]; omega)]
  rfl
theorem length_eq (n : Nat) (hn : n ≤ 140737488351232) : box_length.f 3000 (n : Int) = some (le8 n) := by
  unfold box_length.f
  have e1 : IntKind.u64.wrap (n : Int) = (n : Int) := by rw [IntKind.wrap_u64]; omega
  rw [e1]
  simp only [Option.bind_some]
  rw [PlainCipherBlocks.Store_eq ((n : Int) % 4294967296) (by omega) (by omega) true 3000 (by omega)]
  simp only [Option.bind_some]
  have hl : ∀ a, (storeW a true).length = 4 := fun a => by simp [storeW, told_length]
  rw [if_pos (by simp [hl])]
  rw [PlainCipherBlocks.Store_eq _ (by omega) (by omega) true 3000 (by omega)]
  simp only [Option.bind_some]
  rw [if_pos (by simp [hl])]
  congr 1
  simp only [storeW, told, le8, if_true, List.nil_append, List.reverse_append, List.reverse_cons, List.reverse_nil, List.append_assoc, List.cons_append, List.cons.injEq]
  and_intros <;> first | omega | trivial
theorem eight_c (n : Nat) (hn : n ≤ 140737488351232) {w : World} : Calls Try.prog 62 #[.int .i64 (n : Int)] w fun e w' => ∃ v, e = .returned v ∧ Ow w' w.heap.size v (le8 n) ∧ Below w.heap.size w w' :=
  hypogeumref07_eight.calls 3000 n _ w (eight_eq n hn)
theorem length_c (n : Nat) (hn : n ≤ 140737488351232) {w : World} : Calls Try.prog 73 #[.int .i64 (n : Int)] w fun e w' => ∃ v, e = .returned v ∧ Ow w' w.heap.size v (le8 n) ∧ Below w.heap.size w w' :=
  box_length.calls 3000 n _ w (length_eq n hn)
theorem filled_c {A : Option Addr} {n c : Nat} {l : List Int} {w : World} (hr : Rd w A n c l) (hn : n ≤ 140737488351232) :
    Calls Try.prog 61 #[.slice A n c] w fun e w' => ∃ v, e = .returned v ∧ Ow w' w.heap.size v (filled l 16) ∧ Below w.heap.size w w' := by
  obtain ⟨rfl, hc, hC⟩ := hr
  refine hypogeumref07_filled.calls 4100 A c l _ w hC hc ?_
  unfold hypogeumref07_filled.f
  have e := refFill_eq l hn 16 (by omega) (by omega) 4100 (by omega)
  rw [show ((16 : Nat) : Int) = 16 from rfl] at e
  rw [e]; rfl
theorem right_c {A B : Option Addr} {n c m d : Nat} {k o : List Int} {w : World} (hk : Rd w A n c k) (ho : Rd w B m d o) :
    Calls Try.prog 59 #[.slice A n c, .slice B m d] w fun e w' => e = .returned (.bool (rightC n m)) ∧ Drawn0 w w' := by
  obtain ⟨rfl, hc, hC⟩ := hk
  obtain ⟨rfl, hd, hD⟩ := ho
  refine box_right.calls A c k B d o _ w hC hc hD hd ?_
  unfold box_right.f rightC
  by_cases h : k.length = 32
  · rw [if_pos (by omega)]
    congr 1
    rw [Bool.eq_iff_iff]; simp; omega
  · rw [if_neg (by omega)]
    congr 1
    simp [h]
theorem Same_c {A B : Option Addr} {n c m d : Nat} {l l' : List Int} {w : World} (hr : Rd w A n c l) (hr' : Rd w B m d l') (hb : IsB l) (hb' : IsB l') (hn : n ≤ 140737488351232) :
    Calls Try.prog 63 #[.slice A n c, .slice B m d] w fun e w' => e = .returned (.bool (eqB l l')) ∧ Drawn0 w w' := by
  obtain ⟨rfl, hc, hC⟩ := hr
  obtain ⟨rfl, hd, hD⟩ := hr'
  exact word_Same.calls (l.length + 1) A c l B d l' _ w hC hc hD hd (Same_eq l l' hb hb' hn _ (by omega))
theorem Size_c (z : Int) (h0 : -9223372036854775808 ≤ z) (h1 : z ≤ 1099511627776) {w : World} : Calls Try.prog 40 #[.int .i64 z] w fun e w' => e = .returned (.int .i64 (max z 0 + 16)) ∧ Below w.heap.size w w' := by
  refine box_Size.calls z _ w ?_
  unfold box_Size.f
  congr 1
  unfold mx wrap64
  split <;> omega
/-! ### the parts of a law -/
section
variable {A0 A1 A2 A3 : Option Addr} {n0 n1 n2 n3 c0 c1 c2 c3 : Nat} {k o x b : List Int} {w : World} (h0 : Rd w A0 n0 c0 k) (h1 : Rd w A1 n1 c1 o) (h2 : Rd w A2 n2 c2 x) (h3 : Rd w A3 n3 c3 b)
include h0 h1 h2 h3
theorem few_c : Calls Try.prog 32 #[.agg #[.slice A0 n0 c0, .slice A1 n1 c1, .slice A2 n2 c2, .slice A3 n3 c3]] w fun e w' => e = .returned (.bool (decide (n2 ≤ 1000 ∧ n3 ≤ 2000))) ∧ Below w.heap.size w w' := by
  obtain ⟨rfl, d0, C0⟩ := h0
  obtain ⟨rfl, d1, C1⟩ := h1
  obtain ⟨rfl, d2, C2⟩ := h2
  obtain ⟨rfl, d3, C3⟩ := h3
  refine hypogeumlaw07_Parts_few.calls A0 c0 k A1 c1 o A2 c2 x A3 c3 b _ w C0 d0 C1 d1 C2 d2 C3 d3 ?_
  unfold hypogeumlaw07_Parts_few.f
  by_cases h : x.length ≤ 1000
  · rw [if_pos (by omega)]; congr 1; rw [decide_eq_decide]; omega
  · rw [if_neg (by omega)]; congr 1; simp [h]
theorem partsOwn_c (e0 : n0 ≤ 140737488351232) (e1 : n1 ≤ 140737488351232) (e2 : n2 ≤ 140737488351232) (e3 : n3 ≤ 140737488351232) :
    Calls Try.prog 34 #[.agg #[.slice A0 n0 c0, .slice A1 n1 c1, .slice A2 n2 c2, .slice A3 n3 c3]] w fun e w' => ∃ v0 v1 v2 v3, e = .returned (.agg #[v0, v1, v2, v3]) ∧ Ow w' w.heap.size v0 k ∧ Ow w' w.heap.size v1 o ∧ Ow w' w.heap.size v2 x ∧ Ow w' w.heap.size v3 b ∧ Below w.heap.size w w' := by
  obtain ⟨rfl, d0, C0⟩ := h0
  obtain ⟨rfl, d1, C1⟩ := h1
  obtain ⟨rfl, d2, C2⟩ := h2
  obtain ⟨rfl, d3, C3⟩ := h3
  refine (hypogeumlaw07_Parts_own.calls A0 c0 k A1 c1 o A2 c2 x A3 c3 b k o x b w C0 d0 C1 d1 C2 d2 C3 d3 ?_).mono ?_
  · unfold hypogeumlaw07_Parts_own.f
    rw [own_eq _ e0, own_eq _ e1, own_eq _ e2, own_eq _ e3]; rfl
  · rintro e w' ⟨v0, v1, v2, v3, rfl, r0, r1, r2, r3, hb⟩
    exact ⟨v0, v1, v2, v3, rfl, Kd.R_mono r0 (fun _ _ => trivial), Kd.R_mono r1 (fun _ _ => trivial), Kd.R_mono r2 (fun _ _ => trivial), Kd.R_mono r3 (fun _ _ => trivial), hb⟩
end
theorem same_c {A0 A1 A2 A3 B0 B1 B2 B3 : Option Addr} {n0 n1 n2 n3 m0 m1 m2 m3 c0 c1 c2 c3 f0 f1 f2 f3 : Nat} {k o x b : List Int} {w : World} (h0 : Rd w A0 n0 c0 k) (h1 : Rd w A1 n1 c1 o) (h2 : Rd w A2 n2 c2 x) (h3 : Rd w A3 n3 c3 b) (g0 : Rd w B0 m0 f0 k) (g1 : Rd w B1 m1 f1 o) (g2 : Rd w B2 m2 f2 x) (g3 : Rd w B3 m3 f3 b) :
    Calls Try.prog 37 #[.agg #[.slice A0 n0 c0, .slice A1 n1 c1, .slice A2 n2 c2, .slice A3 n3 c3], .agg #[.slice B0 m0 f0, .slice B1 m1 f1, .slice B2 m2 f2, .slice B3 m3 f3]] w fun e w' => e = .returned (.bool true) ∧ Below w.heap.size w w' := by
  obtain ⟨rfl, d0, C0⟩ := h0
  obtain ⟨rfl, d1, C1⟩ := h1
  obtain ⟨rfl, d2, C2⟩ := h2
  obtain ⟨rfl, d3, C3⟩ := h3
  obtain ⟨rfl, d4, C4⟩ := g0
  obtain ⟨rfl, d5, C5⟩ := g1
  obtain ⟨rfl, d6, C6⟩ := g2
  obtain ⟨rfl, d7, C7⟩ := g3
  refine hypogeumlaw07_Parts_same.calls A0 c0 k A1 c1 o A2 c2 x A3 c3 b B0 f0 k B1 f1 o B2 f2 x B3 f3 b true w C0 d0 C1 d1 C2 d2 C3 d3 C4 d4 C5 d5 C6 d6 C7 d7 ?_
  unfold hypogeumlaw07_Parts_same.f
  rw [if_pos rfl, if_pos rfl, if_pos rfl]; simp
end Go.Proofs.Ytkjmjgiklelpiaa.BxC
/- The tag of a box. -/
namespace Go.Proofs.Ytkjmjgiklelpiaa.BxT
open Go.RowKit Go.Proofs.YtkjmjgiklelpiaaW.PrintWords Go.Proofs.Ytkjmjgiklelpiaa.Num Go.Proofs.Ytkjmjgiklelpiaa.WordC Go.Proofs.Ytkjmjgiklelpiaa.Arr Go.Proofs.Ytkjmjgiklelpiaa.App Go.Proofs.Ytkjmjgiklelpiaa.CiC Go.Proofs.Ytkjmjgiklelpiaa.CiD Go.Proofs.Ytkjmjgiklelpiaa.CiB Go.Proofs.Ytkjmjgiklelpiaa.CiK Go.Proofs.Ytkjmjgiklelpiaa.CiL Go.Proofs.Ytkjmjgiklelpiaa.CiM Go.Proofs.Ytkjmjgiklelpiaa.MxA Go.Proofs.Ytkjmjgiklelpiaa.MxB Go.Proofs.Ytkjmjgiklelpiaa.MxC Go.Proofs.Ytkjmjgiklelpiaa.OtS Go.Proofs.Ytkjmjgiklelpiaa.OtU Go.Proofs.Ytkjmjgiklelpiaa.OtX Go.Proofs.Ytkjmjgiklelpiaa.OtH Go.Proofs.Ytkjmjgiklelpiaa.OtI Go.Proofs.Ytkjmjgiklelpiaa.OtJ Go.Proofs.Ytkjmjgiklelpiaa.OtP Go.Proofs.Ytkjmjgiklelpiaa.BxC
set_option linter.unusedVariables false
set_option linter.unusedSimpArgs false

/-- What is tagged, with what key, and the tag. -/
def allB (x m : List Int) : List Int := filled x 16 ++ filled m 16 ++ le8 x.length ++ le8 m.length
def keyB (k o : List Int) : List Int := (chaS k o 0).take 32
def tagB (k o x m : List Int) : List Int := tagS (endS (rK (keyB k o)) (allB x m)) (sK (keyB k o))
theorem keyB_length (k o : List Int) : (keyB k o).length = 32 := by
  have h := blkS_length (gS k o 0)
  have e : chaS k o 0 = blkS (gS k o 0) := rfl
  unfold keyB; rw [e]; simp; omega
theorem keyB_isB (k o : List Int) : IsB (keyB k o) := fun x hx => blkS_isB (gS k o 0) x (List.mem_of_mem_take hx)
theorem allB_isB {x m : List Int} (hx : IsB x) (hm : IsB m) : IsB (allB x m) := by
  intro y hy
  simp only [allB, List.mem_append] at hy
  rcases hy with ((h | h) | h) | h
  · exact filled_isB hx 16 y h
  · exact filled_isB hm 16 y h
  · exact le8_isB _ y h
  · exact le8_isB _ y h
theorem filled_len (x : List Int) : (filled x 16).length ≤ x.length + 15 := by
  have := pad_lt x.length 16 (by omega)
  simp [filled]; omega
theorem allB_len (x m : List Int) : (allB x m).length ≤ x.length + m.length + 46 := by
  have h1 := filled_len x
  have h2 := filled_len m
  simp [allB, le8_length]; omega
theorem blk_rd64 {w : World} {g : Nat} {S : List Int} (h : Blk w g 25 (nums .u8 S)) (hl : S.length = 64) : Rd w (some ⟨g, 0, none⟩) 64 64 S := by
  have := rd_of_blk h 0 S 64 (by omega) (by omega) (fun j hj => by rw [Nat.zero_add]; exact nums_get .u8 S j hj)
  rwa [hl] at this
theorem slice_arr32 (G : Nat) (W : World) : (Instr.sliceAt 25 (.pointer (some ⟨G, 0, none⟩)) none (some (.int .i64 32)) none).run Try.prog W = .ok (.slice (some ⟨G, 0, none⟩) 32 64) W := by
  obtain ⟨i, hi, hz⟩ := infoX
  simp [Instr.sliceAt, run_underlying Try.underlying25, Instr.sureAddr, Instr.sliceBounds, Instr.sliceBound, asAddr, sizeOf, typeInfo, hi, hz, Addr.add, go_sem]
theorem index_two (u v : Value) (W : World) : (Instr.index 94 (.agg #[u, v]) (.int .i64 0)).run Try.prog W = .ok u W ∧ (Instr.index 94 (.agg #[u, v]) (.int .i64 1)).run Try.prog W = .ok v W := ⟨by kernel_rfl, by kernel_rfl⟩
def bT (x m : List Int) (t : Nat) : List Int := if t = 0 then [] else if t = 1 then filled x 16 else filled x 16 ++ filled m 16
set_option maxHeartbeats 8000000 in
set_option maxRecDepth 100000 in
theorem tag60_c {A B C D : Option Addr} {c d e f n p : Nat} {k o x m : List Int} {w : World} (hk : Rd w A 32 c k) (ho : Rd w B 12 d o) (hx : Rd w C n e x) (hm : Rd w D p f m) (bk : IsB k) (bo : IsB o) (bx : IsB x) (bm : IsB m) (hn : n ≤ 1000000) (hp : p ≤ 1000000) :
    Calls Try.prog 60 #[.slice A 32 c, .slice B 12 d, .slice C n e, .slice D p f] w fun y w' => ∃ v, y = .returned v ∧ Ow w' w.heap.size v (tagB k o x m) ∧ Below w.heap.size w w' := by
  have HK := Aside0.mk hk
  have HO := Aside0.mk ho
  have HX := Aside0.mk hx
  have HM := Aside0.mk hm
  have HLX := Aside0.mk hx.len
  have HLM := Aside0.mk hm.len
  have hsl := slice_arr32
  have hix0 : ∀ W : World, (Instr.index 94 (.agg #[.slice C n e, .slice D p f]) (.int .i64 0)).run Try.prog W = .ok (.slice C n e) W := fun W => (index_two _ _ W).1
  have hix1 : ∀ W : World, (Instr.index 94 (.agg #[.slice C n e, .slice D p f]) (.int .i64 1)).run Try.prog W = .ok (.slice D p f) W := fun W => (index_two _ _ W).2
  clear hk ho hx hm
  go_enter Try.func60, Try.ntmps60
  go_wp2_with fail
  refine (Block_yes HK.out HO.out bk bo (n := 0) (by omega) (by omega)).mono ?_
  rintro y w1 ⟨rfl, hb1⟩
  have HB1 := Aside0.mk hb1
  obtain ⟨S, HS⟩ : ∃ S, Aside0 (chaS k o 0 = S) := ⟨_, ⟨rfl⟩⟩
  have HSL : Aside0 (S.length = 64) := ⟨by rw [← HS.out]; exact blkS_length _⟩
  have HSB : Aside0 (IsB S) := ⟨by rw [← HS.out]; exact blkS_isB _⟩
  rw [HS.out]
  have HZ : Aside0 (Blk (w1.alloc (.cells (nums .u8 (List.replicate 64 0)).toArray 25)) w1.heap.size 25 (nums .u8 (List.replicate 64 0))) := ⟨heap_alloc_new _ _⟩
  have HBA := Aside0.mk (HB1.out.alloc HB1.out.size (.cells (nums .u8 (List.replicate 64 0)).toArray 25))
  clear hb1
  go_wp2_with (first
    | (refine store_arr rfl 25 (.tmp 9) (.tmp 21) rfl w1.heap.size .u8 S rfl rfl 25 64 _ HZ.out size25 HSL.out (by rw [nums_length]; rfl) ?_; intro w4 hV hg4
       have HV := Aside0.mk hV
       have HB4 := Aside0.mk (HBA.out.grown hg4 HBA.out.size (fun k hk => by cases hk; exact HB1.out.size))
       clear hV hg4))
  have HKB : Aside0 (Rd w4 (some ⟨w1.heap.size, 0, none⟩) 32 64 (keyB k o)) := ⟨by unfold keyB; rw [HS.out]; exact rd_take (blk_rd64 HV.out HSL.out) (by omega)⟩
  refine (New_St HKB.out (keyB_isB k o)).mono ?_
  rintro y w5 ⟨g, rfl, hS5, hb5⟩
  have HB5 := Aside0.mk (below_next HB4.out hb5)
  have HS5 : Aside0 (St w5 w.heap.size g (.slice none 0 0) (rK (keyB k o)) (sK (keyB k o)) (bT x m 0)) := ⟨hS5.lower HB4.out.size⟩
  obtain ⟨rr, HRR⟩ : ∃ z, Aside0 (rK (keyB k o) = z) := ⟨_, ⟨rfl⟩⟩
  obtain ⟨ss, HSS⟩ : ∃ z, Aside0 (sK (keyB k o) = z) := ⟨_, ⟨rfl⟩⟩
  rw [HRR.out, HSS.out] at HS5
  clear hS5 hb5
  go_wp2_with fail
  go_loopw [31] (fun i wr => ∃ t : Nat, t ≤ 2 ∧ i = .int .i64 t ∧ Aside0 (∃ v, St wr w.heap.size g v rr ss (bT x m t)) ∧ Below w.heap.size w wr) (fun i _ => 2 - (intOf i).toNat)
  case atStart => exact ⟨0, by omega, rfl, ⟨_, HS5.out⟩, HB5.out⟩
  case round =>
    clear HS5
    obtain ⟨t, ht, rfl, hSt, hB⟩ := hrel
    obtain ⟨v, hSv⟩ := hSt.out
    have HSv := Aside0.mk hSv
    clear hSt hSv
    by_cases h2 : t = 2
    · subst h2
      go_wp2_with fail
      refine (length_c n (by omega)).mono ?_
      rintro y w6 ⟨v6, rfl, ho6, hb6⟩
      have HB6 := Aside0.mk (below_next hB hb6)
      have HS6 := Aside0.mk (HSv.out.below hb6)
      obtain ⟨A6, c6, rfl, r6⟩ := rd_of_own ho6
      rw [le8_length] at r6 ⊢
      have R6 := Aside0.mk r6
      clear ho6 hb6 r6 hB HSv
      go_wp2_with fail
      refine (Add_c HS6.out R6.out (le8_isB n) HB6.out.size (by have h1 := filled_len x; have h2 := filled_len m; have := HLX.out; have := HLM.out; simp [bT]; omega)).mono ?_
      rintro y w7 ⟨rfl, v7, hS7, hF7, _⟩
      have HB7 := Aside0.mk (hF7.below HB6.out HB6.out.size HS6.out.ge (fun k hk => HS6.out.row_ge k hk))
      have HS7 := Aside0.mk hS7
      clear hS7 hF7
      go_wp2_with fail
      refine (length_c p (by omega)).mono ?_
      rintro y w8 ⟨v8, rfl, ho8, hb8⟩
      have HB8 := Aside0.mk (below_next HB7.out hb8)
      have HS8 := Aside0.mk (HS7.out.below hb8)
      obtain ⟨A8, c8, rfl, r8⟩ := rd_of_own ho8
      rw [le8_length] at r8 ⊢
      have R8 := Aside0.mk r8
      clear ho8 hb8 r8
      go_wp2_with fail
      refine (Add_c HS8.out R8.out (le8_isB p) HB8.out.size (by have h1 := filled_len x; have h2 := filled_len m; have := HLX.out; have := HLM.out; simp [bT, le8_length]; omega)).mono ?_
      rintro y w9 ⟨rfl, v9, hS9, hF9, _⟩
      have HB9 := Aside0.mk (hF9.below HB8.out HB8.out.size HS8.out.ge (fun k hk => HS8.out.row_ge k hk))
      have HS9 := Aside0.mk hS9
      clear hS9 hF9
      go_wp2_with fail
      refine (Tag_c HS9.out).mono ?_
      rintro y w10 ⟨v10, rfl, ho10, hb10⟩
      have HO10 : Aside0 (Ow w10 w.heap.size v10 (tagB k o x m)) := ⟨by
        have h1 := Kd.R_lower ho10 HB9.out.size
        have e : tagS (endS rr (bT x m 2 ++ le8 n ++ le8 p)) ss = tagB k o x m := by
          unfold tagB allB bT
          rw [HRR.out, HSS.out, HLX.out, HLM.out, if_neg (by decide), if_neg (by decide)]
        rw [e] at h1; exact h1⟩
      have HB10 := Aside0.mk (below_next HB9.out hb10)
      clear ho10 hb10
      go_wp2_with fail
      go_ret
      exact ⟨_, rfl, HO10.out, HB10.out⟩
    · have hadd : ∀ (Q : Option Addr) (q s : Nat) (y : List Int) (v' : Value) (wx : World), True := fun _ _ _ _ _ _ => trivial
      obtain rfl | rfl : t = 0 ∨ t = 1 := by omega
      · go_wp2_with fail
        refine (Fill_yes (HX.out.below hB) (by omega) 16 rfl (by omega) (by omega)).mono ?_
        rintro y w6 ⟨v6, rfl, ho6, hb6⟩
        have HB6 := Aside0.mk (below_next hB hb6)
        have HS6 := Aside0.mk (HSv.out.below hb6)
        obtain ⟨A6, c6, rfl, r6⟩ := rd_of_own ho6
        have R6 := Aside0.mk r6
        clear ho6 hb6 r6 hB HSv
        go_wp2_with fail
        refine (Add_c HS6.out R6.out (filled_isB bx 16) HB6.out.size (by have h1 := filled_len x; have h2 := filled_len m; have := HLX.out; have := HLM.out; simp [bT]; omega)).mono ?_
        rintro y w7 ⟨rfl, v7, hS7, hF7, _⟩
        have HB7 := Aside0.mk (hF7.below HB6.out HB6.out.size HS6.out.ge (fun k hk => HS6.out.row_ge k hk))
        have HS7 : Aside0 (∃ v, St w7 w.heap.size g v rr ss (bT x m (0 + 1))) := ⟨⟨v7, by simpa [bT] using hS7⟩⟩
        clear hS7 hF7
        go_wp2_with fail
        go_roundw
        case rel => exact ⟨0 + 1, by omega, by go_num, HS7, HB7.out⟩
        case measure => simp [intOf]
      · go_wp2_with fail
        refine (Fill_yes (HM.out.below hB) (by omega) 16 rfl (by omega) (by omega)).mono ?_
        rintro y w6 ⟨v6, rfl, ho6, hb6⟩
        have HB6 := Aside0.mk (below_next hB hb6)
        have HS6 := Aside0.mk (HSv.out.below hb6)
        obtain ⟨A6, c6, rfl, r6⟩ := rd_of_own ho6
        have R6 := Aside0.mk r6
        clear ho6 hb6 r6 hB HSv
        go_wp2_with fail
        refine (Add_c HS6.out R6.out (filled_isB bm 16) HB6.out.size (by have h1 := filled_len x; have h2 := filled_len m; have := HLX.out; have := HLM.out; simp [bT]; omega)).mono ?_
        rintro y w7 ⟨rfl, v7, hS7, hF7, _⟩
        have HB7 := Aside0.mk (hF7.below HB6.out HB6.out.size HS6.out.ge (fun k hk => HS6.out.row_ge k hk))
        have HS7 : Aside0 (∃ v, St w7 w.heap.size g v rr ss (bT x m (1 + 1))) := ⟨⟨v7, by simpa [bT] using hS7⟩⟩
        clear hS7 hF7
        go_wp2_with fail
        go_roundw
        case rel => exact ⟨1 + 1, by omega, by go_num, HS7, HB7.out⟩
        case measure => simp [intOf]
end Go.Proofs.Ytkjmjgiklelpiaa.BxT
/- A box, sealed and opened. -/
namespace Go.Proofs.Ytkjmjgiklelpiaa.BxS
open Go.RowKit Go.Proofs.YtkjmjgiklelpiaaW.PrintWords Go.Proofs.Ytkjmjgiklelpiaa.Num Go.Proofs.Ytkjmjgiklelpiaa.WordC Go.Proofs.Ytkjmjgiklelpiaa.Arr Go.Proofs.Ytkjmjgiklelpiaa.App Go.Proofs.Ytkjmjgiklelpiaa.CiC Go.Proofs.Ytkjmjgiklelpiaa.CiD Go.Proofs.Ytkjmjgiklelpiaa.CiB Go.Proofs.Ytkjmjgiklelpiaa.CiK Go.Proofs.Ytkjmjgiklelpiaa.CiL Go.Proofs.Ytkjmjgiklelpiaa.CiM Go.Proofs.Ytkjmjgiklelpiaa.MxA Go.Proofs.Ytkjmjgiklelpiaa.MxB Go.Proofs.Ytkjmjgiklelpiaa.MxC Go.Proofs.Ytkjmjgiklelpiaa.OtS Go.Proofs.Ytkjmjgiklelpiaa.OtU Go.Proofs.Ytkjmjgiklelpiaa.OtX Go.Proofs.Ytkjmjgiklelpiaa.OtH Go.Proofs.Ytkjmjgiklelpiaa.OtI Go.Proofs.Ytkjmjgiklelpiaa.OtJ Go.Proofs.Ytkjmjgiklelpiaa.OtP Go.Proofs.Ytkjmjgiklelpiaa.BxC Go.Proofs.Ytkjmjgiklelpiaa.BxT
set_option linter.unusedVariables false
set_option linter.unusedSimpArgs false

theorem copy_blk {W : World} {g o n cap : Nat} {l ys : List Int} {A : Option Addr} {m c : Nat} (hg : Blk W g 5 (nums .u8 l)) (hr : Rd W A m c ys) (hle : m ≤ n) (hn : o + n ≤ l.length) :
    ∃ w1, (∀ ty, (Builtin.copy_ #[22, 22] ty #[.slice (some ⟨g, o, none⟩) n cap, .slice A m c]).run Try.prog W = .ok (.int .i64 (m : Int)) w1) ∧ Blk w1 g 5 (nums .u8 (l.take o ++ ys ++ l.drop (o + m))) ∧ W.grownBy w1 (some g) := by
  have hyl : ys.length = m := hr.len
  rcases Nat.eq_zero_or_pos m with h0 | hp
  · subst h0
    obtain rfl : ys = [] := List.eq_nil_of_length_eq_zero hyl
    refine ⟨W, fun ty => run_copy_none W 22 22 ty 5 _ _ _ _ _ _ Try.underlying22 BxC.sizeU8 (Nat.zero_min _), ?_, World.grownBy.refl W _⟩
    rw [Nat.add_zero, List.append_nil, List.take_append_drop]
    exact hg
  · obtain ⟨ad, rfl, hcell⟩ := rd_cells hr hp
    have hl : (nums IntKind.u8 ys).length = m := by rw [nums_length]; exact hyl
    have hgs : W.heap[g]? = some (.cells (nums .u8 l).toArray 5 (0, 0)) := hg
    have hr2 := fun ty => run_copy_cells (P := Try.prog) W 22 22 ty 5 g o n cap ad m c (nums .u8 ys) Try.underlying22 BxC.sizeU8 (by rw [hl]; exact (Nat.min_eq_left hle).symm)
      (fun j u hu => hcell j u hu) (fun j hj => by rw [cell_of_row W g _ _ 5 (0, 0) hgs]; rw [hl] at hj; simp [nums_length]; omega) (fun j _ => blk_frozen hgs _) (fun v hv => nums_one .u8 ys v hv)
    obtain ⟨cur', h3, h4, h5⟩ := setCells_row (nums .u8 ys) o W _ hgs (by rw [hl]; simp [nums_length]; omega)
    obtain ⟨s1, s2, s3, s4⟩ := setCells_same g (nums .u8 ys) o W
    refine ⟨_, fun ty => by rw [hr2 ty, hl]; rfl, ?_, ⟨s1, s2, s3, by rw [s4]; exact Nat.le_refl _, fun k _ hk => setCells_far _ _ k (fun he => hk (by rw [he]))⟩⟩
    have e : cur' = (nums .u8 (l.take o ++ ys ++ l.drop (o + m))).toArray := by
      apply Array.ext'
      rw [h5, hl]
      simp [nums, List.map_take, List.map_drop]
    rw [e] at h3
    exact h3
theorem step_copy {P : Program} {ops : Array Oper} {o : Oper} {a : Act} {Kc : Act → World → Prop} {Q : Exit → Act → World → Prop} {W w1 : World} (hw : Region.wanted o (yielded ops a.tmps) = true) (s x : Operand)
    (ho : o.op = .call { callee := .builtin .copy, args := #[s, x], argTypes := #[22, 22] }) {v u r : Value} (hs : a.eval s = v) (hx : a.eval x = u)
    (hr : ∀ ty, (Builtin.copy_ #[22, 22] ty #[v, u]).run P W = .ok r w1) (h : Kc (a.put o.dst r) w1) :
    if Region.wanted o (yielded ops a.tmps) = true then Oper.wp P o a W Kc Q else Kc (a.put o.dst undef) W := by
  rw [if_pos hw]
  unfold Oper.wp execOp
  simp only [ho, resolve, invoke, builtin, Sem.run_bind, Sem.run_pure, Result.andThen_ok, List.map_toArray, List.map_cons, List.map_nil, hs, hx, hr]
  exact h
theorem plain_copy {P : Program} {ops : Array Oper} {o : Oper} {rest : List Oper} {a : Act} {Q : Exit → Act → World → Prop} {W w1 : World} (hgd : o.guard = none) (s x : Operand)
    (ho : o.op = .call { callee := .builtin .copy, args := #[s, x], argTypes := #[22, 22] }) {v u r : Value} (hs : a.eval s = v) (hx : a.eval x = u)
    (hr : ∀ ty, (Builtin.copy_ #[22, 22] ty #[v, u]).run P W = .ok r w1) (h : wpList P ops Q rest (a.put o.dst r) w1) : wpList P ops Q (o :: rest) a W := by
  refine wpList_plain hgd fun K hK => ?_
  unfold Oper.wp execOp
  simp only [ho, resolve, invoke, builtin, Sem.run_bind, Sem.run_pure, Result.andThen_ok, List.map_toArray, List.map_cons, List.map_nil, hs, hx, hr]
  exact hK _ _ h
theorem ow_of_blk {w : World} {g base : Nat} {l : List Int} (hg : Blk w g 5 (nums .u8 l)) (hb : base ≤ g) (hl : l.length ≤ 140737488355328) : Ow w base (.slice (some ⟨g, 0, none⟩) l.length l.length) l := by
  have hgs : w.heap[g]? = some (.cells (nums .u8 l).toArray 5 (0, 0)) := hg
  refine Kd.R_of_own ⟨by simp [encs], .inr ⟨g, l.length, _, rfl, hb, hgs, Nat.le_refl _, by unfold maxLen; omega, by simp [nums_length], ?_⟩⟩ (fun _ _ => trivial)
  rw [Nat.mul_one, List.take_of_length_le (by simp [nums_length])]
  simp [nums, encs]
theorem slice_tail (G p : Nat) (hp : p ≤ 1000000) (W : World) : (Instr.slice 22 (.slice (some ⟨G, 0, none⟩) (p + 16) (p + 16)) (some (.int .i64 (p : Int))) none none).run Try.prog W = .ok (.slice (some ⟨G, p, none⟩) 16 16) W := by
  obtain ⟨i, hi0, hsz⟩ := infoX
  have hcut := cut_from (P := Try.prog) 22 5 .i64 Try.underlying22 hi0 1 hsz (some ⟨G, 0, none⟩) (p + 16) (p + 16) (p : Int) (by omega) (by omega) W
  simp only [Int.toNat_natCast] at hcut
  rw [if_neg (by omega), show p + 16 - p = 16 by omega] at hcut
  by_cases h : p = 0
  · subst h; simpa [Addr.add] using hcut
  · simpa [Addr.add, h] using hcut
/-- What is sealed of what is mixed. -/
def mixL (k o b : List Int) : List Int := mixT (ks (g0S k o) 1) b b.length
theorem mixL_length (k o b : List Int) : (mixL k o b).length = b.length := mixT_length _ _ _
theorem mixL_isB {k o b : List Int} (hb : IsB b) : IsB (mixL k o b) := mixT_isB hb (ks_isB _ _) _
theorem mixL_twice {k o b : List Int} (hb : IsB b) : mixL k o (mixL k o b) = b := by
  unfold mixL
  rw [mixT_length]
  exact mixT_twice hb (ks_isB _ _)
def sealL (k o x b : List Int) : List Int := mixL k o b ++ tagB k o x (mixL k o b)
theorem tagB_length {k o x m : List Int} (bx : IsB x) (bm : IsB m) : (tagB k o x m).length = 16 := (tag_ok (keyB_length k o) (keyB_isB k o) (allB_isB bx bm)).len
theorem tagB_isB {k o x m : List Int} (bx : IsB x) (bm : IsB m) : IsB (tagB k o x m) := (tag_ok (keyB_length k o) (keyB_isB k o) (allB_isB bx bm)).isB
theorem sealL_length {k o x b : List Int} (bx : IsB x) (bb : IsB b) : (sealL k o x b).length = b.length + 16 := by
  unfold sealL; rw [List.length_append, mixL_length, tagB_length bx (mixL_isB bb)]
theorem sealL_isB {k o x b : List Int} (bx : IsB x) (bb : IsB b) : IsB (sealL k o x b) := by
  intro y hy
  rcases List.mem_append.1 hy with h | h
  · exact mixL_isB bb y h
  · exact tagB_isB bx (mixL_isB bb) y h
set_option maxHeartbeats 8000000 in
set_option maxRecDepth 100000 in
theorem Seal_yes {A B C D : Option Addr} {c d e f n p : Nat} {k o x b : List Int} {w : World} (hk : Rd w A 32 c k) (ho : Rd w B 12 d o) (hx : Rd w C n e x) (hb : Rd w D p f b) (bk : IsB k) (bo : IsB o) (bx : IsB x) (bb : IsB b) (hn : n ≤ 100000) (hp : p ≤ 100000) :
    Calls Try.prog 35 #[.slice A 32 c, .slice B 12 d, .slice C n e, .slice D p f] w fun y w' => ∃ v, y = .returned (.tuple #[v, .int .i64 0]) ∧ Ow w' w.heap.size v (sealL k o x b) ∧ Below w.heap.size w w' := by
  have HK := Aside0.mk hk
  have HO := Aside0.mk ho
  have HX := Aside0.mk hx
  have HB := Aside0.mk hb
  have HLX := Aside0.mk hx.len
  have HLB := Aside0.mk hb.len
  have hmk : ∀ W : World, (Instr.makeSlice 22 (.int .i64 ((p : Int) + 16)) (.int .i64 ((p : Int) + 16))).run Try.prog W = .ok (.slice (some ⟨W.heap.size, 0, none⟩) (p + 16) (p + 16)) (W.alloc (.cells (nums .u8 (List.replicate (p + 16) 0)).toArray 5)) := fun W => by
    have h := print_make (P := Try.prog) 22 5 .u8 1 Try.underlying22 infoU8 (by omega) (p + 16) (by omega) W
    have e : madeCells #[.int .u8 0] (p + 16) = (nums .u8 (List.replicate (p + 16) 0)).toArray := by
      apply Array.ext'
      simp only [madeCells, nums]
      rw [List.map_replicate]
      apply List.eq_replicate_iff.2
      simp [Nat.mod_one]
    rw [e] at h
    rw [show (p : Int) + 16 = ((p + 16 : Nat) : Int) by omega]; exact h
  clear hk ho hx hb
  go_enter Try.func35, Try.ntmps35
  go_wp2_with fail
  refine (right_c HK.out HO.out).mono ?_
  rintro y w1 ⟨rfl, ⟨n1, rfl⟩⟩
  have HB1 := Aside0.mk (below_drewN n1 w)
  rw [show rightC 32 12 = true from rfl]
  go_wp2_with fail
  refine (Mix_c (m := 1) (HK.out.below HB1.out) (HO.out.below HB1.out) (HB.out.below HB1.out) bk bo bb (by omega) (by omega) (by omega) (by omega)).mono ?_
  rintro y w2 ⟨v2, rfl, ho2, hb2⟩
  have HB2 := Aside0.mk (below_next HB1.out hb2)
  obtain ⟨M, HMM⟩ : ∃ z, Aside0 (mixL k o b = z) := ⟨_, ⟨rfl⟩⟩
  have HML : Aside0 (M.length = p) := ⟨by rw [← HMM.out, mixL_length]; exact HLB.out⟩
  have HMB : Aside0 (IsB M) := ⟨by rw [← HMM.out]; exact mixL_isB bb⟩
  have ho2' : Ow w2 (w.drewN n1).heap.size v2 M := by
    rw [← HMM.out]; unfold mixL; rw [HLB.out]; exact ho2
  obtain ⟨A2, c2, rfl, r2⟩ := rd_of_own ho2'
  rw [HML.out] at r2 ⊢
  have R2 := Aside0.mk r2
  clear ho2 ho2' r2 hb2
  go_wp2_with fail
  refine (Size_c (p : Int) (by omega) (by omega)).mono ?_
  rintro y w3 ⟨rfl, hb3⟩
  rw [show max (p : Int) 0 + 16 = (p : Int) + 16 by omega]
  have HB3 := Aside0.mk (below_next HB2.out hb3)
  have R3 := Aside0.mk (R2.out.below hb3)
  clear hb3
  have HZ : Aside0 (Blk (w3.alloc (.cells (nums .u8 (List.replicate (p + 16) 0)).toArray 5)) w3.heap.size 5 (nums .u8 (List.replicate (p + 16) 0))) := ⟨heap_alloc_new _ _⟩
  have HBA := Aside0.mk (HB3.out.alloc HB3.out.size (.cells (nums .u8 (List.replicate (p + 16) 0)).toArray 5))
  have R4 := Aside0.mk (R3.out.alloc (.cells (nums .u8 (List.replicate (p + 16) 0)).toArray 5))
  obtain ⟨w5, hcp, hZ5, hg5⟩ := copy_blk (cap := p + 16) (o := 0) (n := p + 16) HZ.out R4.out (by omega) (by simp)
  have HZ5 : Aside0 (Blk w5 w3.heap.size 5 (nums .u8 (M ++ List.replicate 16 0))) := ⟨by
    have e : (List.replicate (p + 16) (0 : Int)).take 0 ++ M ++ (List.replicate (p + 16) (0 : Int)).drop (0 + p) = M ++ List.replicate 16 0 := by
      rw [List.take_zero, List.nil_append, List.drop_replicate, show p + 16 - (0 + p) = 16 by omega]
    rw [e] at hZ5; exact hZ5⟩
  have HB5 := Aside0.mk (HBA.out.grown hg5 HBA.out.size (fun k hk => by cases hk; exact HB3.out.size))
  have HBZ := Aside0.mk ((Below.refl w3.heap.size (w3.alloc (.cells (nums .u8 (List.replicate (p + 16) 0)).toArray 5))).grown hg5 (by simp) (fun k hk => by cases hk; exact Nat.le_refl _))
  have HB35 : Aside0 (Below w3.heap.size w3 w5) := ⟨((Below.refl _ w3).alloc (Nat.le_refl _) _).trans HBZ.out⟩
  have R5 := Aside0.mk (R3.out.below HB35.out)
  clear hZ5 hg5
  go_wp2_with (first
    | (refine plain_copy rfl (.tmp 31) (.tmp 32) rfl rfl rfl hcp ?_))
  clear hcp
  have hsl := slice_tail w3.heap.size p (by omega)
  have HBd : Aside0 (Below w5.heap.size w5 w5.drew) := ⟨(Below.refl _ w5).drew⟩
  have HB6 := Aside0.mk (below_next HB5.out HBd.out)
  have HZ6 := Aside0.mk (Blk.below HZ5.out HBd.out)
  have R6 := Aside0.mk (R5.out.below HBd.out)
  refine wp_region_any (by kernel_rfl) ?_
  (try (change wpAny _ _ _ _ _ _ _ _ (World.drew _)))
  refine wpAny_take (i := 0) (v := ?_) (List.getElem?_toArray.trans rfl) (by kernel_rfl) (by kernel_rfl) (by kernel_rfl) (fun _ _ _ h => h) (Or.inl ⟨by rfl, ?_⟩) ?_
  rotate_left
  · (intro w; go_simp; try with_reducible rfl)
  (try simp only [Act.put, List.setIfInBounds_toArray, List.set_cons_zero, List.set_cons_succ])
  refine wpAny_take (i := 1) (v := ?_) (List.getElem?_toArray.trans rfl) (by kernel_rfl) (by kernel_rfl) (by kernel_rfl) (fun _ _ _ h => h) (Or.inl ⟨by rfl, ?_⟩) ?_
  rotate_left
  · (intro w; go_simp; try with_reducible rfl)
  (try simp only [Act.put, List.setIfInBounds_toArray, List.set_cons_zero, List.set_cons_succ])
  refine wpAny_take (i := 2) (v := ?_) (List.getElem?_toArray.trans rfl) (by kernel_rfl) (by kernel_rfl) (by kernel_rfl) (fun _ _ _ h => h) (Or.inl ⟨by rfl, ?_⟩) ?_
  rotate_left
  · (intro w; go_simp; try with_reducible rfl)
  (try simp only [Act.put, List.setIfInBounds_toArray, List.set_cons_zero, List.set_cons_succ])
  refine wpAny_take (i := 3) (v := ?_) (List.getElem?_toArray.trans rfl) (by kernel_rfl) (by kernel_rfl) (by kernel_rfl) (fun _ _ _ h => h) (Or.inl ⟨by rfl, ?_⟩) ?_
  rotate_left
  · (intro w; go_simp; try with_reducible rfl)
  (try simp only [Act.put, List.setIfInBounds_toArray, List.set_cons_zero, List.set_cons_succ])
  refine wpAny_take (i := 4) (v := ?_) (List.getElem?_toArray.trans rfl) (by kernel_rfl) (by kernel_rfl) (by kernel_rfl) (fun _ _ _ h => h) (Or.inl ⟨by rfl, ?_⟩) ?_
  rotate_left
  · (intro w; go_simp; try with_reducible rfl)
  (try simp only [Act.put, List.setIfInBounds_toArray, List.set_cons_zero, List.set_cons_succ])
  refine wpAny_take (i := 5) (v := ?_) (List.getElem?_toArray.trans rfl) (by kernel_rfl) (by kernel_rfl) (by kernel_rfl) (fun _ _ _ h => h) (Or.inl ⟨by rfl, ?_⟩) ?_
  rotate_left
  · (intro w; go_simp; try with_reducible rfl)
  (try simp only [Act.put, List.setIfInBounds_toArray, List.set_cons_zero, List.set_cons_succ])
  refine wpAny_take (i := 6) (v := ?_) (List.getElem?_toArray.trans rfl) (by kernel_rfl) (by kernel_rfl) (by kernel_rfl) (fun _ _ _ h => h) (Or.inl ⟨by rfl, ?_⟩) ?_
  rotate_left
  · (intro w; go_simp; try with_reducible rfl)
  (try simp only [Act.put, List.setIfInBounds_toArray, List.set_cons_zero, List.set_cons_succ])
  refine wpAny_take (i := 7) (v := ?_) (List.getElem?_toArray.trans rfl) (by kernel_rfl) (by kernel_rfl) (by kernel_rfl) (fun _ _ _ h => h) (Or.inl ⟨by rfl, ?_⟩) ?_
  rotate_left
  · (intro w; go_simp; try with_reducible rfl)
  (try simp only [Act.put, List.setIfInBounds_toArray, List.set_cons_zero, List.set_cons_succ])
  refine wpAny_ready (rs := [8]) (by kernel_rfl) (by simp) (AllReady.cons (List.getElem?_toArray.trans rfl) (fun K hK => ?_) AllReady.nil)
  go_simp
  go_at_call 60
  refine (tag60_c (HK.out.below HB6.out) (HO.out.below HB6.out) (HX.out.below HB6.out) R6.out bk bo bx HMB.out (by omega) (by omega)).mono ?_
  rintro y w7 ⟨v7, rfl, ho7, hb7⟩
  obtain ⟨A7, c7, rfl, r7⟩ := rd_of_own ho7
  rw [tagB_length bx HMB.out] at r7 ⊢
  have R7 := Aside0.mk r7
  have HB7 := Aside0.mk (below_next HB6.out hb7)
  have HZ7 := Aside0.mk (Blk.below HZ6.out hb7)
  clear ho7 r7 hb7
  go_wp2_with fail
  (try simp only [Act.put, List.setIfInBounds_toArray, List.set_cons_zero, List.set_cons_succ])
  obtain ⟨w8, hcp, hZ8, hg8⟩ := copy_blk (cap := 16) (o := p) (n := 16) HZ7.out R7.out (by omega) (by have := HML.out; simp; omega)
  have HZ8 : Aside0 (Blk w8 w3.heap.size 5 (nums .u8 (sealL k o x b))) := ⟨by
    have e : (M ++ List.replicate 16 (0 : Int)).take p ++ tagB k o x M ++ (M ++ List.replicate 16 (0 : Int)).drop (p + 16) = sealL k o x b := by
      rw [List.take_append_of_le_length (by rw [HML.out]; exact Nat.le_refl _), List.take_of_length_le (by rw [HML.out]; exact Nat.le_refl _), List.drop_of_length_le (by have := HML.out; simp; omega), List.append_nil]
      unfold sealL; rw [HMM.out]
    rw [e] at hZ8; exact hZ8⟩
  have HB8 := Aside0.mk (HB7.out.grown hg8 HB7.out.size (fun k hk => by cases hk; exact HB3.out.size))
  clear hZ8 hg8
  refine wpAny_ready (rs := [9]) (by kernel_rfl) (by simp) (AllReady.cons (List.getElem?_toArray.trans rfl) (fun K hK => ?_) AllReady.nil)
  refine step_copy (by rfl) (.tmp 37) (.tmp 42) rfl rfl rfl hcp ?_
  refine hK _ _ ?_
  clear hK K
  (try simp only [Act.put, List.setIfInBounds_toArray, List.set_cons_zero, List.set_cons_succ])
  refine wpAny_done (by kernel_rfl) ?_ _
  go_wp2_with fail
  go_ret2
  have HFIN : Ow w8 w.heap.size (.slice (some ⟨w3.heap.size, 0, none⟩) (sealL k o x b).length (sealL k o x b).length) (sealL k o x b) := ow_of_blk HZ8.out HB3.out.size (by rw [sealL_length bx bb]; have := HLB.out; omega)
  rw [sealL_length bx bb, HLB.out] at HFIN
  exact ⟨_, rfl, HFIN, HB8.out⟩
end Go.Proofs.Ytkjmjgiklelpiaa.BxS
/- A box opened. -/
namespace Go.Proofs.Ytkjmjgiklelpiaa.BxO
open Go.RowKit Go.Proofs.YtkjmjgiklelpiaaW.PrintWords Go.Proofs.Ytkjmjgiklelpiaa.Num Go.Proofs.Ytkjmjgiklelpiaa.WordC Go.Proofs.Ytkjmjgiklelpiaa.Arr Go.Proofs.Ytkjmjgiklelpiaa.App Go.Proofs.Ytkjmjgiklelpiaa.CiC Go.Proofs.Ytkjmjgiklelpiaa.CiD Go.Proofs.Ytkjmjgiklelpiaa.CiB Go.Proofs.Ytkjmjgiklelpiaa.CiK Go.Proofs.Ytkjmjgiklelpiaa.CiL Go.Proofs.Ytkjmjgiklelpiaa.CiM Go.Proofs.Ytkjmjgiklelpiaa.MxA Go.Proofs.Ytkjmjgiklelpiaa.MxB Go.Proofs.Ytkjmjgiklelpiaa.MxC Go.Proofs.Ytkjmjgiklelpiaa.OtS Go.Proofs.Ytkjmjgiklelpiaa.OtU Go.Proofs.Ytkjmjgiklelpiaa.OtX Go.Proofs.Ytkjmjgiklelpiaa.OtH Go.Proofs.Ytkjmjgiklelpiaa.OtI Go.Proofs.Ytkjmjgiklelpiaa.OtJ Go.Proofs.Ytkjmjgiklelpiaa.OtP Go.Proofs.Ytkjmjgiklelpiaa.BxC Go.Proofs.Ytkjmjgiklelpiaa.BxT Go.Proofs.Ytkjmjgiklelpiaa.BxS
set_option linter.unusedVariables false
set_option linter.unusedSimpArgs false

theorem Seal_no {A B C D : Option Addr} {q r c d e f n p : Nat} {k o : List Int} {w : World} (hk : Rd w A q c k) (ho : Rd w B r d o) (h : rightC q r = false) :
    Calls Try.prog 35 #[.slice A q c, .slice B r d, .slice C n e, .slice D p f] w fun y w' => y = .returned (.tuple #[.slice none 0 0, .int .i64 1]) ∧ Below w.heap.size w w' := by
  have HK := Aside0.mk hk
  have HO := Aside0.mk ho
  clear hk ho
  go_enter Try.func35, Try.ntmps35
  go_wp2_with fail
  refine (right_c HK.out HO.out).mono ?_
  rintro y w1 ⟨rfl, ⟨n1, rfl⟩⟩
  have HB1 := Aside0.mk (below_drewN n1 w)
  rw [h]
  go_wp2_with fail
  go_ret2
  exact ⟨rfl, HB1.out⟩
theorem Open_no {A B C D : Option Addr} {q r c d e f n p : Nat} {k o : List Int} {w : World} (hk : Rd w A q c k) (ho : Rd w B r d o) (h : rightC q r = false) :
    Calls Try.prog 38 #[.slice A q c, .slice B r d, .slice C n e, .slice D p f] w fun y w' => y = .returned (.tuple #[.slice none 0 0, .int .i64 1]) ∧ Below w.heap.size w w' := by
  have HK := Aside0.mk hk
  have HO := Aside0.mk ho
  clear hk ho
  go_enter Try.func38, Try.ntmps38
  go_wp2_with fail
  refine (right_c HK.out HO.out).mono ?_
  rintro y w1 ⟨rfl, ⟨n1, rfl⟩⟩
  have HB1 := Aside0.mk (below_drewN n1 w)
  rw [h]
  go_wp2_with fail
  go_ret2
  exact ⟨rfl, HB1.out⟩
theorem Open_short {A B C D : Option Addr} {c d e f n p : Nat} {k o : List Int} {w : World} (hk : Rd w A 32 c k) (ho : Rd w B 12 d o) (hp : p < 16) :
    Calls Try.prog 38 #[.slice A 32 c, .slice B 12 d, .slice C n e, .slice D p f] w fun y w' => y = .returned (.tuple #[.slice none 0 0, .int .i64 3]) ∧ Below w.heap.size w w' := by
  have HK := Aside0.mk hk
  have HO := Aside0.mk ho
  have h1 : (p : Int) - 16 < 0 := by omega
  have h2 : (p : Int) < 16 := by omega
  clear hk ho
  go_enter Try.func38, Try.ntmps38
  go_wp2_with fail
  refine (right_c HK.out HO.out).mono ?_
  rintro y w1 ⟨rfl, ⟨n1, rfl⟩⟩
  have HB1 := Aside0.mk (below_drewN n1 w)
  rw [show rightC 32 12 = true from rfl]
  go_wp2_with fail
  go_ret2
  exact ⟨rfl, HB1.out⟩
theorem cut3 {A : Option Addr} {n c : Nat} (j : Nat) (hj : j ≤ n) (hc : n ≤ c) (W : World) : (Instr.slice 22 (.slice A n c) none (some (.int .i64 (j : Int))) (some (.int .i64 (j : Int)))).run Try.prog W = .ok (.slice A j j) W := by
  obtain ⟨i, hi0, hsz⟩ := infoX
  have hel : Try.prog.elem 22 = 5 := by simp [Program.elem, Try.underlying22]
  have hu : Try.prog.underlying 22 = some (.slice (Try.prog.elem 22)) := by rw [hel]; exact Try.underlying22
  have ha : (A.map fun x => x.add 0) = A := by cases A <;> simp [Addr.add]
  have h1 : (j : Int) ≤ c := by omega
  have h2 : j ≤ c := by omega
  rw [run_slice_any W 22 A n c hu, hel]
  simp [Instr.sliceBounds, run_sliceBound_if, sizeOf, typeInfo, hi0, hsz, sliced, Result.andThen, h1, h2, ha]
theorem rd_take3 {w : World} {A : Option Addr} {n c j : Nat} {l : List Int} (h : Rd w A n c l) (hj : j ≤ n) : Rd w A j j (l.take j) := by
  obtain ⟨h1, h2, h3⟩ := rd_take h hj
  exact ⟨h1, Nat.le_refl _, h3⟩
set_option maxHeartbeats 8000000 in
set_option maxRecDepth 100000 in
theorem Open_long {A B C D : Option Addr} {c d e f n q : Nat} {k o x b : List Int} {w : World} (hk : Rd w A 32 c k) (ho : Rd w B 12 d o) (hx : Rd w C n e x) (hb : Rd w D (q + 16) f b) (bk : IsB k) (bo : IsB o) (bx : IsB x) (bb : IsB b) (hn : n ≤ 100000) (hq : q ≤ 100000) {Z : Int} {L : List Int} (hZL : Aside0 ((tagB k o x (b.take q) = b.drop q ∧ Z = 0 ∧ L = mixL k o (b.take q)) ∨ (tagB k o x (b.take q) ≠ b.drop q ∧ Z = 7 ∧ L = []))) :
    Calls Try.prog 38 #[.slice A 32 c, .slice B 12 d, .slice C n e, .slice D (q + 16) f] w fun y w' => ∃ v, y = .returned (.tuple #[v, .int .i64 Z]) ∧ Ow w' w.heap.size v L ∧ Below w.heap.size w w' := by
  have HK := Aside0.mk hk
  have HO := Aside0.mk ho
  have HX := Aside0.mk hx
  have HB := Aside0.mk hb
  have h1 : ¬ (q : Int) < 0 := by omega
  have hcut := fun W => cut3 (A := D) (n := q + 16) (c := f) q (by omega) hb.cap W
  have e1 : (q : Int) + 16 - 16 = q := by omega
  have HML : Aside0 ((b.take q).length = q) := ⟨by have := hb.len; simp; omega⟩
  have HMB : Aside0 (IsB (b.take q)) := ⟨fun y hy => bb y (List.mem_of_mem_take hy)⟩
  have HDB : Aside0 (IsB (b.drop q)) := ⟨fun y hy => bb y (List.mem_of_mem_drop hy)⟩
  clear hk ho hx hb
  go_enter Try.func38, Try.ntmps38
  go_wp2_with fail
  refine (right_c HK.out HO.out).mono ?_
  rintro y w1 ⟨rfl, ⟨n1, rfl⟩⟩
  have HB1 := Aside0.mk (below_drewN n1 w)
  rw [show rightC 32 12 = true from rfl]
  go_wp2_with fail
  generalize hW : World.drewN _ _ = w1
  rw [hW] at HB1
  have HBd : Aside0 (Below w1.heap.size w1 w1.drew) := ⟨(Below.refl _ w1).drew⟩
  have HB2 := Aside0.mk (below_next HB1.out HBd.out)
  have HR := Aside0.mk (HB.out.below HB2.out)
  obtain ⟨A3, c3, hsl, hr3⟩ := rd_slice_from HR.out q (x := (q : Int)) rfl (by omega)
  rw [show q + 16 - q = 16 by omega] at hr3 hsl
  have HR3 := Aside0.mk hr3
  have HM := Aside0.mk (rd_take3 HR.out (show q ≤ q + 16 by omega))
  clear hW hr3 hcut
  refine wp_region_any (by kernel_rfl) ?_
  (try (change wpAny _ _ _ _ _ _ _ _ (World.drew _)))
  refine wpAny_take (i := 0) (v := ?_) (List.getElem?_toArray.trans rfl) (by kernel_rfl) (by kernel_rfl) (by kernel_rfl) (fun _ _ _ h => h) (Or.inl ⟨by rfl, ?_⟩) ?_
  rotate_left
  · (intro w; go_simp; try with_reducible rfl)
  (try simp only [Act.put, List.setIfInBounds_toArray, List.set_cons_zero, List.set_cons_succ])
  refine wpAny_take (i := 1) (v := ?_) (List.getElem?_toArray.trans rfl) (by kernel_rfl) (by kernel_rfl) (by kernel_rfl) (fun _ _ _ h => h) (Or.inl ⟨by rfl, ?_⟩) ?_
  rotate_left
  · (intro w; go_simp; try with_reducible rfl)
  (try simp only [Act.put, List.setIfInBounds_toArray, List.set_cons_zero, List.set_cons_succ])
  refine wpAny_take (i := 2) (v := ?_) (List.getElem?_toArray.trans rfl) (by kernel_rfl) (by kernel_rfl) (by kernel_rfl) (fun _ _ _ h => h) (Or.inl ⟨by rfl, ?_⟩) ?_
  rotate_left
  · (intro w; go_simp; try with_reducible rfl)
  (try simp only [Act.put, List.setIfInBounds_toArray, List.set_cons_zero, List.set_cons_succ])
  refine wpAny_take (i := 3) (v := ?_) (List.getElem?_toArray.trans rfl) (by kernel_rfl) (by kernel_rfl) (by kernel_rfl) (fun _ _ _ h => h) (Or.inl ⟨by rfl, ?_⟩) ?_
  rotate_left
  · (intro w; go_simp; try with_reducible rfl)
  (try simp only [Act.put, List.setIfInBounds_toArray, List.set_cons_zero, List.set_cons_succ])
  refine wpAny_take (i := 5) (v := ?_) (List.getElem?_toArray.trans rfl) (by kernel_rfl) (by kernel_rfl) (by kernel_rfl) (fun _ _ _ h => h) (Or.inl ⟨by rfl, ?_⟩) ?_
  rotate_left
  · (intro w; go_simp; try with_reducible rfl)
  (try simp only [Act.put, List.setIfInBounds_toArray, List.set_cons_zero, List.set_cons_succ])
  refine wpAny_take (i := 6) (v := ?_) (List.getElem?_toArray.trans rfl) (by kernel_rfl) (by kernel_rfl) (by kernel_rfl) (fun _ _ _ h => h) (Or.inl ⟨by rfl, ?_⟩) ?_
  rotate_left
  · (intro w; go_simp; try with_reducible rfl)
  (try simp only [Act.put, List.setIfInBounds_toArray, List.set_cons_zero, List.set_cons_succ])
  refine wpAny_take (i := 7) (v := ?_) (List.getElem?_toArray.trans rfl) (by kernel_rfl) (by kernel_rfl) (by kernel_rfl) (fun _ _ _ h => h) (Or.inl ⟨by rfl, ?_⟩) ?_
  rotate_left
  · (intro w; go_simp; try with_reducible rfl)
  (try simp only [Act.put, List.setIfInBounds_toArray, List.set_cons_zero, List.set_cons_succ])
  refine wpAny_ready (rs := [4]) (by kernel_rfl) (by simp) (AllReady.cons (List.getElem?_toArray.trans rfl) (fun K hK => ?_) AllReady.nil)
  go_simp
  go_at_call 60
  refine (tag60_c (HK.out.below HB2.out) (HO.out.below HB2.out) (HX.out.below HB2.out) HM.out bk bo bx HMB.out (by omega) (by omega)).mono ?_
  rintro y w7 ⟨v7, rfl, ho7, hb7⟩
  obtain ⟨A7, c7, rfl, r7⟩ := rd_of_own ho7
  rw [tagB_length bx HMB.out] at r7 ⊢
  have R7 := Aside0.mk r7
  have HB7 := Aside0.mk (below_next HB2.out hb7)
  have HR7 := Aside0.mk (HR3.out.below hb7)
  have HM7 := Aside0.mk (HM.out.below hb7)
  clear ho7 r7 hb7
  go_wp2_with fail
  (try simp only [Act.put, List.setIfInBounds_toArray, List.set_cons_zero, List.set_cons_succ])
  refine wpAny_ready (rs := [8]) (by kernel_rfl) (by simp) (AllReady.cons (List.getElem?_toArray.trans rfl) (fun K hK => ?_) AllReady.nil)
  go_simp
  go_at_call 63
  refine (Same_c R7.out HR7.out (tagB_isB bx HMB.out) HDB.out (by omega)).mono ?_
  rintro y w8 ⟨rfl, ⟨n8, rfl⟩⟩
  have HB8 := Aside0.mk (below_next HB7.out (below_drewN n8 w7))
  have HM8 := Aside0.mk (HM7.out.below (below_drewN n8 w7))
  generalize hW8 : w7.drewN n8 = w8 at HB8 HM8 ⊢
  clear hW8
  obtain ⟨E, HE⟩ : ∃ z, Aside0 (eqB (tagB k o x (b.take q)) (b.drop q) = z) := ⟨_, ⟨rfl⟩⟩
  rw [HE.out]
  go_wp2_with fail
  (try simp only [Act.put, List.setIfInBounds_toArray, List.set_cons_zero, List.set_cons_succ])
  refine wpAny_take (i := 9) (v := ?_) (List.getElem?_toArray.trans rfl) (by kernel_rfl) (by kernel_rfl) (by kernel_rfl) (fun _ _ _ h => h) (Or.inl ⟨by rfl, ?_⟩) ?_
  rotate_left
  · (intro w; go_simp; try with_reducible rfl)
  (try simp only [Act.put, List.setIfInBounds_toArray, List.set_cons_zero, List.set_cons_succ])
  refine wpAny_done (by kernel_rfl) ?_ _
  cases E with
  | true =>
    have he := eqB_iff.1 HE.out
    have HE2 := Aside0.mk he
    clear he
    go_wp2_with fail
    refine (Mix_c (m := 1) (HK.out.below HB8.out) (HO.out.below HB8.out) HM8.out bk bo HMB.out (by omega) (by omega) (by omega) (by omega)).mono ?_
    rintro y w9 ⟨v9, rfl, ho9, hb9⟩
    have HB9 := Aside0.mk (below_next HB8.out hb9)
    have HO9 : Aside0 (Ow w9 w.heap.size v9 (mixL k o (b.take q))) := ⟨by have h := Kd.R_lower ho9 HB8.out.size; unfold mixL; rw [HML.out]; exact h⟩
    clear ho9 hb9
    go_wp2_with fail
    go_ret2
    rcases hZL.out with ⟨_, hZ, hL⟩ | ⟨hne, _, _⟩
    · rw [hZ, hL]; exact ⟨_, rfl, HO9.out, HB9.out⟩
    · exact absurd HE2.out hne
  | false =>
    have he : ¬ tagB k o x (b.take q) = b.drop q := fun h => by rw [eqB_iff.2 h] at HE; cases HE.out
    have HE2 := Aside0.mk he
    clear he
    go_wp2_with fail
    go_ret2
    rcases hZL.out with ⟨he, _, _⟩ | ⟨_, hZ, hL⟩
    · exact absurd he HE2.out
    · rw [hZ, hL]; exact ⟨_, rfl, Kd.R_nil _ _ _ _ _, HB8.out⟩
end Go.Proofs.Ytkjmjgiklelpiaa.BxO
/- A box, by the document. -/
namespace Go.Proofs.Ytkjmjgiklelpiaa.BxR
open Go.RowKit Go.Proofs.YtkjmjgiklelpiaaW.PrintWords Go.Proofs.Ytkjmjgiklelpiaa.Num Go.Proofs.Ytkjmjgiklelpiaa.WordC Go.Proofs.Ytkjmjgiklelpiaa.Arr Go.Proofs.Ytkjmjgiklelpiaa.App Go.Proofs.Ytkjmjgiklelpiaa.CiC Go.Proofs.Ytkjmjgiklelpiaa.CiD Go.Proofs.Ytkjmjgiklelpiaa.CiB Go.Proofs.Ytkjmjgiklelpiaa.CiK Go.Proofs.Ytkjmjgiklelpiaa.CiL Go.Proofs.Ytkjmjgiklelpiaa.CiM Go.Proofs.Ytkjmjgiklelpiaa.MxA Go.Proofs.Ytkjmjgiklelpiaa.MxB Go.Proofs.Ytkjmjgiklelpiaa.MxC Go.Proofs.Ytkjmjgiklelpiaa.OtS Go.Proofs.Ytkjmjgiklelpiaa.OtU Go.Proofs.Ytkjmjgiklelpiaa.OtX Go.Proofs.Ytkjmjgiklelpiaa.OtH Go.Proofs.Ytkjmjgiklelpiaa.OtI Go.Proofs.Ytkjmjgiklelpiaa.OtJ Go.Proofs.Ytkjmjgiklelpiaa.OtP Go.Proofs.Ytkjmjgiklelpiaa.BxC Go.Proofs.Ytkjmjgiklelpiaa.BxT Go.Proofs.Ytkjmjgiklelpiaa.BxS Go.Proofs.Ytkjmjgiklelpiaa.BxO
set_option linter.unusedVariables false
set_option linter.unusedSimpArgs false

theorem refSeal_no {A B C D : Option Addr} {q r c d e f n p : Nat} {k o : List Int} {w : World} (hk : Rd w A q c k) (ho : Rd w B r d o) (h : rightC q r = false) :
    Calls Try.prog 36 #[.slice A q c, .slice B r d, .slice C n e, .slice D p f] w fun y w' => y = .returned (.tuple #[.slice none 0 0, .int .i64 1]) ∧ Below w.heap.size w w' := by
  have HK := Aside0.mk hk
  have HO := Aside0.mk ho
  clear hk ho
  go_enter Try.func36, Try.ntmps36
  go_wp2_with fail
  refine (refRight_c HK.out HO.out).mono ?_
  rintro y w1 ⟨rfl, ⟨n1, rfl⟩⟩
  have HB1 := Aside0.mk (below_drewN n1 w)
  rw [h]
  go_wp2_with fail
  go_ret2
  exact ⟨rfl, HB1.out⟩
set_option maxHeartbeats 8000000 in
set_option maxRecDepth 100000 in
theorem refSeal_yes {A B C D : Option Addr} {c d e f n p : Nat} {k o x b : List Int} {w : World} (hk : Rd w A 32 c k) (ho : Rd w B 12 d o) (hx : Rd w C n e x) (hb : Rd w D p f b) (bk : IsB k) (bo : IsB o) (bx : IsB x) (bb : IsB b) (hn : n ≤ 100000) (hp : p ≤ 100000) :
    Calls Try.prog 36 #[.slice A 32 c, .slice B 12 d, .slice C n e, .slice D p f] w fun y w' => ∃ v, y = .returned (.tuple #[v, .int .i64 0]) ∧ Ow w' w.heap.size v (sealL k o x b) ∧ Below w.heap.size w w' := by
  have HK := Aside0.mk hk
  have HO := Aside0.mk ho
  have HX := Aside0.mk hx
  have HB := Aside0.mk hb
  have HLX := Aside0.mk hx.len
  have HLB := Aside0.mk hb.len
  clear hk ho hx hb
  go_enter Try.func36, Try.ntmps36
  go_wp2_with fail
  refine (refRight_c HK.out HO.out).mono ?_
  rintro y w1 ⟨rfl, ⟨n1, rfl⟩⟩
  have HB1 := Aside0.mk (below_drewN n1 w)
  rw [show rightC 32 12 = true from rfl]
  go_wp2_with fail
  refine (refMix_c (m := 1) (HK.out.below HB1.out) (HO.out.below HB1.out) (HB.out.below HB1.out) bk bo bb (by omega) (by omega) (by omega) (by omega)).mono ?_
  rintro y w2 ⟨v2, rfl, ho2, hb2⟩
  have HB2 := Aside0.mk (below_next HB1.out hb2)
  obtain ⟨M, HMM⟩ : ∃ z, Aside0 (mixL k o b = z) := ⟨_, ⟨rfl⟩⟩
  have HML : Aside0 (M.length = p) := ⟨by rw [← HMM.out, mixL_length]; exact HLB.out⟩
  have HMB : Aside0 (IsB M) := ⟨by rw [← HMM.out]; exact mixL_isB bb⟩
  have HO2 : Aside0 (Ow w2 w.heap.size v2 M) := ⟨by
    rw [← HMM.out]; unfold mixL; rw [HLB.out]; exact Kd.R_lower ho2 HB1.out.size⟩
  clear ho2 hb2
  obtain ⟨A2, c2, rfl, r2⟩ := rd_of_own HO2.out
  rw [HML.out] at r2 HO2 ⊢
  have R2 := Aside0.mk r2
  clear r2
  obtain ⟨FX, HFX⟩ : ∃ z, Aside0 (filled x 16 = z) := ⟨_, ⟨rfl⟩⟩
  obtain ⟨FM, HFM⟩ : ∃ z, Aside0 (filled M 16 = z) := ⟨_, ⟨rfl⟩⟩
  have HFXL : Aside0 (FX.length ≤ 100015) := ⟨by rw [← HFX.out]; have := filled_len x; have := HLX.out; omega⟩
  have HFML : Aside0 (FM.length ≤ 100015) := ⟨by rw [← HFM.out]; have := filled_len M; have := HML.out; omega⟩
  go_wp2_with fail
  refine (filled_c (HX.out.below HB2.out) (by omega)).mono ?_
  rintro y w3 ⟨v3, rfl, ho3, hb3⟩
  rw [HFX.out] at ho3
  have HO3 := Aside0.mk ho3
  have HB3 := Aside0.mk hb3
  clear ho3 hb3
  go_wp2_with fail
  refine (filled_c (R2.out.below HB3.out) (by omega)).mono ?_
  rintro y w4 ⟨v4, rfl, ho4, hb4⟩
  rw [HFM.out] at ho4
  obtain ⟨A4, c4, rfl, r4⟩ := rd_of_own ho4
  have R4 := Aside0.mk r4
  have HO4 := Aside0.mk (Kd.R_below HO3.out hb4)
  have HB4 := Aside0.mk (below_next HB3.out hb4)
  clear ho4 r4 hb4
  go_wp2_with (first
    | (refine append_ow (w0 := w2) w2.heap.size rfl (.tmp 31) (.tmp 33) rfl v3 (FX) (FM) A4 FM.length c4 rfl rfl HO4.out R4.out HB4.out HB4.out.size (by have := HFXL.out; have := HFML.out; omega) ?_; intro v5 w5 ho5 hb5 _ _))
  have HO5 := Aside0.mk ho5
  have HB5 := Aside0.mk hb5
  clear ho5 hb5
  refine (eight_c n (by omega)).mono ?_
  rintro y w6 ⟨v6, rfl, ho6, hb6⟩
  obtain ⟨A6, c6, rfl, r6⟩ := rd_of_own ho6
  rw [le8_length] at r6 ⊢
  have R6 := Aside0.mk r6
  have HO6 := Aside0.mk (Kd.R_below HO5.out hb6)
  have HB6 := Aside0.mk (below_next HB5.out hb6)
  clear ho6 r6 hb6
  go_wp2_with (first
    | (refine append_ow (w0 := w2) w2.heap.size rfl (.tmp 35) (.tmp 38) rfl v5 (FX ++ FM) (le8 n) A6 8 c6 rfl rfl HO6.out R6.out HB6.out HB6.out.size (by have := HFXL.out; have := HFML.out; simp; omega) ?_; intro v7 w7 ho7 hb7 _ _))
  have HO7 := Aside0.mk ho7
  have HB7 := Aside0.mk hb7
  clear ho7 hb7
  refine (eight_c p (by omega)).mono ?_
  rintro y w8 ⟨v8, rfl, ho8, hb8⟩
  obtain ⟨A8, c8, rfl, r8⟩ := rd_of_own ho8
  rw [le8_length] at r8 ⊢
  have R8 := Aside0.mk r8
  have HO8 := Aside0.mk (Kd.R_below HO7.out hb8)
  have HB8 := Aside0.mk (below_next HB7.out hb8)
  clear ho8 r8 hb8
  go_wp2_with (first
    | (refine append_ow (w0 := w2) w2.heap.size rfl (.tmp 40) (.tmp 43) rfl v7 (FX ++ FM ++ le8 n) (le8 p) A8 8 c8 rfl rfl HO8.out R8.out HB8.out HB8.out.size (by have := HFXL.out; have := HFML.out; simp [le8_length]; omega) ?_; intro v9 w9 ho9 hb9 _ _))
  obtain ⟨ALL, HALL⟩ : ∃ z, Aside0 (allB x M = z) := ⟨_, ⟨rfl⟩⟩
  have HALB : Aside0 (IsB ALL) := ⟨by rw [← HALL.out]; exact allB_isB bx HMB.out⟩
  have HALL2 : Aside0 (ALL.length ≤ 1000000) := ⟨by rw [← HALL.out]; have := allB_len x M; have := HLX.out; have := HML.out; omega⟩
  have ho9' : Ow w9 w2.heap.size v9 ALL := by
    rw [← HALL.out]; unfold allB; rw [HFX.out, HFM.out, HLX.out, HML.out]; exact ho9
  obtain ⟨A9, c9, rfl, r9⟩ := rd_of_own ho9'
  have R9 := Aside0.mk r9
  have HB9 := Aside0.mk hb9
  have HB9w := Aside0.mk (HB2.out.trans (hb9.mono HB2.out.size))
  clear ho9 ho9' r9 hb9
  refine (refBlock_c (n := 0) (HK.out.below HB9w.out) (HO.out.below HB9w.out) bk bo (by omega) (by omega)).mono ?_
  rintro y w10 ⟨v10, rfl, ho10, hb10⟩
  obtain ⟨A10, c10, rfl, r10⟩ := rd_of_own ho10
  have HCL : (chaS k o 0).length = 64 := blkS_length _
  rw [HCL] at r10 ⊢
  obtain ⟨hcut, hr32⟩ := rd_slice_to r10 32 (y := 32) rfl (by omega)
  have HR32 : Aside0 (Rd w10 A10 32 c10 (keyB k o)) := ⟨hr32⟩
  have HB10 := Aside0.mk (below_next HB9.out hb10)
  have R910 := Aside0.mk (R9.out.below hb10)
  clear ho10 r10 hr32 hb10 HCL
  go_wp2_with fail
  refine (refTag_c HR32.out R910.out (keyB_isB k o) HALB.out HALL2.out).mono ?_
  rintro y w11 ⟨v11, T, rfl, ho11, hT, hb11⟩
  have HT : Aside0 (T = tagB k o x M) := ⟨by
    have h := tag_ok (keyB_length k o) (keyB_isB k o) (allB_isB bx HMB.out)
    rw [HALL.out] at h
    have e : tagB k o x M = tagS (endS (rK (keyB k o)) ALL) (sK (keyB k o)) := by rw [← HALL.out]; rfl
    rw [e]
    exact IsTag.uniq hT h⟩
  obtain ⟨A11, c11, rfl, r11⟩ := rd_of_own ho11
  have R11 := Aside0.mk r11
  have HB11 := Aside0.mk (below_next HB10.out hb11)
  have HTL : Aside0 (T.length = 16) := ⟨by rw [HT.out]; exact tagB_length bx HMB.out⟩
  have HO11 := Aside0.mk (Kd.R_below HO2.out HB11.out)
  have HB11w := Aside0.mk (HB2.out.trans (HB11.out.mono HB2.out.size))
  clear ho11 hT r11 hb11 hcut
  go_wp2_with (first
    | (refine append_ow (w0 := w) w.heap.size rfl (.tmp 55) (.tmp 56) rfl (.slice A2 p c2) (M) (T) A11 T.length c11 rfl rfl HO11.out R11.out HB11w.out HB11w.out.size (by have := HTL.out; have := HML.out; omega) ?_; intro v12 w12 ho12 hb12 _ _))
  have HO12 : Aside0 (Ow w12 w.heap.size v12 (sealL k o x b)) := ⟨by unfold sealL; rw [HMM.out, ← HT.out]; exact ho12⟩
  have HB12 := Aside0.mk hb12
  clear ho12 hb12
  go_ret2
  exact ⟨_, rfl, HO12.out, HB12.out⟩
theorem refOpen_no {A B C D : Option Addr} {q r c d e f n p : Nat} {k o : List Int} {w : World} (hk : Rd w A q c k) (ho : Rd w B r d o) (h : rightC q r = false) :
    Calls Try.prog 39 #[.slice A q c, .slice B r d, .slice C n e, .slice D p f] w fun y w' => y = .returned (.tuple #[.slice none 0 0, .int .i64 1]) ∧ Below w.heap.size w w' := by
  have HK := Aside0.mk hk
  have HO := Aside0.mk ho
  clear hk ho
  go_enter Try.func39, Try.ntmps39
  go_wp2_with fail
  refine (refRight_c HK.out HO.out).mono ?_
  rintro y w1 ⟨rfl, ⟨n1, rfl⟩⟩
  have HB1 := Aside0.mk (below_drewN n1 w)
  rw [h]
  go_wp2_with fail
  go_ret2
  exact ⟨rfl, HB1.out⟩
theorem refOpen_short {A B C D : Option Addr} {c d e f n p : Nat} {k o : List Int} {w : World} (hk : Rd w A 32 c k) (ho : Rd w B 12 d o) (hp : p < 16) :
    Calls Try.prog 39 #[.slice A 32 c, .slice B 12 d, .slice C n e, .slice D p f] w fun y w' => y = .returned (.tuple #[.slice none 0 0, .int .i64 3]) ∧ Below w.heap.size w w' := by
  have HK := Aside0.mk hk
  have HO := Aside0.mk ho
  have h2 : (p : Int) < 16 := by omega
  clear hk ho
  go_enter Try.func39, Try.ntmps39
  go_wp2_with fail
  refine (refRight_c HK.out HO.out).mono ?_
  rintro y w1 ⟨rfl, ⟨n1, rfl⟩⟩
  have HB1 := Aside0.mk (below_drewN n1 w)
  rw [show rightC 32 12 = true from rfl]
  go_wp2_with fail
  go_ret2
  exact ⟨rfl, HB1.out⟩
set_option maxHeartbeats 8000000 in
set_option maxRecDepth 100000 in
theorem refOpen_long {A B C D : Option Addr} {c d e f n q : Nat} {k o x b : List Int} {w : World} (hk : Rd w A 32 c k) (ho : Rd w B 12 d o) (hx : Rd w C n e x) (hb : Rd w D (q + 16) f b) (bk : IsB k) (bo : IsB o) (bx : IsB x) (bb : IsB b) (hn : n ≤ 100000) (hq : q ≤ 100000) {Z : Int} {L : List Int} (hZL : Aside0 ((tagB k o x (b.take q) = b.drop q ∧ Z = 0 ∧ L = mixL k o (b.take q)) ∨ (tagB k o x (b.take q) ≠ b.drop q ∧ Z = 7 ∧ L = []))) :
    Calls Try.prog 39 #[.slice A 32 c, .slice B 12 d, .slice C n e, .slice D (q + 16) f] w fun y w' => ∃ v, y = .returned (.tuple #[v, .int .i64 Z]) ∧ Ow w' w.heap.size v L ∧ Below w.heap.size w w' := by
  have HK := Aside0.mk hk
  have HO := Aside0.mk ho
  have HX := Aside0.mk hx
  have HB := Aside0.mk hb
  have h1 : ¬ (q : Int) + 16 < 16 := by omega
  have e1 : (q : Int) + 16 - 16 = q := by omega
  have hcut := (rd_slice_to hb q (y := (q : Int)) rfl (by omega)).1
  have HM := Aside0.mk (rd_slice_to hb q (y := (q : Int)) rfl (by omega)).2
  have HML : Aside0 ((b.take q).length = q) := ⟨by have := hb.len; simp; omega⟩
  have HMB : Aside0 (IsB (b.take q)) := ⟨fun y hy => bb y (List.mem_of_mem_take hy)⟩
  clear hk ho hx hb
  go_enter Try.func39, Try.ntmps39
  go_wp2_with fail
  refine (refRight_c HK.out HO.out).mono ?_
  rintro y w1 ⟨rfl, ⟨n1, rfl⟩⟩
  have HB1 := Aside0.mk (below_drewN n1 w)
  rw [show rightC 32 12 = true from rfl]
  go_wp2_with fail
  refine (refMix_c (m := 1) (HK.out.below HB1.out) (HO.out.below HB1.out) (HM.out.below HB1.out) bk bo HMB.out (by omega) (by omega) (by omega) (by omega)).mono ?_
  rintro y w2 ⟨v2, rfl, ho2, hb2⟩
  have HB2 := Aside0.mk (below_next HB1.out hb2)
  obtain ⟨M, HMM⟩ : ∃ z, Aside0 (mixL k o (b.take q) = z) := ⟨_, ⟨rfl⟩⟩
  have HML2 : Aside0 (M.length = q) := ⟨by rw [← HMM.out, mixL_length]; exact HML.out⟩
  have HMB2 : Aside0 (IsB M) := ⟨by rw [← HMM.out]; exact mixL_isB HMB.out⟩
  have HO2 : Aside0 (Ow w2 w.heap.size v2 M) := ⟨by
    rw [← HMM.out]; unfold mixL; rw [HML.out]; exact Kd.R_lower ho2 HB1.out.size⟩
  clear ho2 hb2 hcut
  obtain ⟨A2, c2, rfl, r2⟩ := rd_of_own HO2.out
  rw [HML2.out] at r2 HO2 ⊢
  have R2 := Aside0.mk r2
  clear r2
  go_wp2_with fail
  refine (refSeal_yes (HK.out.below HB2.out) (HO.out.below HB2.out) (HX.out.below HB2.out) R2.out bk bo bx HMB2.out hn hq).mono ?_
  rintro y w3 ⟨v3, rfl, ho3, hb3⟩
  obtain ⟨SS, HSS⟩ : ∃ z, Aside0 (sealL k o x M = z) := ⟨_, ⟨rfl⟩⟩
  have HSE : Aside0 (SS = b.take q ++ tagB k o x (b.take q)) := ⟨by
    rw [← HSS.out, ← HMM.out]; unfold sealL; rw [mixL_twice HMB.out]⟩
  have HSB : Aside0 (IsB SS) := ⟨by rw [← HSS.out]; exact sealL_isB bx HMB2.out⟩
  rw [HSS.out] at ho3
  obtain ⟨A3, c3, rfl, r3⟩ := rd_of_own ho3
  have HB3 := Aside0.mk (below_next HB2.out hb3)
  have HO3 := Aside0.mk (Kd.R_below HO2.out hb3)
  have s1 := rd_string r3
  have s2 := rd_string (HB.out.below HB3.out)
  have hse := str_eq HSB.out bb
  obtain ⟨E, HE⟩ : ∃ z, Aside0 (eqB SS b = z) := ⟨_, ⟨rfl⟩⟩
  rw [HE.out] at hse
  have hsn : ((strOfNums SS).toList != (strOfNums b).toList) = !E := by unfold bne; rw [hse]
  clear ho3 r3 hb3
  have HEE : Aside0 (E = true ↔ tagB k o x (b.take q) = b.drop q) := ⟨by
    rw [← HE.out, eqB_iff, HSE.out]
    constructor
    · intro h
      have h2 : b.take q ++ tagB k o x (b.take q) = b.take q ++ b.drop q := by rw [h, List.take_append_drop]
      exact List.append_cancel_left h2
    · intro h
      rw [h, List.take_append_drop]⟩
  cases E with
  | true =>
    go_wp2_with fail
    go_ret2
    rcases hZL.out with ⟨_, hZ, hL⟩ | ⟨hne, _, _⟩
    · rw [hZ, hL, HMM.out]; exact ⟨_, rfl, HO3.out, HB3.out⟩
    · exact absurd (HEE.out.1 (by trivial)) hne
  | false =>
    go_wp2_with fail
    go_ret2
    rcases hZL.out with ⟨he, _, _⟩ | ⟨_, hZ, hL⟩
    · exact absurd (HEE.out.2 he) (by simp)
    · rw [hZ, hL]; exact ⟨_, rfl, Kd.R_nil _ _ _ _ _, HB3.out⟩
/-! ### for any input -/
def codeS (q r : Nat) : Int := if rightC q r then 0 else 1
def outS7 (k o x b : List Int) : List Int := if rightC k.length o.length then sealL k o x b else []
def codeO (k o x b : List Int) : Int := if rightC k.length o.length then (if b.length < 16 then 3 else if tagB k o x (b.take (b.length - 16)) = b.drop (b.length - 16) then 0 else 7) else 1
def outO (k o x b : List Int) : List Int := if codeO k o x b = 0 then mixL k o (b.take (b.length - 16)) else []
theorem Seal_u {A B C D : Option Addr} {q r c d e f n p : Nat} {k o x b : List Int} {w : World} (hk : Rd w A q c k) (ho : Rd w B r d o) (hx : Rd w C n e x) (hb : Rd w D p f b) (bk : IsB k) (bo : IsB o) (bx : IsB x) (bb : IsB b) (hn : n ≤ 100000) (hp : p ≤ 100000) :
    Calls Try.prog 35 #[.slice A q c, .slice B r d, .slice C n e, .slice D p f] w fun y w' => ∃ v, y = .returned (.tuple #[v, .int .i64 (codeS q r)]) ∧ Ow w' w.heap.size v (outS7 k o x b) ∧ Below w.heap.size w w' := by
  obtain rfl : q = k.length := hk.len.symm
  obtain rfl : r = o.length := ho.len.symm
  unfold codeS outS7
  by_cases h : rightC k.length o.length = true
  · rw [if_pos h, if_pos h]
    obtain ⟨e1, e2⟩ := rightC_iff.1 h
    rw [e1] at hk ⊢
    rw [e2] at ho ⊢
    exact Seal_yes hk ho hx hb bk bo bx bb hn hp
  · rw [if_neg h, if_neg h]
    exact (Seal_no hk ho (by simpa using h)).mono fun y w' h => ⟨_, h.1, Kd.R_nil _ _ _ _ _, h.2⟩
theorem refSeal_u {A B C D : Option Addr} {q r c d e f n p : Nat} {k o x b : List Int} {w : World} (hk : Rd w A q c k) (ho : Rd w B r d o) (hx : Rd w C n e x) (hb : Rd w D p f b) (bk : IsB k) (bo : IsB o) (bx : IsB x) (bb : IsB b) (hn : n ≤ 100000) (hp : p ≤ 100000) :
    Calls Try.prog 36 #[.slice A q c, .slice B r d, .slice C n e, .slice D p f] w fun y w' => ∃ v, y = .returned (.tuple #[v, .int .i64 (codeS q r)]) ∧ Ow w' w.heap.size v (outS7 k o x b) ∧ Below w.heap.size w w' := by
  obtain rfl : q = k.length := hk.len.symm
  obtain rfl : r = o.length := ho.len.symm
  unfold codeS outS7
  by_cases h : rightC k.length o.length = true
  · rw [if_pos h, if_pos h]
    obtain ⟨e1, e2⟩ := rightC_iff.1 h
    rw [e1] at hk ⊢
    rw [e2] at ho ⊢
    exact refSeal_yes hk ho hx hb bk bo bx bb hn hp
  · rw [if_neg h, if_neg h]
    exact (refSeal_no hk ho (by simpa using h)).mono fun y w' h => ⟨_, h.1, Kd.R_nil _ _ _ _ _, h.2⟩
theorem Open_u {A B C D : Option Addr} {q r c d e f n p : Nat} {k o x b : List Int} {w : World} (hk : Rd w A q c k) (ho : Rd w B r d o) (hx : Rd w C n e x) (hb : Rd w D p f b) (bk : IsB k) (bo : IsB o) (bx : IsB x) (bb : IsB b) (hn : n ≤ 100000) (hp : p ≤ 100000) :
    Calls Try.prog 38 #[.slice A q c, .slice B r d, .slice C n e, .slice D p f] w fun y w' => ∃ v, y = .returned (.tuple #[v, .int .i64 (codeO k o x b)]) ∧ Ow w' w.heap.size v (outO k o x b) ∧ Below w.heap.size w w' := by
  obtain rfl : q = k.length := hk.len.symm
  obtain rfl : r = o.length := ho.len.symm
  obtain rfl : p = b.length := hb.len.symm
  by_cases h : rightC k.length o.length = true
  · by_cases h2 : b.length < 16
    · have e : codeO k o x b = 3 := by unfold codeO; rw [if_pos h, if_pos h2]
      unfold outO
      rw [e, if_neg (by decide)]
      obtain ⟨e1, e2⟩ := rightC_iff.1 h
      rw [e1] at hk ⊢
      rw [e2] at ho ⊢
      exact (Open_short hk ho h2).mono fun y w' h => ⟨_, h.1, Kd.R_nil _ _ _ _ _, h.2⟩
    · obtain ⟨z, hz⟩ : ∃ z, b.length = z + 16 := ⟨b.length - 16, by omega⟩
      have hZL : Aside0 ((tagB k o x (b.take z) = b.drop z ∧ codeO k o x b = 0 ∧ outO k o x b = mixL k o (b.take z)) ∨ (tagB k o x (b.take z) ≠ b.drop z ∧ codeO k o x b = 7 ∧ outO k o x b = [])) := ⟨by
        have ez : b.length - 16 = z := by omega
        by_cases ht : tagB k o x (b.take z) = b.drop z
        · have e : codeO k o x b = 0 := by unfold codeO; rw [if_pos h, if_neg h2, ez, if_pos ht]
          refine .inl ⟨ht, e, ?_⟩
          unfold outO; rw [if_pos e, ez]
        · have e : codeO k o x b = 7 := by unfold codeO; rw [if_pos h, if_neg h2, ez, if_neg ht]
          refine .inr ⟨ht, e, ?_⟩
          unfold outO; rw [e, if_neg (by decide)]⟩
      generalize codeO k o x b = Z at hZL ⊢
      generalize outO k o x b = L at hZL ⊢
      obtain ⟨e1, e2⟩ := rightC_iff.1 h
      rw [e1] at hk ⊢
      rw [e2] at ho ⊢
      rw [hz] at hb ⊢
      exact Open_long hk ho hx hb bk bo bx bb hn (by omega) hZL
  · have e : codeO k o x b = 1 := by unfold codeO; rw [if_neg h]
    unfold outO
    rw [e, if_neg (by decide)]
    exact (Open_no hk ho (by simpa using h)).mono fun y w' h => ⟨_, h.1, Kd.R_nil _ _ _ _ _, h.2⟩
theorem refOpen_u {A B C D : Option Addr} {q r c d e f n p : Nat} {k o x b : List Int} {w : World} (hk : Rd w A q c k) (ho : Rd w B r d o) (hx : Rd w C n e x) (hb : Rd w D p f b) (bk : IsB k) (bo : IsB o) (bx : IsB x) (bb : IsB b) (hn : n ≤ 100000) (hp : p ≤ 100000) :
    Calls Try.prog 39 #[.slice A q c, .slice B r d, .slice C n e, .slice D p f] w fun y w' => ∃ v, y = .returned (.tuple #[v, .int .i64 (codeO k o x b)]) ∧ Ow w' w.heap.size v (outO k o x b) ∧ Below w.heap.size w w' := by
  obtain rfl : q = k.length := hk.len.symm
  obtain rfl : r = o.length := ho.len.symm
  obtain rfl : p = b.length := hb.len.symm
  by_cases h : rightC k.length o.length = true
  · by_cases h2 : b.length < 16
    · have e : codeO k o x b = 3 := by unfold codeO; rw [if_pos h, if_pos h2]
      unfold outO
      rw [e, if_neg (by decide)]
      obtain ⟨e1, e2⟩ := rightC_iff.1 h
      rw [e1] at hk ⊢
      rw [e2] at ho ⊢
      exact (refOpen_short hk ho h2).mono fun y w' h => ⟨_, h.1, Kd.R_nil _ _ _ _ _, h.2⟩
    · obtain ⟨z, hz⟩ : ∃ z, b.length = z + 16 := ⟨b.length - 16, by omega⟩
      have hZL : Aside0 ((tagB k o x (b.take z) = b.drop z ∧ codeO k o x b = 0 ∧ outO k o x b = mixL k o (b.take z)) ∨ (tagB k o x (b.take z) ≠ b.drop z ∧ codeO k o x b = 7 ∧ outO k o x b = [])) := ⟨by
        have ez : b.length - 16 = z := by omega
        by_cases ht : tagB k o x (b.take z) = b.drop z
        · have e : codeO k o x b = 0 := by unfold codeO; rw [if_pos h, if_neg h2, ez, if_pos ht]
          refine .inl ⟨ht, e, ?_⟩
          unfold outO; rw [if_pos e, ez]
        · have e : codeO k o x b = 7 := by unfold codeO; rw [if_pos h, if_neg h2, ez, if_neg ht]
          refine .inr ⟨ht, e, ?_⟩
          unfold outO; rw [e, if_neg (by decide)]⟩
      generalize codeO k o x b = Z at hZL ⊢
      generalize outO k o x b = L at hZL ⊢
      obtain ⟨e1, e2⟩ := rightC_iff.1 h
      rw [e1] at hk ⊢
      rw [e2] at ho ⊢
      rw [hz] at hb ⊢
      exact refOpen_long hk ho hx hb bk bo bx bb hn (by omega) hZL
  · have e : codeO k o x b = 1 := by unfold codeO; rw [if_neg h]
    unfold outO
    rw [e, if_neg (by decide)]
    exact (refOpen_no hk ho (by simpa using h)).mono fun y w' h => ⟨_, h.1, Kd.R_nil _ _ _ _ _, h.2⟩
end Go.Proofs.Ytkjmjgiklelpiaa.BxR
/- awake of law 07. -/
namespace Go.Proofs.Ytkjmjgiklelpiaa.BxA
open Go.RowKit Go.Proofs.YtkjmjgiklelpiaaW.PrintWords Go.Proofs.Ytkjmjgiklelpiaa.Num Go.Proofs.Ytkjmjgiklelpiaa.WordC Go.Proofs.Ytkjmjgiklelpiaa.Arr Go.Proofs.Ytkjmjgiklelpiaa.App Go.Proofs.Ytkjmjgiklelpiaa.CiC Go.Proofs.Ytkjmjgiklelpiaa.CiD Go.Proofs.Ytkjmjgiklelpiaa.CiB Go.Proofs.Ytkjmjgiklelpiaa.CiK Go.Proofs.Ytkjmjgiklelpiaa.CiL Go.Proofs.Ytkjmjgiklelpiaa.CiM Go.Proofs.Ytkjmjgiklelpiaa.MxA Go.Proofs.Ytkjmjgiklelpiaa.MxB Go.Proofs.Ytkjmjgiklelpiaa.MxC Go.Proofs.Ytkjmjgiklelpiaa.OtS Go.Proofs.Ytkjmjgiklelpiaa.OtU Go.Proofs.Ytkjmjgiklelpiaa.OtX Go.Proofs.Ytkjmjgiklelpiaa.OtH Go.Proofs.Ytkjmjgiklelpiaa.OtI Go.Proofs.Ytkjmjgiklelpiaa.OtJ Go.Proofs.Ytkjmjgiklelpiaa.OtP Go.Proofs.Ytkjmjgiklelpiaa.BxC Go.Proofs.Ytkjmjgiklelpiaa.BxT Go.Proofs.Ytkjmjgiklelpiaa.BxS Go.Proofs.Ytkjmjgiklelpiaa.BxO Go.Proofs.Ytkjmjgiklelpiaa.BxR
set_option linter.unusedVariables false
set_option linter.unusedSimpArgs false

theorem rd_nil (w : World) : Rd w none 0 0 [] := by
  have h : Ow w 0 (.slice none 0 0) [] := Kd.R_nil _ _ _ _ _
  obtain ⟨A, c, e, hr⟩ := rd_of_own h
  injection e with e1 e2 e3
  subst e1 e3
  exact hr
theorem z_isB (m : Nat) : IsB (List.replicate m 0) := fun x hx => by rw [List.eq_of_mem_replicate hx]; decide
theorem rd_zero (W : World) (m : Nat) (hm : m ≤ 1000) : Rd (W.alloc (.cells (nums .u8 (List.replicate m 0)).toArray 5)) (some ⟨W.heap.size, 0, none⟩) m m (List.replicate m 0) := by
  have h : Ow (W.alloc (.cells (nums .u8 (List.replicate m 0)).toArray 5)) 0 (.slice (some ⟨W.heap.size, 0, none⟩) (List.replicate m (0 : Int)).length (List.replicate m (0 : Int)).length) (List.replicate m 0) := ow_of_blk (heap_alloc_new _ _) (Nat.zero_le _) (by simp; omega)
  obtain ⟨A, c, e, hr⟩ := rd_of_own h
  injection e with e1 e2 e3
  subst e1 e3
  simpa using hr
theorem mk_zero (m : Nat) (hm : m ≤ 1000) (W : World) : (Instr.makeSlice 22 (.int .i64 (m : Int)) (.int .i64 (m : Int))).run Try.prog W = .ok (.slice (some ⟨W.heap.size, 0, none⟩) m m) (W.alloc (.cells (nums .u8 (List.replicate m 0)).toArray 5)) := by
  have h := print_make (P := Try.prog) 22 5 .u8 1 Try.underlying22 infoU8 (by omega) m (by omega) W
  have e : madeCells #[.int .u8 0] m = (nums .u8 (List.replicate m 0)).toArray := by
    apply Array.ext'
    simp only [madeCells, nums]
    rw [List.map_replicate]
    apply List.eq_replicate_iff.2
    simp [Nat.mod_one]
  rw [e] at h
  exact h
def kO : List Int := List.replicate 32 0
def oO : List Int := List.replicate 12 0
theorem kO_isB : IsB kO := z_isB 32
theorem oO_isB : IsB oO := z_isB 12
theorem nil_isB : IsB [] := fun x hx => by cases hx
def bO : List Int := sealL kO oO [] []
theorem bO_length : bO.length = 16 := sealL_length nil_isB nil_isB
theorem bO_isB : IsB bO := sealL_isB nil_isB nil_isB
theorem bO_tag : tagB kO oO [] (bO.take 0) = bO.drop 0 := by
  rw [List.take_zero, List.drop_zero]
  rfl
set_option maxHeartbeats 8000000 in
set_option maxRecDepth 100000 in
theorem awake33_c {w : World} : Calls Try.prog 33 #[] w fun e w' => e = .returned (.bool true) ∧ Below w.heap.size w w' := by
  have hm32 : ∀ W : World, (Instr.makeSlice 22 (.int .i64 32) (.int .i64 32)).run Try.prog W = .ok (.slice (some ⟨W.heap.size, 0, none⟩) 32 32) (W.alloc (.cells (nums .u8 kO).toArray 5)) := fun W => mk_zero 32 (by omega) W
  have hm12 : ∀ W : World, (Instr.makeSlice 22 (.int .i64 12) (.int .i64 12)).run Try.prog W = .ok (.slice (some ⟨W.heap.size, 0, none⟩) 12 12) (W.alloc (.cells (nums .u8 oO).toArray 5)) := fun W => mk_zero 12 (by omega) W
  have HRK : Aside0 (∀ W : World, Rd (W.alloc (.cells (nums .u8 kO).toArray 5)) (some ⟨W.heap.size, 0, none⟩) 32 32 kO) := ⟨fun W => rd_zero W 32 (by omega)⟩
  have HRO : Aside0 (∀ W : World, Rd (W.alloc (.cells (nums .u8 oO).toArray 5)) (some ⟨W.heap.size, 0, none⟩) 12 12 oO) := ⟨fun W => rd_zero W 12 (by omega)⟩
  obtain ⟨k, HKK⟩ : ∃ z, Aside0 (kO = z) := ⟨_, ⟨rfl⟩⟩
  obtain ⟨o, HOO⟩ : ∃ z, Aside0 (oO = z) := ⟨_, ⟨rfl⟩⟩
  obtain ⟨bx, HBX⟩ : ∃ z, Aside0 (bO = z) := ⟨_, ⟨rfl⟩⟩
  have HKB : Aside0 (IsB k) := ⟨by rw [← HKK.out]; exact kO_isB⟩
  have HOB : Aside0 (IsB o) := ⟨by rw [← HOO.out]; exact oO_isB⟩
  have HBL : Aside0 (bx.length = 16) := ⟨by rw [← HBX.out]; exact bO_length⟩
  have HBB : Aside0 (IsB bx) := ⟨by rw [← HBX.out]; exact bO_isB⟩
  have HBS : Aside0 (sealL k o [] [] = bx) := ⟨by rw [← HBX.out, ← HKK.out, ← HOO.out]; rfl⟩
  have HBT : Aside0 (tagB k o [] (bx.take 0) = bx.drop 0) := ⟨by rw [← HBX.out, ← HKK.out, ← HOO.out]; exact bO_tag⟩
  rw [HKK.out] at hm32 HRK
  rw [HOO.out] at hm12 HRO
  have HK1 : Aside0 (∀ W : World, Rd ((W.alloc (.cells (nums .u8 k).toArray 5)).alloc (.cells (nums .u8 o).toArray 5)).drew (some ⟨W.heap.size, 0, none⟩) 32 32 k) := ⟨fun W => ((HRK.out W).alloc _).below ((Below.refl _ _).drew)⟩
  have HO1 : Aside0 (∀ W : World, Rd ((W.alloc (.cells (nums .u8 k).toArray 5)).alloc (.cells (nums .u8 o).toArray 5)).drew (some ⟨W.heap.size + 1, 0, none⟩) 12 12 o) := ⟨fun W => by
    have h := (HRO.out (W.alloc (.cells (nums .u8 k).toArray 5))).below ((Below.refl _ _).drew)
    simpa using h⟩
  have HK2 : Aside0 (∀ W : World, Rd ((W.alloc (.cells (nums .u8 o).toArray 5)).alloc (.cells (nums .u8 k).toArray 5)).drew (some ⟨W.heap.size + 1, 0, none⟩) 32 32 k) := ⟨fun W => by
    have h := (HRK.out (W.alloc (.cells (nums .u8 o).toArray 5))).below ((Below.refl _ _).drew)
    simpa using h⟩
  have HO2 : Aside0 (∀ W : World, Rd ((W.alloc (.cells (nums .u8 o).toArray 5)).alloc (.cells (nums .u8 k).toArray 5)).drew (some ⟨W.heap.size, 0, none⟩) 12 12 o) := ⟨fun W => ((HRO.out W).alloc _).below ((Below.refl _ _).drew)⟩
  have HBW : Aside0 (∀ (W : World) (X Y : Obj), Below W.heap.size W ((W.alloc X).alloc Y).drew) := ⟨fun W X Y => (((Below.refl _ W).alloc (Nat.le_refl _) X).alloc (by simp) Y).drew⟩
  go_enter Try.func33, Try.ntmps33
  go_upto_region 1 with (fail)
  go_cut [1, 2] from 7 to 13 (fun v1 v2 wx => ∃ A c, v1 = .slice A 16 c ∧ v2 = .int .i64 0 ∧ Aside0 (Rd wx A 16 c bx) ∧ Below w.heap.size w wx)
  case first =>
    go_region_with (go_at_call 35; (first | (with_reducible refine (Seal_yes (HK1.out _) (HO1.out _) (rd_nil _) (rd_nil _) HKB.out HOB.out nil_isB nil_isB (by omega) (by omega)).mono ?_) | (with_reducible refine (Seal_yes (HK2.out _) (HO2.out _) (rd_nil _) (rd_nil _) HKB.out HOB.out nil_isB nil_isB (by omega) (by omega)).mono ?_)); rintro y w5 ⟨v, rfl, ho, hb⟩; rw [HBS.out] at ho; obtain ⟨A5, c5, rfl, r5⟩ := rd_of_own ho; rw [HBL.out] at r5 ⊢; have R5 := Aside0.mk r5; have HB5 := Aside0.mk (below_next (HBW.out _ _ _) hb); clear ho r5 hb)
    all_goals (go_wp2_with fail; go_meet; exact ⟨_, _, rfl, rfl, R5, HB5.out⟩)
  case' rest => obtain ⟨A1, c1, rfl, rfl, R1, hB1⟩ := hcut
  go_upto_region 2 with (fail)
  go_cut [3, 4] from 13 to 20 (fun v1 v2 wx => ∃ A c, v1 = .slice A 0 c ∧ v2 = .int .i64 0 ∧ Below w.heap.size w wx)
  case first =>
    go_region_with (go_at_call 38; (first | (with_reducible refine (Open_long (q := 0) (HK1.out _) (HO1.out _) (rd_nil _) (R1.out.below (HBW.out _ _ _)) HKB.out HOB.out nil_isB HBB.out (by omega) (by omega) (Z := 0) (L := []) ⟨.inl ⟨HBT.out, rfl, rfl⟩⟩).mono ?_) | (with_reducible refine (Open_long (q := 0) (HK2.out _) (HO2.out _) (rd_nil _) (R1.out.below (HBW.out _ _ _)) HKB.out HOB.out nil_isB HBB.out (by omega) (by omega) (Z := 0) (L := []) ⟨.inl ⟨HBT.out, rfl, rfl⟩⟩).mono ?_)); rintro y w5 ⟨v, rfl, ho, hb⟩; obtain ⟨A5, c5, rfl, r5⟩ := rd_of_own ho; have HB5 := Aside0.mk (below_next (below_next hB1 (HBW.out _ _ _)) hb); clear ho r5 hb)
    all_goals (go_wp2_with fail; go_meet; exact ⟨_, _, rfl, rfl, HB5.out⟩)
  case' rest => obtain ⟨A3, c3, rfl, rfl, hB2⟩ := hcut
  clear hB1 R1
  go_upto_region 3 with (fail)
  go_cut [5, 6] from 20 to 26 (fun v1 v2 wx => v2 = .int .i64 3 ∧ Below w.heap.size w wx)
  case first =>
    go_region_with (go_at_call 38; (first | (with_reducible refine (Open_short (p := 0) (HK1.out _) (HO1.out _) (by omega)).mono ?_) | (with_reducible refine (Open_short (p := 0) (HK2.out _) (HO2.out _) (by omega)).mono ?_)); rintro y w5 ⟨rfl, hb⟩; have HB5 := Aside0.mk (below_next (below_next hB2 (HBW.out _ _ _)) hb); clear hb)
    all_goals (go_wp2_with fail; go_meet; exact ⟨rfl, HB5.out⟩)
  case' rest => obtain ⟨rfl, hB3⟩ := hcut
  go_wp2_with fail
  go_ret
  exact ⟨rfl, hB3⟩
end Go.Proofs.Ytkjmjgiklelpiaa.BxA
/- For the laws of box. -/
namespace Go.Proofs.Ytkjmjgiklelpiaa.BxL
open Go.RowKit Go.Proofs.YtkjmjgiklelpiaaW.PrintWords Go.Proofs.Ytkjmjgiklelpiaa.Num Go.Proofs.Ytkjmjgiklelpiaa.WordC Go.Proofs.Ytkjmjgiklelpiaa.Arr Go.Proofs.Ytkjmjgiklelpiaa.App Go.Proofs.Ytkjmjgiklelpiaa.CiC Go.Proofs.Ytkjmjgiklelpiaa.CiD Go.Proofs.Ytkjmjgiklelpiaa.CiB Go.Proofs.Ytkjmjgiklelpiaa.CiK Go.Proofs.Ytkjmjgiklelpiaa.CiL Go.Proofs.Ytkjmjgiklelpiaa.CiM Go.Proofs.Ytkjmjgiklelpiaa.MxA Go.Proofs.Ytkjmjgiklelpiaa.MxB Go.Proofs.Ytkjmjgiklelpiaa.MxC Go.Proofs.Ytkjmjgiklelpiaa.OtS Go.Proofs.Ytkjmjgiklelpiaa.OtU Go.Proofs.Ytkjmjgiklelpiaa.OtX Go.Proofs.Ytkjmjgiklelpiaa.OtH Go.Proofs.Ytkjmjgiklelpiaa.OtI Go.Proofs.Ytkjmjgiklelpiaa.OtJ Go.Proofs.Ytkjmjgiklelpiaa.OtP Go.Proofs.Ytkjmjgiklelpiaa.BxC Go.Proofs.Ytkjmjgiklelpiaa.BxT Go.Proofs.Ytkjmjgiklelpiaa.BxS Go.Proofs.Ytkjmjgiklelpiaa.BxO Go.Proofs.Ytkjmjgiklelpiaa.BxR Go.Proofs.Ytkjmjgiklelpiaa.BxA
set_option linter.unusedVariables false
set_option linter.unusedSimpArgs false

theorem load58 {ops : Array Oper} {rest : List Oper} {o : Oper} {a : Act} {W : World} {Q : Exit → Act → World → Prop} (hgd : o.guard = none) (x : Operand) (ho : o.op = .load 58 x)
    (g : Nat) (hx : a.eval x = .pointer (some ⟨g, 0, none⟩)) {cs : List Value} (hg : Blk W g 58 cs) (hl : cs.length = 4) (h : wpList Try.prog ops Q rest (a.put o.dst (.agg cs.toArray)) W) : wpList Try.prog ops Q (o :: rest) a W :=
  wpList_load_row hgd 58 x ho g hx 58 _ (0, 0) _ hg Try.underlying58 rfl (by rw [List.size_toArray, hl]; kernel_rfl) h
theorem store58 {ops : Array Oper} {rest : List Oper} {o : Oper} {a : Act} {W : World} {Q : Exit → Act → World → Prop} (hgd : o.guard = none) (x y : Operand) (ho : o.op = .store 58 x y)
    (g : Nat) (hx : a.eval x = .pointer (some ⟨g, 0, none⟩)) {cs old : List Value} (hy : a.eval y = .agg cs.toArray) (hg : Blk W g 58 old) (hl : cs.length = 4) (hold : old.length = 4) (h1 : ∀ v ∈ cs, v.oneCell' = true)
    (h : ∀ w', Blk w' g 58 cs → W.grownBy w' (some g) → wpList Try.prog ops Q rest (a.put o.dst undef) w') : wpList Try.prog ops Q (o :: rest) a W :=
  wpList_store_row hgd 58 x y ho g _ hx hy 58 old.toArray hg (by rw [List.size_toArray, hl]; kernel_rfl) (by simp [hl, hold]) (Array.all_eq_true_iff_forall_mem.2 (fun v hv => h1 v (by simpa using hv)))
    (h _ (setRow_heap W g _ _ 58 _ hg) ⟨rfl, rfl, rfl, by simp [World.setRow], fun j hj hne => setRow_other W g j _ (fun e => hne (by rw [e]))⟩)
theorem codeO_right {k o x b : List Int} (h : codeO k o x b = 0) : rightC k.length o.length = true ∧ 16 ≤ b.length ∧ tagB k o x (b.take (b.length - 16)) = b.drop (b.length - 16) := by
  unfold codeO at h
  split at h
  · rename_i h1
    split at h
    · cases h
    · rename_i h2
      split at h
      · rename_i h3
        exact ⟨h1, by omega, h3⟩
      · cases h
  · cases h
theorem back_c {k o x b : List Int} (h : rightC k.length o.length = true) (bx : IsB x) (bb : IsB b) : codeO k o x (sealL k o x b) = 0 ∧ outO k o x (sealL k o x b) = b := by
  have hl := sealL_length (k := k) (o := o) bx bb
  have e1 : (sealL k o x b).take ((sealL k o x b).length - 16) = mixL k o b := by
    rw [hl, Nat.add_sub_cancel]
    unfold sealL
    rw [List.take_append_of_le_length (by rw [mixL_length]; exact Nat.le_refl _), List.take_of_length_le (by rw [mixL_length]; exact Nat.le_refl _)]
  have e2 : (sealL k o x b).drop ((sealL k o x b).length - 16) = tagB k o x (mixL k o b) := by
    rw [hl, Nat.add_sub_cancel]
    unfold sealL
    rw [List.drop_append_of_le_length (by rw [mixL_length]; exact Nat.le_refl _), List.drop_of_length_le (by rw [mixL_length]; exact Nat.le_refl _), List.nil_append]
  have h0 : codeO k o x (sealL k o x b) = 0 := by
    unfold codeO
    rw [if_pos h, if_neg (by omega), e1, e2, if_pos rfl]
  refine ⟨h0, ?_⟩
  unfold outO
  rw [if_pos h0, e1, mixL_twice bb]
theorem form_c {k o x b : List Int} (h : codeO k o x b = 0) (bb : IsB b) : outS7 k o x (outO k o x b) = b := by
  obtain ⟨h1, h2, h3⟩ := codeO_right h
  have hb : IsB (b.take (b.length - 16)) := fun y hy => bb y (List.mem_of_mem_take hy)
  have e : outO k o x b = mixL k o (b.take (b.length - 16)) := by unfold outO; rw [if_pos h]
  unfold outS7
  rw [if_pos h1, e]
  unfold sealL
  rw [mixL_twice hb, h3, List.take_append_drop]
theorem outO_isB {k o x b : List Int} (bb : IsB b) : IsB (outO k o x b) := by
  unfold outO
  split
  · exact mixL_isB (fun y hy => bb y (List.mem_of_mem_take hy))
  · intro y hy; cases hy
theorem outO_length {k o x b : List Int} : (outO k o x b).length ≤ b.length := by
  unfold outO
  split
  · rw [mixL_length]; simp
  · simp
theorem outO_no {k o x b : List Int} (h : codeO k o x b ≠ 0) : outO k o x b = [] := by unfold outO; rw [if_neg h]
theorem wpList_max {ops : Array Oper} {rest : List Oper} {o : Oper} {a : Act} {w : World} {Q : Exit → Act → World → Prop} (hgd : o.guard = none) (x y : Operand)
    (ho : o.op = .call { callee := .builtin .max, args := #[x, y], argTypes := #[3, 3] }) (p q : Int) (hx : a.eval x = .int .i64 p) (hy : a.eval y = .int .i64 q) (m : Int) (hm : (if p < q then q else p) = m)
    (h : wpList Try.prog ops Q rest (a.put o.dst (.int .i64 m)) w) : wpList Try.prog ops Q (o :: rest) a w :=
  wpList_plain hgd fun _ hK => by
    subst hm
    unfold Oper.wp
    simp [execOp, ho, resolve, invoke, builtin, hx, hy, Go.Proofs.YtkjmjgiklelpiaaW.PrintMore.max_two, Go.Proofs.YtkjmjgiklelpiaaW.PrintMore.max2_int, Result.andThen]
    exact hK _ _ h
end Go.Proofs.Ytkjmjgiklelpiaa.BxL
