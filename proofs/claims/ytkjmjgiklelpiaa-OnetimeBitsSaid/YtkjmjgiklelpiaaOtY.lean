/- onetime: bits that are nought in r; an array that came in. -/
import Derived.Test.YtkjmjgiklelpiaaApp
import Derived.Test.YtkjmjgiklelpiaaQuart
import Derived.Test.YtkjmjgiklelpiaaPlainCipherBlocks
import Derived.Deep.RegionHeld3
import Derived.Deep.Cut
import Derived.Deep.CutRange
import Derived.Test.YtkjmjgiklelpiaaOtMb
import Derived.OpenShut
import Derived.Outline
namespace Go.Proofs.Ytkjmjgiklelpiaa.OtY
open Go.RowKit Go.Proofs.YtkjmjgiklelpiaaW.PrintWords Go.Proofs.Ytkjmjgiklelpiaa.Num Go.Proofs.Ytkjmjgiklelpiaa.WordC Go.Proofs.Ytkjmjgiklelpiaa.Arr Go.Proofs.Ytkjmjgiklelpiaa.App Go.Proofs.Ytkjmjgiklelpiaa.CiC Go.Proofs.Ytkjmjgiklelpiaa.CiD Go.Proofs.Ytkjmjgiklelpiaa.OtC Go.Proofs.Ytkjmjgiklelpiaa.OtR Go.Proofs.Ytkjmjgiklelpiaa.OtL Go.Proofs.Ytkjmjgiklelpiaa.OtM Go.Proofs.Ytkjmjgiklelpiaa.OtT Go.Proofs.Ytkjmjgiklelpiaa.OtV Go.Proofs.Ytkjmjgiklelpiaa.OtK Go.Proofs.Ytkjmjgiklelpiaa.OtN Go.Proofs.Ytkjmjgiklelpiaa.OtO Go.Proofs.Ytkjmjgiklelpiaa.OtP Go.Proofs.Ytkjmjgiklelpiaa.OtQ Go.Proofs.Ytkjmjgiklelpiaa.OtS Go.Proofs.Ytkjmjgiklelpiaa.OtU Go.Proofs.Ytkjmjgiklelpiaa.OtD Go.Proofs.Ytkjmjgiklelpiaa.OtE Go.Proofs.Ytkjmjgiklelpiaa.OtF Go.Proofs.Ytkjmjgiklelpiaa.OtG Go.Proofs.Ytkjmjgiklelpiaa.OtH Go.Proofs.Ytkjmjgiklelpiaa.OtI Go.Proofs.Ytkjmjgiklelpiaa.OtJ Go.Proofs.Ytkjmjgiklelpiaa.OtX
set_option linter.unusedVariables false
set_option linter.unusedSimpArgs false

/-- An array of bytes that came in by value. -/
theorem open_arr {H : Type} {enc : TypeId × Value → H} {P : Program} {W : World} {base b0 : Nat} {sp : Nat → Bool} {held : Bool} {r : Reach} {t e n : Nat} {v : Value} {d : DataW H} {p : List MemPlace} (ht : P.underlying t = some (.array n e)) (he : P.underlying e = some (.int .u8)) (hce : P.cellsOf e = 1) (hct : P.cellsOf t = n)
    (hv : Value.okWide P W r b0 t v) (h : DataW.Trod enc P W base sp held t v d p) : ∃ l : List Int, v = .agg (nums .u8 l).toArray ∧ l.length = n ∧ IsB l := by
  simp only [Value.okWide, ht] at hv
  obtain ⟨cs, rfl, hsz, _⟩ := hv
  obtain ⟨fuel, hf⟩ := h
  obtain ⟨xs, m, _, _, hlen, hxl, hel⟩ := DataW.trod_array ht hf
  simp only [Value.cells] at hlen hel
  have g : ∀ i, i < n → ∃ a : Int, cs.toList[i]? = some (.int .u8 a) ∧ 0 ≤ a ∧ a < 256 := by
    intro i hi
    have hx := hel i hi
    rw [hce, Nat.mul_one, List.getElem?_eq_getElem (by omega)] at hx
    obtain ⟨a, ea, _, wa⟩ := DataW.trod_int he hx
    have hb := wf_u8 wa
    refine ⟨a, ?_, hb.1, hb.2⟩
    have h2 := congrArg (fun l => l[0]?) ea
    simpa [List.getElem?_take, List.getElem?_drop] using h2
  have hn : cs.toList.length = n := by rw [hlen, hct]
  refine ⟨cs.toList.map (fun v => match v with | .int _ a => a | _ => 0), ?_, by rw [List.length_map]; exact hn, ?_⟩
  · congr 1
    apply Array.ext'
    apply List.ext_getElem?
    intro i
    simp only [nums, List.map_map, List.getElem?_map]
    by_cases hi : i < n
    · obtain ⟨a, ha, _⟩ := g i hi
      rw [ha]; rfl
    · rw [List.getElem?_eq_none (by omega)]; rfl
  · intro x hx
    obtain ⟨y, hy, rfl⟩ := List.mem_map.1 hx
    obtain ⟨i, hi, rfl⟩ := List.mem_iff_getElem.1 hy
    obtain ⟨a, ha, h0, h1⟩ := g i (by omega)
    rw [List.getElem?_eq_getElem hi] at ha
    injection ha with ha
    rw [ha]
    exact ⟨h0, h1⟩
theorem ow_set {w : World} {base gx gn n c : Nat} {xs : List Int} (h : Ow w base (.slice (some ⟨gn, 0, none⟩) n c) xs) (hne : gn ≠ gx) (i : Nat) (u : Value) : Ow (w.setCell ⟨gx, i, none⟩ u) base (.slice (some ⟨gn, 0, none⟩) n c) xs :=
  Kd.R_mono (Kd.R_step (Kd.R_tight rfl h) (fun k hk _ => Below.heap_setCell w _ u k (by
    have : k = gn := by simpa [Value.ownBlock] using hk
    rw [this]; exact hne))) (fun _ _ => trivial)
theorem ow_cell {w : World} {base g n cap : Nat} {l : List Int} (h : Ow w base (.slice (some ⟨g, 0, none⟩) n cap) l) (i : Nat) (hi : i < n) : w.cell? ⟨g, i, none⟩ = some (.int .u8 (l.getD i 0)) ∧ w.frozen? ⟨g, i, none⟩ = false := Kd.R_celln (0 : Int) h (i : Int) (by omega) (by omega)
theorem ow_put {w : World} {base g n cap : Nat} {l : List Int} (h : Ow w base (.slice (some ⟨g, 0, none⟩) n cap) l) (i : Nat) (x : Int) : Ow (w.setCell ⟨g, i, none⟩ (.int .u8 x)) base (.slice (some ⟨g, 0, none⟩) n cap) (l.set i x) := Kd.R_putn h (i : Int) x
/-! ### bits that are 0 in r -/
def mask (i : Nat) : Int := if i % 4 = 3 then 240 else if i % 4 = 0 ∧ 0 < i then 3 else 0
def xT (k t : List Int) : Nat → List Int
  | 0 => k
  | i + 1 => (xT k t i).set i (Go.bits .xor .u8 ((xT k t i).getD i 0) (Go.bits .and .u8 (t.getD i 0) (mask i)))
def nT (k t : List Int) : Nat → List Int
  | 0 => k
  | i + 1 => (nT k t i).set i (Go.bits .and .u8 (t.getD i 0) (mask i))
theorem xT_length (k t : List Int) (n : Nat) : (xT k t n).length = k.length := by
  induction n with
  | zero => rfl
  | succ n ih => simp [xT, ih]
theorem nT_length (k t : List Int) (n : Nat) : (nT k t n).length = k.length := by
  induction n with
  | zero => rfl
  | succ n ih => simp [nT, ih]
theorem getD_set (l : List Int) (i m : Nat) (x : Int) (hi : i < l.length) : (l.set i x).getD m 0 = if m = i then x else l.getD m 0 := by
  rw [List.getD_eq_getElem?_getD]
  by_cases h : m = i
  · subst h; rw [if_pos rfl, List.getElem?_set_self hi]; rfl
  · rw [if_neg h, List.getElem?_set_ne (Ne.symm h), ← List.getD_eq_getElem?_getD]
theorem nT_get (k t : List Int) (hk : k.length = 32) (n m : Nat) (hn : n ≤ 16) : (nT k t n).getD m 0 = if m < n then Go.bits .and .u8 (t.getD m 0) (mask m) else k.getD m 0 := by
  induction n with
  | zero => rfl
  | succ n ih =>
    simp only [nT]
    rw [getD_set _ _ _ _ (by rw [nT_length]; omega), ih (by omega)]
    by_cases h : m = n
    · subst h; rw [if_pos rfl, if_pos (by omega)]
    · rw [if_neg h]
      by_cases h2 : m < n
      · rw [if_pos h2, if_pos (by omega)]
      · rw [if_neg h2, if_neg (by omega)]
theorem xT_get (k t : List Int) (hk : k.length = 32) (n m : Nat) (hn : n ≤ 16) : (xT k t n).getD m 0 = if m < n then Go.bits .xor .u8 (k.getD m 0) (Go.bits .and .u8 (t.getD m 0) (mask m)) else k.getD m 0 := by
  induction n with
  | zero => rfl
  | succ n ih =>
    simp only [xT]
    rw [getD_set _ _ _ _ (by rw [xT_length]; omega), ih (by omega)]
    by_cases h : m = n
    · subst h
      have h2 := ih (by omega)
      rw [if_neg (by omega)] at h2
      rw [if_pos rfl, if_pos (by omega), h2]
    · rw [if_neg h]
      by_cases h2 : m < n
      · rw [if_pos h2, if_pos (by omega)]
      · rw [if_neg h2, if_neg (by omega)]
def cutF (i : Nat) (y : Int) : Int := if i % 4 = 3 then y % 16 else if i % 4 = 0 ∧ 0 < i then y - y % 4 else y
theorem cutS_get (b : List Int) (hb : b.length = 16) (i : Nat) (hi : i < 16) : (cutS b).getD i 0 = cutF i (b.getD i 0) := by
  match b, hb with
  | [b0, b1, b2, b3, b4, b5, b6, b7, b8, b9, b10, b11, b12, b13, b14, b15], _ =>
    have h : i = 0 ∨ i = 1 ∨ i = 2 ∨ i = 3 ∨ i = 4 ∨ i = 5 ∨ i = 6 ∨ i = 7 ∨ i = 8 ∨ i = 9 ∨ i = 10 ∨ i = 11 ∨ i = 12 ∨ i = 13 ∨ i = 14 ∨ i = 15 := by omega
    rcases h with rfl | rfl | rfl | rfl | rfl | rfl | rfl | rfl | rfl | rfl | rfl | rfl | rfl | rfl | rfl | rfl <;> rfl
theorem and240 : ∀ t : Fin 256, Go.bits .and .u8 (t.1 : Int) 240 = 16 * ((t.1 / 16 : Nat) : Int) := by decide +kernel
theorem and3 : ∀ t : Fin 256, Go.bits .and .u8 (t.1 : Int) 3 = ((t.1 % 4 : Nat) : Int) := by decide +kernel
theorem andz : ∀ t : Fin 256, Go.bits .and .u8 (t.1 : Int) 0 = 0 := by decide +kernel
theorem xor16 : ∀ y : Fin 256, ∀ q : Fin 16, 0 ≤ Go.bits .xor .u8 (y.1 : Int) (16 * (q.1 : Int)) ∧ Go.bits .xor .u8 (y.1 : Int) (16 * (q.1 : Int)) < 256 ∧ Go.bits .xor .u8 (y.1 : Int) (16 * (q.1 : Int)) % 16 = (y.1 : Int) % 16 := by decide +kernel
theorem xor4 : ∀ y : Fin 256, ∀ q : Fin 4, 0 ≤ Go.bits .xor .u8 (y.1 : Int) (q.1 : Int) ∧ Go.bits .xor .u8 (y.1 : Int) (q.1 : Int) < 256 ∧ Go.bits .xor .u8 (y.1 : Int) (q.1 : Int) / 4 = (y.1 : Int) / 4 := by decide +kernel
theorem xor0 : ∀ y : Fin 256, Go.bits .xor .u8 (y.1 : Int) 0 = (y.1 : Int) := by decide +kernel
theorem turn_ok (i : Nat) (y t : Int) (hy : 0 ≤ y ∧ y < 256) (ht : 0 ≤ t ∧ t < 256) :
    (0 ≤ Go.bits .and .u8 t (mask i) ∧ Go.bits .and .u8 t (mask i) < 256) ∧ (0 ≤ Go.bits .xor .u8 y (Go.bits .and .u8 t (mask i)) ∧ Go.bits .xor .u8 y (Go.bits .and .u8 t (mask i)) < 256) ∧
    cutF i (Go.bits .xor .u8 y (Go.bits .and .u8 t (mask i))) = cutF i y ∧ cutF i (Go.bits .and .u8 t (mask i)) = 0 := by
  obtain ⟨Y, rfl⟩ := Int.eq_ofNat_of_zero_le hy.1
  obtain ⟨T, rfl⟩ := Int.eq_ofNat_of_zero_le ht.1
  have hY : Y < 256 := by omega
  have hT : T < 256 := by omega
  unfold mask cutF
  by_cases h3 : i % 4 = 3
  · rw [if_pos h3, if_pos h3, if_pos h3, if_pos h3]
    have e1 := and240 ⟨T, hT⟩
    have e2 := xor16 ⟨Y, hY⟩ ⟨T / 16, by omega⟩
    simp only [] at e1 e2
    rw [e1]
    omega
  · rw [if_neg h3, if_neg h3, if_neg h3, if_neg h3]
    by_cases h0 : i % 4 = 0 ∧ 0 < i
    · rw [if_pos h0, if_pos h0, if_pos h0, if_pos h0]
      have e1 := and3 ⟨T, hT⟩
      have e2 := xor4 ⟨Y, hY⟩ ⟨T % 4, by omega⟩
      simp only [] at e1 e2
      rw [e1]
      omega
    · rw [if_neg h0, if_neg h0, if_neg h0, if_neg h0]
      have e1 := andz ⟨T, hT⟩
      have e2 := xor0 ⟨Y, hY⟩
      simp only [] at e1 e2
      rw [e1, e2]
      omega
theorem isB_of_get {l : List Int} (h : ∀ i, i < l.length → 0 ≤ l.getD i 0 ∧ l.getD i 0 < 256) : IsB l := by
  intro x hx
  obtain ⟨i, hi, rfl⟩ := List.mem_iff_getElem.1 hx
  have := h i hi
  rwa [List.getD_eq_getElem?_getD, List.getElem?_eq_getElem hi] at this
theorem xT_isB {k t : List Int} (hk : k.length = 32) (bk : IsB k) (bt : IsB t) (n : Nat) (hn : n ≤ 16) : IsB (xT k t n) := isB_of_get fun i _ => by
  rw [xT_get k t hk n i hn]
  have h := turn_ok i _ _ (getD_isB bk i) (getD_isB bt i)
  split
  · exact h.2.1
  · exact getD_isB bk i
theorem nT_isB {k t : List Int} (hk : k.length = 32) (bk : IsB k) (bt : IsB t) (n : Nat) (hn : n ≤ 16) : IsB (nT k t n) := isB_of_get fun i _ => by
  rw [nT_get k t hk n i hn]
  have h := turn_ok i _ _ (getD_isB bk i) (getD_isB bt i)
  split
  · exact h.1
  · exact getD_isB bk i
theorem getD_ext {a b : List Int} (hl : a.length = b.length) (h : ∀ i, i < a.length → a.getD i 0 = b.getD i 0) : a = b := by
  apply List.ext_getElem hl
  intro i h1 h2
  have := h i h1
  simpa [List.getD_eq_getElem?_getD, List.getElem?_eq_getElem h1, List.getElem?_eq_getElem h2] using this
theorem getD_take (l : List Int) (m i : Nat) (hi : i < m) : (l.take m).getD i 0 = l.getD i 0 := by rw [List.getD_eq_getElem?_getD, List.getElem?_take_of_lt hi, ← List.getD_eq_getElem?_getD]
theorem getD_drop (l : List Int) (m i : Nat) : (l.drop m).getD i 0 = l.getD (m + i) 0 := by rw [List.getD_eq_getElem?_getD, List.getElem?_drop, ← List.getD_eq_getElem?_getD]
theorem xT_cut {k t : List Int} (hk : k.length = 32) (bk : IsB k) (bt : IsB t) : cutS ((xT k t 16).take 16) = cutS (k.take 16) := by
  have l1 : ((xT k t 16).take 16).length = 16 := by rw [List.length_take, xT_length, hk]; rfl
  have l2 : (k.take 16).length = 16 := by rw [List.length_take, hk]; rfl
  refine getD_ext (by rw [cutS_length, cutS_length, l1, l2]) fun i hi => ?_
  rw [cutS_length, l1] at hi
  rw [cutS_get _ l1 i hi, cutS_get _ l2 i hi, getD_take _ _ _ hi, getD_take _ _ _ hi, xT_get k t hk 16 i (by omega), if_pos hi]
  exact (turn_ok i _ _ (getD_isB bk i) (getD_isB bt i)).2.2.1
theorem xT_drop {k t : List Int} (hk : k.length = 32) : (xT k t 16).drop 16 = k.drop 16 := by
  refine getD_ext (by rw [List.length_drop, List.length_drop, xT_length]) fun i _ => ?_
  rw [getD_drop, getD_drop, xT_get k t hk 16 _ (by omega), if_neg (by omega)]
theorem nT_drop {k t : List Int} (hk : k.length = 32) : (nT k t 16).drop 16 = k.drop 16 := by
  refine getD_ext (by rw [List.length_drop, List.length_drop, nT_length]) fun i _ => ?_
  rw [getD_drop, getD_drop, nT_get k t hk 16 _ (by omega), if_neg (by omega)]
theorem nT_cut {k t : List Int} (hk : k.length = 32) (bk : IsB k) (bt : IsB t) : dn (cutS ((nT k t 16).take 16)) 16 = 0 := by
  have l1 : ((nT k t 16).take 16).length = 16 := by rw [List.length_take, nT_length, hk]; rfl
  have h : dn (cutS ((nT k t 16).take 16)) 16 = dn [] 16 := dn_congr fun i hi => by
    rw [cutS_get _ l1 i hi, getD_take _ _ _ hi, nT_get k t hk 16 i (by omega), if_pos hi]
    exact (turn_ok i _ _ (getD_isB bk i) (getD_isB bt i)).2.2.2
  rw [h]
  simp [dn]
theorem hV_0 (b : List Int) (j : Nat) : hV 0 b j = 0 := by
  cases j with
  | zero => rfl
  | succ j => simp only [hV]; rw [Int.mul_zero]; rfl
theorem IsTag.x {k t b T : List Int} (hk : k.length = 32) (bk : IsB k) (bt : IsB t) (h : IsTag k b T) : IsTag (xT k t 16) b T := ⟨h.isB, h.len, by rw [h.val, xT_cut hk bk bt, xT_drop hk]⟩
theorem s_tag {k : List Int} (hk : k.length = 32) (bk : IsB k) : IsB (k.drop 16) ∧ (k.drop 16).length = 16 ∧ dn (k.drop 16) 16 = (0 + dn (k.drop 16) 16) % 340282366920938463463374607431768211456 := by
  have h : IsB (k.drop 16) := fun x hx => bk x (List.mem_of_mem_drop hx)
  have hr := dn_range h 16
  rw [show (256 : Int) ^ 16 = 340282366920938463463374607431768211456 from rfl] at hr
  refine ⟨h, by rw [List.length_drop, hk], ?_⟩
  rw [Int.zero_add]
  exact (Int.emod_eq_of_lt hr.1 hr.2).symm
theorem n_tag {k t b : List Int} (hk : k.length = 32) (bk : IsB k) (bt : IsB t) : IsTag (nT k t 16) b (k.drop 16) := by
  obtain ⟨h1, h2, h3⟩ := s_tag hk bk
  exact ⟨h1, h2, by rw [nT_cut hk bk bt, hV_0, nT_drop hk]; exact h3⟩
theorem no_tag {k : List Int} (hk : k.length = 32) (bk : IsB k) : IsTag k [] (k.drop 16) := by
  obtain ⟨h1, h2, h3⟩ := s_tag hk bk
  exact ⟨h1, h2, h3⟩
end Go.Proofs.Ytkjmjgiklelpiaa.OtY
