/- Plain facts on the printed functions of NonceTakes: what each gives at every input that comes up, told in the words of YtlaoodlfkcnnnaaNum. -/
import Derived.Test.YtlaoodlfkcnnnaaPNonceTakesx1
import Derived.Test.YtlaoodlfkcnnnaaPNonceTakesx2
import Derived.Test.YtlaoodlfkcnnnaaNum
namespace Go.Proofs.Ytlaoodlfkcnnnaa.PlainNonceTakes
open Go.RowKit Go.Proofs.Ytlaoodlfkcnnnaa.PNonceTakes Go.Proofs.YtlaoodlfkcnnnaaW.PrintWords Go.Proofs.Ytlaoodlfkcnnnaa.Num
set_option linter.unusedVariables false
theorem Back_l (l : List Int) (hn : l.length ≤ 140737488351232) : ∀ (i k : Nat) (out : List Int), i ≤ l.length → out.length + i ≤ l.length → i < k →
    hypogeumref01_Back.l0 k l out ((i : Int) - 1) = some (out ++ (l.take i).reverse) := by
  intro i
  induction i with
  | zero =>
    intro k out _ _ hk
    obtain ⟨k, rfl⟩ : ∃ m, k = m + 1 := ⟨k - 1, by omega⟩
    simp only [hypogeumref01_Back.l0]
    rw [if_neg (by omega)]; simp
  | succ i ih =>
    intro k out hi ho hk
    obtain ⟨k, rfl⟩ : ∃ m, k = m + 1 := ⟨k - 1, by omega⟩
    simp only [hypogeumref01_Back.l0]
    rw [if_pos (by omega), if_pos (by omega), if_pos (by omega), if_pos (by omega)]
    rw [show wrap64 (((i + 1 : Nat) : Int) - 1 - 1) = (i : Int) - 1 by unfold wrap64; omega]
    rw [ih k _ (by omega) (by simp; omega) (by omega)]
    rw [List.take_add_one, List.getElem?_eq_getElem (by omega)]
    simp only [rd, Option.toList_some, List.reverse_append, List.reverse_cons, List.reverse_nil, List.nil_append, List.append_assoc, List.cons_append]
    rw [show (((i + 1 : Nat) : Int) - 1).toNat = i by omega, List.getD_eq_getElem?_getD, List.getElem?_eq_getElem (by omega)]
    rfl
theorem Back_eq (l : List Int) (hn : l.length ≤ 140737488351232) (k : Nat) (hk : l.length < k) : hypogeumref01_Back.f k l = some l.reverse := by
  unfold hypogeumref01_Back.f
  rw [show wrap64 ((l.length : Int) - 1) = (l.length : Int) - 1 by unfold wrap64; omega, Back_l l hn l.length k [] (by omega) (by simp) hk]
  simp
theorem Told_l (n : Int) (h0 : 0 ≤ n) (h1 : n < 18446744073709551616) : ∀ (d i k sz : Nat) (x : Int) (out : List Int), 0 ≤ x → x < 18446744073709551616 → i + d = sz → sz ≤ 1000 → out.length = i → sz + d + 1 < k →
    hypogeumref01_Told.l0 k x (sz : Int) out (i : Int) = some (told d x ++ out.reverse) := by
  intro d
  induction d with
  | zero =>
    intro i k sz x out hx0 hx1 hi hs ho hk
    obtain ⟨k, rfl⟩ : ∃ m, k = m + 1 := ⟨k - 1, by omega⟩
    simp only [hypogeumref01_Told.l0]
    rw [if_neg (by omega), Back_eq out (by omega) k (by omega)]
    simp [told]
  | succ d ih =>
    intro i k sz x out hx0 hx1 hi hs ho hk
    obtain ⟨k, rfl⟩ : ∃ m, k = m + 1 := ⟨k - 1, by omega⟩
    simp only [hypogeumref01_Told.l0]
    rw [if_pos (by omega), if_pos (by omega), show wrap64 ((i : Int) + 1) = ((i + 1 : Nat) : Int) by unfold wrap64; omega]
    rw [IntKind.wrap_u64, Int.tdiv_eq_ediv_of_nonneg hx0, Int.tmod_eq_emod_of_nonneg hx0, Int.emod_eq_of_lt (by omega) (by omega), Int.emod_emod]
    rw [ih (i + 1) k sz (x / 256) _ (by omega) (by omega) (by omega) hs (by simp; omega) (by omega)]
    simp [told]
theorem Told_eq (n : Int) (h0 : 0 ≤ n) (h1 : n < 18446744073709551616) (sz : Nat) (hs : sz ≤ 1000) (k : Nat) (hk : 2002 ≤ k) : hypogeumref01_Told.f k n (sz : Int) = some (told sz n) := by
  unfold hypogeumref01_Told.f
  have := Told_l n h0 h1 sz 0 k sz n [] h0 h1 (by omega) hs rfl (by omega)
  simpa using this
theorem refRightW_eq (e n : Int) : hypogeumref10_Right.f e n = some (rightW e n) := by
  unfold hypogeumref10_Right.f rightW
  by_cases h1 : e ≥ 0 <;> by_cases h2 : e ≤ 64 <;> by_cases h3 : n ≥ 0 <;> simp [h1, h2, h3] <;> omega
theorem refOf_eq (e n : Int) (k : Nat) (hk : 2002 ≤ k) : hypogeumref10_Of.f k e n = some (if rightW e n = true then (told 4 e ++ told 8 n, 0) else ([], 1)) := by
  unfold hypogeumref10_Of.f
  rw [refRightW_eq]
  simp only [Option.bind_some]
  by_cases h : rightW e n = true
  · rw [if_pos h, if_pos h]
    have hr := rightW_iff.1 h
    have h4 := Told_eq e hr.1 (by omega) 4 (by omega) k hk
    have h8 := Told_eq n hr.2.2.1 (by omega) 8 (by omega) k hk
    rw [show ((4 : Nat) : Int) = 4 from rfl] at h4
    rw [show ((8 : Nat) : Int) = 8 from rfl] at h8
    rw [IntKind.wrap_u64, IntKind.wrap_u64, Int.emod_eq_of_lt hr.1 (by omega), Int.emod_eq_of_lt hr.2.2.1 (by omega), h4]
    simp only [Option.bind_some]
    rw [h8]
    simp only [Option.bind_some]
    rw [if_pos (by simp [told_length])]
  · rw [if_neg h, if_neg h]
theorem refTake_l (e l : Int) (h0 : 0 ≤ e) (h1 : e ≤ 64) (h2 : 0 ≤ l) : ∀ (d i k m : Nat) (out : List (List Int)), i + d = m → m ≤ 4096 → l + m ≤ 1099511627776 → out.length = i → 2002 + d < k →
    hypogeumref10_Take.l0 k e l (m : Int) out ((i : Int) + 1) = some (out ++ (List.range d).map (fun j => told 4 e ++ told 8 (l + 1 + ((i + j : Nat) : Int))), l + m, 0) := by
  intro d
  induction d with
  | zero =>
    intro i k m out hi hm hl ho hk
    obtain ⟨k, rfl⟩ : ∃ m, k = m + 1 := ⟨k - 1, by omega⟩
    simp only [hypogeumref10_Take.l0]
    rw [if_neg (by omega), show wrap64 (l + (m : Int)) = l + m by unfold wrap64; omega]
    simp
  | succ d ih =>
    intro i k m out hi hm hl ho hk
    obtain ⟨k, rfl⟩ : ∃ m, k = m + 1 := ⟨k - 1, by omega⟩
    simp only [hypogeumref10_Take.l0]
    rw [if_pos (by omega), show wrap64 (l + ((i : Int) + 1)) = l + 1 + i by unfold wrap64; omega, refOf_eq _ _ k (by omega), if_pos (rightW_iff.2 ⟨h0, h1, by omega, by omega⟩)]
    simp only [Option.bind_some]
    rw [if_pos (by omega), show wrap64 ((i : Int) + 1 + 1) = ((i + 1 : Nat) : Int) + 1 by unfold wrap64; omega, ih (i + 1) k m _ (by omega) hm hl (by simp; omega) (by omega)]
    rw [List.range_succ_eq_map]
    simp only [List.map_cons, List.map_map, List.append_assoc, List.cons_append, List.nil_append]
    simp only [Nat.add_zero]
    congr 5
    funext j
    simp only [Function.comp]
    rw [show i + 1 + j = i + (j + 1) by omega]
theorem refTake_yes (e l : Int) (m : Nat) (h0 : 0 ≤ e) (h1 : e ≤ 64) (h2 : 0 ≤ l) (hm : m ≤ 4096) (hl : l + m ≤ 1099511627776) : hypogeumref10_Take.f 8000 e l (m : Int) = some ((List.range m).map (fun j => told 4 e ++ told 8 (l + 1 + (j : Nat))), l + m, 0) := by
  unfold hypogeumref10_Take.f
  rw [refRightW_eq, rightW_iff.2 ⟨h0, h1, h2, by omega⟩]
  simp only [Option.bind_some, if_true]
  rw [if_neg (by omega), show decide ((m : Int) > 4096) = false by simp; omega]
  rw [show (8000 : Nat) = 7999 + 1 from rfl]
  simp only [hypogeumref10_Take.j0]
  rw [if_neg (by simp), show wrap64 (l + (m : Int)) = l + m by unfold wrap64; omega, if_neg (by omega)]
  have := refTake_l e l h0 h1 h2 m 0 7999 m [] (by omega) hm hl rfl (by omega)
  rw [show (((0 : Nat) : Int) + 1) = 1 from rfl] at this
  simpa only [Nat.zero_add, List.nil_append] using this
theorem refTake_arg (e l z : Int) (h : ¬ (rightW e l = true ∧ 0 ≤ z ∧ z ≤ 4096)) : hypogeumref10_Take.f 1 e l z = some ([], 0, 1) := by
  unfold hypogeumref10_Take.f
  rw [refRightW_eq]
  simp only [Option.bind_some]
  by_cases h1 : rightW e l = true
  · rw [if_pos h1]
    by_cases h2 : z < 0
    · rw [if_pos h2]; rfl
    · rw [if_neg h2, show decide (z > 4096) = true by simp; exact Int.not_le.1 (fun h3 => h ⟨h1, by omega, h3⟩)]; rfl
  · rw [if_neg h1]; rfl
theorem refTake_cap (e l z : Int) (h : rightW e l = true) (h0 : 0 ≤ z) (h1 : z ≤ 4096) (h2 : 1099511627776 < l + z) : hypogeumref10_Take.f 1 e l z = some ([], 0, 10) := by
  have hr := rightW_iff.1 h
  unfold hypogeumref10_Take.f
  rw [refRightW_eq, h]
  simp only [Option.bind_some, if_true]
  rw [if_neg (by omega), show decide (z > 4096) = false by simp; omega]
  simp only [hypogeumref10_Take.j0]
  rw [if_neg (by simp), show wrap64 (l + z) = l + z by unfold wrap64; omega, if_pos (by omega)]
end Go.Proofs.Ytlaoodlfkcnnnaa.PlainNonceTakes
