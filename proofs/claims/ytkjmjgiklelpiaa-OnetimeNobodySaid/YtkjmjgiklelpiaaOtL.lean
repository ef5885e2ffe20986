/- onetime.least: plain. -/
import Derived.Test.YtkjmjgiklelpiaaApp
import Derived.Test.YtkjmjgiklelpiaaQuart
import Derived.Test.YtkjmjgiklelpiaaPlainCipherBlocks
import Derived.Deep.RegionHeld3
import Derived.Deep.Cut
import Derived.Deep.CutRange
import Derived.Test.YtkjmjgiklelpiaaOtR
namespace Go.Proofs.Ytkjmjgiklelpiaa.OtL
open Go.RowKit Go.Proofs.YtkjmjgiklelpiaaW.PrintWords Go.Proofs.Ytkjmjgiklelpiaa.Num Go.Proofs.Ytkjmjgiklelpiaa.WordC Go.Proofs.Ytkjmjgiklelpiaa.Arr Go.Proofs.Ytkjmjgiklelpiaa.App Go.Proofs.Ytkjmjgiklelpiaa.CiC Go.Proofs.Ytkjmjgiklelpiaa.OtC Go.Proofs.Ytkjmjgiklelpiaa.OtR
set_option linter.unusedVariables false
set_option linter.unusedSimpArgs false

/-- Five more, and the carries. -/
def mst (l : List Int) : Nat → List Int
  | 0 => l.set 0 (l.getD 0 0 + 5)
  | i + 1 => ((mst l i).set (i + 1) ((mst l i).getD (i + 1) 0 + (mst l i).getD i 0 / 67108864)).set i ((mst l i).getD i 0 % 67108864)
def overS (l : List Int) : Int := (mst l 4).getD 4 0 / 67108864
def moreS (l : List Int) : List Int := (mst l 4).set 4 ((mst l 4).getD 4 0 % 67108864)
def pickS (l : List Int) : List Int := if overS l = 0 then l else moreS l
def leastS (a : List Int) : List Int := pickS (carS (carS a))
/-- Limbs as carried leaves them. -/
def Low (l : List Int) : Prop := ∃ a b c d e : Int, l = [a, b, c, d, e] ∧ (0 ≤ a ∧ a < 67108864) ∧ (0 ≤ b ∧ b < 67174400) ∧ (0 ≤ c ∧ c < 67108864) ∧ (0 ≤ d ∧ d < 67108864) ∧ (0 ≤ e ∧ e < 67108864)
theorem carS_low {d : List Int} (hl : d.length = 5) (h : IsL d) : Low (carS d) := by
  have hok := (cst_ok h 5).2
  match d, hl with
  | [a, b, c, d, e], _ =>
    have ha := h a (by simp)
    have hb := h b (by simp)
    have hc := h c (by simp)
    have hd := h d (by simp)
    have he := h e (by simp)
    refine ⟨_, _, _, _, _, rfl, ?_⟩
    simp [cst]
    omega
theorem Low.isL {l : List Int} (h : Low l) : IsL l := by
  obtain ⟨a, b, c, d, e, rfl, h1, h2, h3, h4, h5⟩ := h
  intro x hx
  simp at hx
  omega
theorem Low.length {l : List Int} (h : Low l) : l.length = 5 := by
  obtain ⟨a, b, c, d, e, rfl, _⟩ := h; rfl
theorem overS_01 {l : List Int} (h : Low l) : overS l = 0 ∨ overS l = 1 := by
  obtain ⟨a, b, c, d, e, rfl, h1, h2, h3, h4, h5⟩ := h
  simp [overS, mst]
  omega
theorem mst_ok {l : List Int} (h : Low l) (i : Nat) (hi : i ≤ 4) : (mst l i).length = 5 ∧ ∀ j, 0 ≤ (mst l i).getD j 0 ∧ (mst l i).getD j 0 < 4294967296 := by
  obtain ⟨a, b, c, d, e, rfl, h1, h2, h3, h4, h5⟩ := h
  have hc : i = 0 ∨ i = 1 ∨ i = 2 ∨ i = 3 ∨ i = 4 := by omega
  rcases hc with rfl | rfl | rfl | rfl | rfl <;> refine ⟨by simp [mst], fun j => ?_⟩ <;>
  · have hj : j = 0 ∨ j = 1 ∨ j = 2 ∨ j = 3 ∨ j = 4 ∨ 5 ≤ j := by omega
    rcases hj with rfl | rfl | rfl | rfl | rfl | hj
    all_goals first
      | (simp [mst]; omega)
      | (rw [List.getD_eq_getElem?_getD, List.getElem?_eq_none (by simp [mst]; omega)]; simp)
theorem andNot0 (x : Int) (h0 : 0 ≤ x) (h1 : x < 18446744073709551616) : Go.bits .andNot .u64 x 0 = x := by
  obtain ⟨X, rfl⟩ := Int.eq_ofNat_of_zero_le h0
  rw [show (0 : Int) = ((0 : Nat) : Int) from rfl, u64_andNot_nat X 0 (by omega) (by omega)]
  rw [show (18446744073709551615 - 0 : Nat) = 2 ^ 64 - 1 from rfl, Nat.and_two_pow_sub_one_eq_mod, Nat.mod_eq_of_lt (by omega)]
theorem andNot1 (x : Int) (h0 : 0 ≤ x) (h1 : x < 18446744073709551616) : Go.bits .andNot .u64 x 18446744073709551615 = 0 := by
  obtain ⟨X, rfl⟩ := Int.eq_ofNat_of_zero_le h0
  rw [show (18446744073709551615 : Int) = ((18446744073709551615 : Nat) : Int) from rfl, u64_andNot_nat X _ (by omega) (by omega)]; simp
theorem and0 (x : Int) (h0 : 0 ≤ x) (h1 : x < 18446744073709551616) : Go.bits .and .u64 x 0 = 0 := by
  obtain ⟨X, rfl⟩ := Int.eq_ofNat_of_zero_le h0
  rw [show (0 : Int) = ((0 : Nat) : Int) from rfl, u64_and_nat X 0 (by omega) (by omega)]; simp
theorem and1 (x : Int) (h0 : 0 ≤ x) (h1 : x < 18446744073709551616) : Go.bits .and .u64 x 18446744073709551615 = x := by
  obtain ⟨X, rfl⟩ := Int.eq_ofNat_of_zero_le h0
  rw [show (18446744073709551615 : Int) = ((18446744073709551615 : Nat) : Int) from rfl, u64_and_nat X _ (by omega) (by omega)]
  rw [show (18446744073709551615 : Nat) = 2 ^ 64 - 1 from rfl, Nat.and_two_pow_sub_one_eq_mod, Nat.mod_eq_of_lt (by omega)]
theorem or0 (x : Int) (h0 : 0 ≤ x) (h1 : x < 18446744073709551616) : Go.bits .or .u64 x 0 = x := by
  obtain ⟨X, rfl⟩ := Int.eq_ofNat_of_zero_le h0
  rw [show (0 : Int) = ((0 : Nat) : Int) from rfl, u64_or_nat X 0 (by omega) (by omega)]; simp
theorem or1 (x : Int) (h0 : 0 ≤ x) (h1 : x < 18446744073709551616) : Go.bits .or .u64 0 x = x := by
  obtain ⟨X, rfl⟩ := Int.eq_ofNat_of_zero_le h0
  rw [show (0 : Int) = ((0 : Nat) : Int) from rfl, u64_or_nat 0 X (by omega) (by omega)]; simp
theorem moreS_ok {l : List Int} (h : Low l) (j : Nat) : 0 ≤ (moreS l).getD j 0 ∧ (moreS l).getD j 0 < 4294967296 := by
  have hm := mst_ok h 4 (Nat.le_refl _)
  unfold moreS
  by_cases hj : j = 4
  · subst hj
    have h4 := hm.2 4
    rw [List.getD_eq_getElem?_getD, List.getElem?_set_self (by rw [hm.1]; decide), Option.getD_some]
    omega
  · rw [List.getD_eq_getElem?_getD, List.getElem?_set_ne (by omega), ← List.getD_eq_getElem?_getD]
    exact hm.2 j
theorem low_lt {l : List Int} (h : Low l) (j : Nat) : 0 ≤ l.getD j 0 ∧ l.getD j 0 < 4294967296 := by
  have h5 := h.length
  obtain ⟨a, b, c, d, e, rfl, h1, h2, h3, h4, h5⟩ := h
  have hj : j = 0 ∨ j = 1 ∨ j = 2 ∨ j = 3 ∨ j = 4 ∨ 5 ≤ j := by omega
  rcases hj with rfl | rfl | rfl | rfl | rfl | hj
  all_goals first
    | (simp; omega)
    | (rw [List.getD_eq_getElem?_getD, List.getElem?_eq_none (by simpa using hj)]; simp)
theorem set_take_drop (p a : List Int) (t : Nat) (hp : t < p.length) (ha : t < a.length) : (p.take t ++ a.drop t).set t (p.getD t 0) = p.take (t + 1) ++ a.drop (t + 1) := by
  have hl : (p.take t).length = t := by rw [List.length_take]; omega
  have e : p.take (t + 1) = p.take t ++ [p[t]] := by
    rw [List.take_add_one, List.getElem?_eq_getElem hp]; rfl
  rw [e, List.set_append_right _ _ (by omega), hl, Nat.sub_self, List.drop_eq_getElem_cons ha, List.set_cons_zero, List.getD_eq_getElem?_getD, List.getElem?_eq_getElem hp]
  rw [List.append_assoc]; rfl
end Go.Proofs.Ytkjmjgiklelpiaa.OtL
