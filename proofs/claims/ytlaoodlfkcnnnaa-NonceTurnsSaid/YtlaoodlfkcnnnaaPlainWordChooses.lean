/- Plain facts on the printed functions of WordChooses: what each gives at every input that comes up, told in the words of YtlaoodlfkcnnnaaNum. -/
import Derived.Test.YtlaoodlfkcnnnaaPWordChoosesx1
import Derived.Test.YtlaoodlfkcnnnaaNum
namespace Go.Proofs.Ytlaoodlfkcnnnaa.PlainWordChooses
open Go.RowKit Go.Proofs.Ytlaoodlfkcnnnaa.PWordChooses Go.Proofs.YtlaoodlfkcnnnaaW.PrintWords Go.Proofs.Ytlaoodlfkcnnnaa.Num
set_option linter.unusedVariables false
theorem Load_eq (l : List Int) (hb : IsB l) (low : Bool) (k : Nat) (hk : 5 ≤ k) : word_Load.f k l low = some (loadW l low) := by
  obtain ⟨j, rfl⟩ : ∃ j, k = j + 5 := ⟨k - 5, by omega⟩
  unfold word_Load.f loadW
  by_cases h4 : l.length = 4
  · rw [if_pos (by omega), if_pos h4]
    match l, h4, hb with
    | [a, b, c, d], _, hb =>
      have ha := hb a (by simp)
      have hb' := hb b (by simp)
      have hc := hb c (by simp)
      have hd := hb d (by simp)
      cases low <;> simp only [word_Load.l0, wrap64, rd, be, List.length_cons, List.length_nil] <;> simp (disch := omega) [first32, join32]
  · rw [if_neg (by omega), if_neg h4]
theorem Long_eq (l : List Int) (hb : IsB l) (k : Nat) (hk : 9 ≤ k) : word_Long.f k l = some (longW l) := by
  obtain ⟨j, rfl⟩ : ∃ j, k = j + 9 := ⟨k - 9, by omega⟩
  unfold word_Long.f longW
  by_cases h8 : l.length = 8
  · rw [if_pos (by omega), if_pos h8]
    match l, h8, hb with
    | [a, b, c, d, e, f, g, h], _, hb =>
      have ha := hb a (by simp)
      have hb' := hb b (by simp)
      have hc := hb c (by simp)
      have hd := hb d (by simp)
      have he := hb e (by simp)
      have hf := hb f (by simp)
      have hg := hb g (by simp)
      have hh := hb h (by simp)
      simp only [word_Long.l0, wrap64, rd, be, List.length_cons, List.length_nil, IntKind.wrap_u64]
      simp (disch := omega) [first64, join64']
  · rw [if_neg (by omega), if_neg h8]
theorem Turn_eq (a n : Int) (h0 : 0 ≤ a) (h1 : a < 4294967296) : word_Turn.f a n = some (turn a n) := by
  unfold word_Turn.f
  rw [if_pos (by rw [mask5]; omega), if_pos (by rw [mask5, mask5]; omega), turn_shifts a n h0 h1]
theorem Choose_eq (b x y : Int) (h0 : 0 ≤ b) (h1 : b < 4294967296) (h2 : 0 ≤ x) (h3 : x < 4294967296) (h4 : 0 ≤ y) (h5 : y < 4294967296) : word_Choose.f b x y = some (if b = 0 then x else y) := by
  unfold word_Choose.f; rw [choose_bits b x y h0 h1 h2 h3 h4 h5]
theorem awake_eq (k : Nat) (hk : 9 ≤ k) : hypogeumlaw01_awake.f k = some true := by
  unfold hypogeumlaw01_awake.f
  rw [Load_eq _ (by intro x hx; simp at hx; omega) _ _ (by omega), Long_eq _ (by intro x hx; simp at hx) _ hk, Turn_eq 1 (-1) (by omega) (by omega), Choose_eq 2 3 4 (by omega) (by omega) (by omega) (by omega) (by omega) (by omega)]
  rw [turn_awake]; rfl
theorem refChoose_eq (b x y : Int) : hypogeumref01_Choose.f b x y = some (if b = 0 then x else y) := by
  unfold hypogeumref01_Choose.f; split <;> rfl
end Go.Proofs.Ytlaoodlfkcnnnaa.PlainWordChooses
