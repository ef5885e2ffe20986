/- Plain facts on the printed functions of WordFills: what each gives at every input that comes up, told in the words of YtlaoodlfkcnnnaaNum. -/
import Derived.Test.YtlaoodlfkcnnnaaPWordFillsx1
import Derived.Test.YtlaoodlfkcnnnaaNum
namespace Go.Proofs.Ytlaoodlfkcnnnaa.PlainWordFills
open Go.RowKit Go.Proofs.Ytlaoodlfkcnnnaa.PWordFills Go.Proofs.YtlaoodlfkcnnnaaW.PrintWords Go.Proofs.Ytlaoodlfkcnnnaa.Num
set_option linter.unusedVariables false
theorem refFill_l (s : Nat) (h1 : 1 ≤ s) (h2 : s ≤ 4096) : ∀ (d : Nat) (l : List Int) (k : Nat), pad l.length s = d → l.length + d < 140737488355328 → d < k →
    hypogeumref01_Fill.l0 k (s : Int) l = some (l ++ List.replicate d 0, 0) := by
  intro d
  induction d with
  | zero =>
    intro l k hd hl hk
    obtain ⟨k, rfl⟩ : ∃ m, k = m + 1 := ⟨k - 1, by omega⟩
    simp only [hypogeumref01_Fill.l0]
    have hz : l.length % s = 0 := by
      rcases Nat.eq_zero_or_pos (l.length % s) with h | h
      · exact h
      · have := pad_step l.length s h1 (by omega); omega
    rw [if_neg (by omega), if_neg (by rw [← Int.natCast_emod, hz]; omega)]
    simp
  | succ d ih =>
    intro l k hd hl hk
    obtain ⟨k, rfl⟩ : ∃ m, k = m + 1 := ⟨k - 1, by omega⟩
    simp only [hypogeumref01_Fill.l0]
    have hz : l.length % s ≠ 0 := fun h => by have := pad_zero l.length s h; omega
    have hp := pad_step l.length s h1 hz
    rw [if_neg (by omega), if_pos (by rw [← Int.natCast_emod]; omega), if_pos (by omega), ih (l ++ [0]) k (by simp; omega) (by simp; omega) (by omega)]
    simp [List.replicate_succ]
theorem refFill_eq (l : List Int) (hn : l.length ≤ 140737488351232) (s : Nat) (h1 : 1 ≤ s) (h2 : s ≤ 4096) (k : Nat) (hk : 4100 ≤ k) : hypogeumref01_Fill.f k l (s : Int) = some (filled l s, 0) := by
  obtain ⟨k, rfl⟩ : ∃ m, k = m + 1 := ⟨k - 1, by omega⟩
  unfold hypogeumref01_Fill.f
  rw [if_neg (by omega), show decide ((s : Int) > 4096) = false by simp; omega]
  have hp := pad_lt l.length s h1
  simp only [hypogeumref01_Fill.j0]
  rw [if_neg (by simp)]
  simp only [Option.bind_some]
  rw [if_pos (by simp; omega), List.nil_append, refFill_l s h1 h2 (pad l.length s) l k rfl (by omega) (by omega)]
  rfl
theorem refFill_no (l : List Int) (z : Int) (h : z < 1 ∨ 4096 < z) : hypogeumref01_Fill.f 1 l z = some ([], 1) := by
  unfold hypogeumref01_Fill.f
  by_cases h1 : z < 1
  · rw [if_pos h1]; rfl
  · rw [if_neg h1, show decide (z > 4096) = true by simp; omega]; rfl
end Go.Proofs.Ytlaoodlfkcnnnaa.PlainWordFills
