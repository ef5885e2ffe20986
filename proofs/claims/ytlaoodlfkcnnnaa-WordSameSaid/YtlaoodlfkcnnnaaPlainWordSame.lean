/- Plain facts on the printed functions of WordSame: what each gives at every input that comes up, told in the words of YtlaoodlfkcnnnaaNum. -/
import Derived.Test.YtlaoodlfkcnnnaaPWordSamex1
import Derived.Test.YtlaoodlfkcnnnaaNum
namespace Go.Proofs.Ytlaoodlfkcnnnaa.PlainWordSame
open Go.RowKit Go.Proofs.Ytlaoodlfkcnnnaa.PWordSame Go.Proofs.YtlaoodlfkcnnnaaW.PrintWords Go.Proofs.Ytlaoodlfkcnnnaa.Num
set_option linter.unusedVariables false
theorem Same_l (l l' : List Int) (hb : IsB l) (hb' : IsB l') (he : l.length = l'.length) (hn : l.length ≤ 140737488351232) : ∀ (d i k : Nat) (x : Int), i + d = l.length → d < k → 0 ≤ x → x < 256 →
    word_Same.l0 k l' x l (l.length : Int) (i : Int) = some (decide (x = 0) && eqB (l.drop i) (l'.drop i)) := by
  intro d
  induction d with
  | zero =>
    intro i k x hi hk h0 h1
    obtain ⟨k, rfl⟩ : ∃ m, k = m + 1 := ⟨k - 1, by omega⟩
    simp only [word_Same.l0]
    rw [if_neg (by omega), List.drop_of_length_le (by omega), List.drop_of_length_le (by omega), eqB_self]
    simp; rfl
  | succ d ih =>
    intro i k x hi hk h0 h1
    obtain ⟨k, rfl⟩ : ∃ m, k = m + 1 := ⟨k - 1, by omega⟩
    simp only [word_Same.l0]
    have e1 : rd l (i : Int) = l[i] := by simp [rd, List.getD_eq_getElem?_getD, List.getElem?_eq_getElem (by omega : i < l.length)]
    have e2 : rd l' (i : Int) = l'[i] := by simp [rd, List.getD_eq_getElem?_getD, List.getElem?_eq_getElem (by omega : i < l'.length)]
    rw [if_pos (by omega), if_pos (by omega), if_pos (by omega), if_pos (by omega), e1, e2]
    have hu := unlike x l[i] l'[i] ⟨h0, h1⟩ (hb _ (List.getElem_mem _)) (hb' _ (List.getElem_mem _))
    rw [show wrap64 ((i : Int) + 1) = ((i + 1 : Nat) : Int) by unfold wrap64; omega, ih (i + 1) k _ (by omega) (by omega) hu.1.1 hu.1.2]
    rw [List.drop_eq_getElem_cons (by omega : i < l.length), List.drop_eq_getElem_cons (by omega : i < l'.length)]
    congr 1
    rw [Bool.eq_iff_iff]
    simp only [Bool.and_eq_true, decide_eq_true_eq, hu.2, eqB_iff, List.cons.injEq]
    exact ⟨fun h => ⟨h.1.1, h.1.2, h.2⟩, fun h => ⟨⟨h.1, h.2.1⟩, h.2.2⟩⟩
theorem Same_eq (l l' : List Int) (hb : IsB l) (hb' : IsB l') (hn : l.length ≤ 140737488351232) (k : Nat) (hk : l.length < k) : word_Same.f k l l' = some (eqB l l') := by
  unfold word_Same.f
  by_cases he : l.length = l'.length
  · rw [if_pos (by omega)]
    have := Same_l l l' hb hb' he hn l.length 0 k 0 (by omega) hk (by omega) (by omega)
    simpa using this
  · rw [if_neg (by omega)]
    congr 1
    rw [Bool.eq_iff_iff, eqB_iff]
    exact ⟨fun h => (by cases h), fun h => absurd (congrArg List.length h) he⟩
end Go.Proofs.Ytlaoodlfkcnnnaa.PlainWordSame
