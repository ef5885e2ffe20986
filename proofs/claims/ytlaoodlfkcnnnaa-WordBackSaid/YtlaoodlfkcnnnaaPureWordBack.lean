/- What is stored is loaded, what is loaded is stored, and a word turned to and fro is what it was. Conditions: none but that the numbers are of their kinds. -/
import Derived.Test.YtlaoodlfkcnnnaaPWordBackx2
import Derived.Test.YtlaoodlfkcnnnaaPlainWordBack
namespace Go.Proofs.Ytlaoodlfkcnnnaa.Pure
open Go.RowKit Go.Proofs.Ytlaoodlfkcnnnaa.PWordBack Go.Proofs.YtlaoodlfkcnnnaaW.PrintWords Go.Proofs.YtlaoodlfkcnnnaaW.PrintLast Go.Proofs.Ytlaoodlfkcnnnaa.Num Go.Proofs.Ytlaoodlfkcnnnaa.PlainWordBack

theorem back_l (a n : Int) (h0 : 0 ≤ a) (h1 : a < 4294967296) (hn : -9223372036854775808 ≤ n ∧ n ≤ 9223372036854775807) : ∀ (d i k : Nat), i + d = 32 → 20 + d ≤ k →
    hypogeumlaw01_WordBack.l0 k a n (ticks i a) (i : Int) = some true := by
  intro d
  induction d with
  | zero =>
    intro i k hi hk
    obtain ⟨k, rfl⟩ : ∃ m, k = m + 1 := ⟨k - 1, by omega⟩
    obtain rfl : i = 32 := by omega
    simp only [hypogeumlaw01_WordBack.l0]
    have hr := turn_range n h0 h1
    have hw : wrap64 (-n) = -n ∨ wrap64 (-n) = n ∧ n = -9223372036854775808 := by unfold wrap64; omega
    rw [if_neg (by omega), ticks_32 a h0 h1, if_pos rfl, Turn_eq a n h0 h1]
    simp only [Option.bind_some]
    rw [Turn_eq _ _ hr.1 hr.2]
    simp only [Option.bind_some]
    rw [turn_turn h0 h1 n _ (by rcases hw with e | ⟨e, e'⟩ <;> rw [e] <;> omega), if_pos rfl, awake_eq k (by omega)]
    rfl
  | succ d ih =>
    intro i k hi hk
    obtain ⟨k, rfl⟩ : ∃ m, k = m + 1 := ⟨k - 1, by omega⟩
    have hr := ticks_range h0 h1 i
    simp only [hypogeumlaw01_WordBack.l0]
    rw [if_pos (by omega), Turn_eq _ 1 hr.1 hr.2]
    simp only [Option.bind_some]
    rw [show wrap64 ((i : Int) + 1) = ((i + 1 : Nat) : Int) by unfold wrap64; omega]
    rw [← ih (i + 1) k (by omega) (by omega)]
    rfl

theorem WordBack : hypogeumlaw01_WordBack.Pure := by
  intro a b n ha hb hn
  have ha' := wf_u32 ha
  have hb' := wf_u64 hb
  have hn' := wf_i64 hn
  refine ⟨60, ?_⟩
  unfold hypogeumlaw01_WordBack.f
  rw [Store_eq a ha'.1 ha'.2 false 60 (by omega)]
  simp only [Option.bind_some]
  rw [Load_eq _ (storeW_isB _ _) false 60 (by omega), load_store a ha'.1 ha'.2 false]
  simp only [Option.bind_some]
  rw [Store_eq a ha'.1 ha'.2 true 60 (by omega)]
  simp only [Option.bind_some]
  rw [Load_eq _ (storeW_isB _ _) true 60 (by omega), load_store a ha'.1 ha'.2 true]
  simp only [Option.bind_some]
  rw [Tell_eq b hb'.1 hb'.2 60 (by omega)]
  simp only [Option.bind_some]
  rw [Long_eq _ (told_isB _ _) 60 (by omega), long_told b hb'.1 hb'.2]
  simp only [Option.bind_some, if_true]
  show hypogeumlaw01_WordBack.j0 60 a n false = some true
  simp only [hypogeumlaw01_WordBack.j0]
  rw [if_neg (by simp)]
  exact back_l a n ha'.1 ha'.2 hn' 32 0 59 (by omega) (by omega)

end Go.Proofs.Ytlaoodlfkcnnnaa.Pure
