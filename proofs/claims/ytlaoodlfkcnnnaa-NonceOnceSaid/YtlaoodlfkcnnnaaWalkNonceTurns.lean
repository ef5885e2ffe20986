/- NonceTurns, walked: a counter turned to any epoch is the document's. -/
import Derived.Test.YtlaoodlfkcnnnaaNonceD
namespace Go.Proofs.Ytlaoodlfkcnnnaa.WalkNonceTurns
open Go.RowKit Go.Proofs.YtlaoodlfkcnnnaaW.PrintWords Go.Proofs.Ytlaoodlfkcnnnaa.Num Go.Proofs.Ytlaoodlfkcnnnaa.WordC Go.Proofs.Ytlaoodlfkcnnnaa.NonceC Go.Proofs.Ytlaoodlfkcnnnaa.NonceD
set_option linter.unusedVariables false
set_option linter.unusedSimpArgs false

theorem Turn_no {E L z : Int} {w : World} (h : ¬ (rightN E L = true ∧ E < z ∧ z ≤ 64)) :
    Calls Try.prog 37 #[.agg #[.int .i64 E, .int .i64 L], .int .i64 z] w fun x w' => x = .returned (.tuple #[.agg #[.int .i64 0, .int .i64 0], .int .i64 1]) ∧ Below w.heap.size w w' := by
  cases h1 : rightN E L with
  | false => exact Turn_no1 h1
  | true =>
    cases h2 : rightN z L with
    | false => exact Turn_no2 h1 h2
    | true =>
      have hz := rightN_iff.1 h2
      rcases Int.lt_trichotomy z E with h3 | h3 | h3
      · exact Turn_no3 h1 h2 h3
      · subst h3; exact Turn_no4 h2
      · exact absurd ⟨h1, h3, hz.2.1⟩ h
theorem cell_up {w : World} {p : Addr} {u : Value} (h : w.cell? p = some u) (o : Obj) : (w.alloc o).cell? p = some u := (World.cell?_alloc_lt w o _ (World.block_lt_of_cell? w _ h)).trans h
set_option maxHeartbeats 8000000 in
set_option maxRecDepth 100000 in
theorem walk (E L : Int) (hE : (Lit.int .i64 E).wf = true) (hL : (Lit.int .i64 L).wf = true) (z : Int) (hz : (Lit.int .i64 z).wf = true) {w : World} :
    Calls Try.prog 11 #[.agg #[.int .i64 E, .int .i64 L], .int .i64 z] w fun e w' => e = .returned (.bool true) ∧ Below w.heap.size w w' := by
  clear hE hL hz
  by_cases h : rightN E L = true ∧ E < z ∧ z ≤ 64
  · obtain ⟨hr, h1, h2⟩ := h
    have hz : rightN z L = true := by
      have := rightN_iff.1 hr
      exact rightN_iff.2 ⟨by omega, h2, this.2.2⟩
    have t1 : ¬ z ≤ E := by omega
    have t2 : ¬ 64 < z := by omega
    go_enter Try.func11, Try.ntmps11
    go_wp2_with fail
    refine (Turn_yes hr hz h1).mono ?_
    rintro x w1 ⟨rfl, hb1⟩
    have c0 := cell_up ((hb1.cell (p := ⟨w.heap.size, 0, none⟩) (by simp)).trans (show _ = some (Value.int .i64 E) by simp [go_sem]))
    have c1 := cell_up ((hb1.cell (p := ⟨w.heap.size, 1, none⟩) (by simp)).trans (show _ = some (Value.int .i64 L) by simp [go_sem]))
    go_wp2_with fail
    refine (refRight_c E L).mono ?_
    rintro x w2 ⟨rfl, ⟨n2, rfl⟩⟩
    go_wp2_with fail
    refine awake10_c.mono ?_
    rintro x w3 ⟨rfl, hb3⟩
    have hB : Below w.heap.size w w3 := ((((Below.refl _ w).alloc (Nat.le_refl _) _).trans (hb1.mono (by simp))).alloc (by have := hb1.size; simp at this; omega) _).trans ((below_drewN' (Below.refl _ _) n2).trans hb3 |>.mono (by have := hb1.size; simp at this; simp; omega))
    go_wp2_with fail
    go_ret
    exact ⟨rfl, hB⟩
  · have hno := fun W : World => Turn_no (w := W) h
    have HN := Aside0.mk hno
    have hc : rightN E L = false ∨ (rightN E L = true ∧ z ≤ E) ∨ (rightN E L = true ∧ ¬ z ≤ E ∧ 64 < z) := by
      cases h1 : rightN E L with
      | false => exact .inl rfl
      | true =>
        by_cases h2 : z ≤ E
        · exact .inr (.inl ⟨rfl, h2⟩)
        · refine .inr (.inr ⟨rfl, h2, ?_⟩)
          by_cases h3 : 64 < z
          · exact h3
          · exact absurd ⟨h1, by omega, by omega⟩ h
    clear h hno
    rcases hc with h1 | ⟨h1, h2⟩ | ⟨h1, h2, h3⟩
    all_goals
      go_enter Try.func11, Try.ntmps11
      go_wp2_with fail
      refine (HN.out _).mono ?_
      rintro x w1 ⟨rfl, hb1⟩
      have c0 := cell_up ((hb1.cell (p := ⟨w.heap.size, 0, none⟩) (by simp)).trans (show _ = some (Value.int .i64 E) by simp [go_sem]))
      have c1 := cell_up ((hb1.cell (p := ⟨w.heap.size, 1, none⟩) (by simp)).trans (show _ = some (Value.int .i64 L) by simp [go_sem]))
      go_wp2_with fail
      refine (refRight_c E L).mono ?_
      rintro x w2 ⟨rfl, ⟨n2, rfl⟩⟩
      go_wp2_with fail
      refine awake10_c.mono ?_
      rintro x w3 ⟨rfl, hb3⟩
      have hB : Below w.heap.size w w3 := ((((Below.refl _ w).alloc (Nat.le_refl _) _).trans (hb1.mono (by simp))).alloc (by have := hb1.size; simp at this; omega) _).trans ((below_drewN' (Below.refl _ _) n2).trans hb3 |>.mono (by have := hb1.size; simp at this; simp; omega))
      go_wp2_with fail
      go_ret
      exact ⟨rfl, hB⟩
end Go.Proofs.Ytlaoodlfkcnnnaa.WalkNonceTurns
