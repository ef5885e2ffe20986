/- WordLoads, walked: every way but the one on which all agree is shut out. -/
import Derived.Test.YtlaoodlfkcnnnaaWordC
import Derived.Outline
namespace Go.Proofs.Ytlaoodlfkcnnnaa.WalkWordLoads
open Go.RowKit Go.Proofs.YtlaoodlfkcnnnaaW.PrintWords Go.Proofs.Ytlaoodlfkcnnnaa.Num Go.Proofs.Ytlaoodlfkcnnnaa.WordC
set_option linter.unusedVariables false

set_option maxHeartbeats 1000000 in
set_option maxRecDepth 100000 in
theorem walk (A : Option Addr) (n c : Nat) (l : List Int) {w : World} (hr : Rd w A n c l) (hB : IsB l) (hn : n ≤ 140737488351232) (low : Bool) :
    Calls Try.prog 3 #[.slice A n c, .bool low] w fun e w' => e = .returned (.bool true) ∧ Below w.heap.size w w' := by
  go_enter Try.func3, Try.ntmps3
  go_wp2_with fail
  refine (own01_c hr hn).mono ?_
  rintro e w1 ⟨v, rfl, ho, hb1⟩
  obtain ⟨A1, c1, rfl, hx⟩ := rd_of_own ho
  go_wp2_with fail
  refine (Load_c hx hB low).mono ?_
  rintro e w2 ⟨rfl, ⟨n2, rfl⟩⟩
  go_wp2_with fail
  refine (refLoad_c ((hr.below hb1).drewN n2) hB low).mono ?_
  rintro e w3 ⟨rfl, hb3⟩
  go_wp2_with fail
  refine (Long_c (((hx.drewN n2)).below hb3) hB).mono ?_
  rintro e w4 ⟨rfl, ⟨n4, rfl⟩⟩
  go_wp2_with fail
  refine (refLong_c ((((hr.below hb1).drewN n2).below hb3).drewN n4) hB).mono ?_
  rintro e w5 ⟨rfl, ⟨n5, rfl⟩⟩
  have s1 := fun k => Kd.C_string (P := Try.prog) (c := c1) Try.underlying22 Try.underlying5 Try.underlying9 (((hx.drewN n2).below hb3).drewN k).cells
  have s2 := fun k => Kd.C_string (P := Try.prog) (c := c) Try.underlying22 Try.underlying5 Try.underlying9 (((hr.below hb1).drewN n2).below hb3 |>.drewN k).cells
  go_wp2_with fail
  refine awake01_c.mono ?_
  rintro e w6 ⟨rfl, hb6⟩
  go_wp2_with fail
  go_ret
  exact ⟨rfl, ((((hb1.trans ((below_drewN' (Below.refl _ _) n2).mono hb1.size)).trans (hb3.mono hb1.size)).trans ((below_drewN' (Below.refl _ _) _))).trans (hb6.mono (Nat.le_trans hb1.size hb3.size)))⟩
end Go.Proofs.Ytlaoodlfkcnnnaa.WalkWordLoads
