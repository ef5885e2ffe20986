/- DigestNobody, walked. -/
import Derived.Test.YtmmbonlidcbkcaaDoorDgLaw
import Derived.Deep.RegionHeld3
namespace Go.Proofs.YtmmbonlidcbkcaaDoor.WalkDigestNobody
open Go.RowKit Go.Proofs.YtmmbonlidcbkcaaDoorW.PrintWords Go.Proofs.YtmmbonlidcbkcaaDoor.Num Go.Proofs.YtmmbonlidcbkcaaDoor.Sha Go.Proofs.YtmmbonlidcbkcaaDoor.WordC Go.Proofs.YtmmbonlidcbkcaaDoor.Arr Go.Proofs.YtmmbonlidcbkcaaDoor.App Go.Proofs.YtmmbonlidcbkcaaDoor.DgC Go.Proofs.YtmmbonlidcbkcaaDoor.DgBlock Go.Proofs.YtmmbonlidcbkcaaDoor.DgState Go.Proofs.YtmmbonlidcbkcaaDoor.DgAdd Go.Proofs.YtmmbonlidcbkcaaDoor.DgSum Go.Proofs.YtmmbonlidcbkcaaDoor.DgOf Go.Proofs.YtmmbonlidcbkcaaDoor.DgCopy Go.Proofs.YtmmbonlidcbkcaaDoor.DgLaw Go.Proofs.YtmmbonlidcbkcaaDoor.DgWords Go.Proofs.YtmmbonlidcbkcaaDoor.RefOf
set_option linter.unusedVariables false
set_option linter.unusedSimpArgs false

theorem conv_nil (W : World) : Rd W none 0 0 [] := ⟨rfl, Nat.le_refl _, Kd.C_nil _ W⟩
theorem isB_nil : IsB [] := fun x hx => by cases hx
set_option maxHeartbeats 4000000 in
set_option maxRecDepth 100000 in
theorem walk (A : Option Addr) (n c : Nat) (l : List Int) {w : World} (hr : Rd w A n c l) (hB : IsB l) (hn : n ≤ 140737488351232) (ht : Tb w) :
    Calls Tryd.prog 8 #[.slice A n c] w fun e w' => e = .returned (.bool true) ∧ Below w.heap.size w w' := by
  go_enter Tryd.func8, Tryd.ntmps8
  go_wp2_with fail
  refine (own_c hr hn).mono ?_
  rintro x w1 ⟨v1, rfl, ho1, hb1⟩
  obtain ⟨A1, c1, rfl, hr1⟩ := rd_of_own ho1
  clear ho1 hr1
  go_wp2_with fail
  refine (Add_none).mono ?_
  rintro x w2 ⟨rfl, rfl⟩
  go_wp2_with fail
  refine (Sum_nil (ht.below hb1)).mono ?_
  rintro x w3 ⟨rfl, hb3⟩
  have hB3 := below_next hb1 hb3
  go_wp2_with fail
  refine (refof_c (conv_nil _) isB_nil (by omega)).mono ?_
  rintro x w4 ⟨v4, rfl, ho4, hb4⟩
  obtain ⟨A4, c4, rfl, hr4⟩ := rd_of_own ho4
  have hB4 := below_next hB3 hb4
  clear ho4
  go_wp2_with fail
  refine (is_c hr4 (shaS_isB []) (shaS_isB []) (shaS_length [])).mono ?_
  rintro x w5 ⟨rfl, hb5⟩
  rw [eqB_self]
  have hB5 := below_next hB4 hb5
  clear hr4 hb1 hb3 hb4 hb5
  go_wp2_with fail
  refine (Copy_none).mono ?_
  rintro x w6 ⟨rfl, rfl⟩
  go_wp2_with fail
  refine (awake02_c (ht.below hB5)).mono ?_
  rintro x w7 ⟨rfl, hb7⟩
  go_wp2_with fail
  go_ret
  exact ⟨rfl, below_next hB5 hb7⟩
end Go.Proofs.YtmmbonlidcbkcaaDoor.WalkDigestNobody
