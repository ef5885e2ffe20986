/- DigestSums, walked. -/
import Derived.Test.YtmmbonlidcbkcaaDoorDgLaw
import Derived.Deep.RegionHeld3
namespace Go.Proofs.YtmmbonlidcbkcaaDoor.WalkDigestSums
open Go.RowKit Go.Proofs.YtmmbonlidcbkcaaDoorW.PrintWords Go.Proofs.YtmmbonlidcbkcaaDoor.Num Go.Proofs.YtmmbonlidcbkcaaDoor.Sha Go.Proofs.YtmmbonlidcbkcaaDoor.WordC Go.Proofs.YtmmbonlidcbkcaaDoor.Arr Go.Proofs.YtmmbonlidcbkcaaDoor.App Go.Proofs.YtmmbonlidcbkcaaDoor.DgC Go.Proofs.YtmmbonlidcbkcaaDoor.DgBlock Go.Proofs.YtmmbonlidcbkcaaDoor.DgState Go.Proofs.YtmmbonlidcbkcaaDoor.DgAdd Go.Proofs.YtmmbonlidcbkcaaDoor.DgSum Go.Proofs.YtmmbonlidcbkcaaDoor.DgOf Go.Proofs.YtmmbonlidcbkcaaDoor.DgCopy Go.Proofs.YtmmbonlidcbkcaaDoor.DgLaw Go.Proofs.YtmmbonlidcbkcaaDoor.DgWords Go.Proofs.YtmmbonlidcbkcaaDoor.RefOf
set_option linter.unusedVariables false
set_option linter.unusedSimpArgs false

set_option maxHeartbeats 4000000 in
set_option maxRecDepth 100000 in
theorem walk (A : Option Addr) (n c : Nat) (l : List Int) {w : World} (hr : Rd w A n c l) (hB : IsB l) (hn : n ≤ 140737488351232) (ht : Tb w) :
    Calls Tryd.prog 3 #[.slice A n c] w fun e w' => e = .returned (.bool true) ∧ Below w.heap.size w w' := by
  by_cases h : n ≤ 4000
  · have hle : ¬ (4000 : Int) < (n : Int) := by omega
    go_enter Tryd.func3, Tryd.ntmps3
    go_wp2_with fail
    refine (own_c hr hn).mono ?_
    rintro x w1 ⟨v1, rfl, ho1, hb1⟩
    obtain ⟨A1, c1, rfl, hr1⟩ := rd_of_own ho1
    rw [hr.len] at hr1 ⊢
    clear ho1
    go_wp2_with fail
    refine (Of1_c rfl hr1 hB hn (ht.below hb1)).mono ?_
    rintro x w2 ⟨rfl, hb2⟩
    have hB2 := below_next hb1 hb2
    go_wp2_with fail
    refine (refof_c (hr.below hB2) hB hn).mono ?_
    rintro x w3 ⟨v3, rfl, ho3, hb3⟩
    obtain ⟨A3, c3, rfl, hr3⟩ := rd_of_own ho3
    have hB3 := below_next hB2 hb3
    clear ho3
    go_wp2_with fail
    refine (is_c hr3 (shaS_isB l) (shaS_isB l) (shaS_length l)).mono ?_
    rintro x w4 ⟨rfl, hb4⟩
    rw [eqB_self]
    have hB4 := below_next hB3 hb4
    have s1 := rd_string (((hr1.below hb2).below hb3).below hb4)
    have s2 := rd_string (hr.below hB4)
    have g2 : ((strOfNums l).toList == (strOfNums l).toList) = true := str_self _
    clear hr3 hb1 hb2 hb3 hb4 hr1
    go_wp2_with fail
    refine (awake02_c (ht.below hB4)).mono ?_
    rintro x w5 ⟨rfl, hb5⟩
    go_wp2_with fail
    go_ret
    exact ⟨rfl, below_next hB4 hb5⟩
  · have hgt : (4000 : Int) < (n : Int) := by omega
    go_enter Tryd.func3, Tryd.ntmps3
    go_wp2_with fail
    refine (awake02_c ht).mono ?_
    rintro x w5 ⟨rfl, hb5⟩
    go_wp2_with fail
    go_ret
    exact ⟨rfl, hb5⟩
end Go.Proofs.YtmmbonlidcbkcaaDoor.WalkDigestSums
