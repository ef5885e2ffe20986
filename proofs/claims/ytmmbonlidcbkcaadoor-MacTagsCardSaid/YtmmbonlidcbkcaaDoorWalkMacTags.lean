/- MacTags, walked. -/
import Derived.Test.YtmmbonlidcbkcaaDoorDgLaw
import Derived.Deep.RegionHeld3
import Derived.Test.YtmmbonlidcbkcaaDoorHmac
import Derived.Test.YtmmbonlidcbkcaaDoorMacC
import Derived.Test.YtmmbonlidcbkcaaDoorMacTag
import Derived.Test.YtmmbonlidcbkcaaDoorMacLaw
import Derived.Test.YtmmbonlidcbkcaaDoorMacAwake
namespace Go.Proofs.YtmmbonlidcbkcaaDoor.WalkMacTags
open Go.RowKit Go.Proofs.YtmmbonlidcbkcaaDoorW.PrintWords Go.Proofs.YtmmbonlidcbkcaaDoor.Num Go.Proofs.YtmmbonlidcbkcaaDoor.Sha Go.Proofs.YtmmbonlidcbkcaaDoor.WordC Go.Proofs.YtmmbonlidcbkcaaDoor.Arr Go.Proofs.YtmmbonlidcbkcaaDoor.App Go.Proofs.YtmmbonlidcbkcaaDoor.DgC Go.Proofs.YtmmbonlidcbkcaaDoor.DgBlock Go.Proofs.YtmmbonlidcbkcaaDoor.DgState Go.Proofs.YtmmbonlidcbkcaaDoor.DgAdd Go.Proofs.YtmmbonlidcbkcaaDoor.DgSum Go.Proofs.YtmmbonlidcbkcaaDoor.DgOf Go.Proofs.YtmmbonlidcbkcaaDoor.DgCopy Go.Proofs.YtmmbonlidcbkcaaDoor.DgLaw Go.Proofs.YtmmbonlidcbkcaaDoor.DgWords Go.Proofs.YtmmbonlidcbkcaaDoor.RefOf Go.Proofs.YtmmbonlidcbkcaaDoor.Hmac Go.Proofs.YtmmbonlidcbkcaaDoor.MacC Go.Proofs.YtmmbonlidcbkcaaDoor.MacTag Go.Proofs.YtmmbonlidcbkcaaDoor.MacLaw Go.Proofs.YtmmbonlidcbkcaaDoor.MacAwake Go.Proofs.YtmmbonlidcbkcaaDoor.MacNew Go.Proofs.YtmmbonlidcbkcaaDoor.MacRef
set_option linter.unusedVariables false
set_option linter.unusedSimpArgs false

set_option maxHeartbeats 8000000 in
set_option maxRecDepth 100000 in
theorem big {A A' A'' : Option Addr} {n c n' c' n'' c'' : Nat} {w : World} (h : ¬ (n ≤ 4000 ∧ n' ≤ 4000 ∧ n'' ≤ 4000)) (ht : Tb w) :
    Calls Tryd.prog 9 #[.slice A n c, .slice A' n' c', .slice A'' n'' c''] w fun e w' => e = .returned (.bool true) ∧ Below w.heap.size w w' := by
  by_cases h1 : n ≤ 4000
  · have b1 : ¬ (4000 : Int) < (n : Int) := by omega
    by_cases h2 : n' ≤ 4000
    · have b2 : ¬ (4000 : Int) < (n' : Int) := by omega
      have b3 : (4000 : Int) < (n'' : Int) := by omega
      go_enter Tryd.func9, Tryd.ntmps9
      go_wp2_with fail
      refine (awake34_c ht).mono ?_
      rintro x w5 ⟨rfl, hb5⟩
      go_wp2_with fail
      go_ret
      exact ⟨rfl, hb5⟩
    · have b2 : (4000 : Int) < (n' : Int) := by omega
      go_enter Tryd.func9, Tryd.ntmps9
      go_wp2_with fail
      refine (awake34_c ht).mono ?_
      rintro x w5 ⟨rfl, hb5⟩
      go_wp2_with fail
      go_ret
      exact ⟨rfl, hb5⟩
  · have b1 : (4000 : Int) < (n : Int) := by omega
    go_enter Tryd.func9, Tryd.ntmps9
    go_wp2_with fail
    refine (awake34_c ht).mono ?_
    rintro x w5 ⟨rfl, hb5⟩
    go_wp2_with fail
    go_ret
    exact ⟨rfl, hb5⟩
set_option maxHeartbeats 8000000 in
set_option maxRecDepth 100000 in
theorem walk (A : Option Addr) (n c : Nat) (l : List Int) {w : World} (hr : Rd w A n c l) (hB : IsB l) (hn : n ≤ 140737488351232) (A' : Option Addr) (n' c' : Nat) (l' : List Int) (hr' : Rd w A' n' c' l') (hB' : IsB l') (hn' : n' ≤ 140737488351232) (A'' : Option Addr) (n'' c'' : Nat) (l'' : List Int) (hr'' : Rd w A'' n'' c'' l'') (hB'' : IsB l'') (hn'' : n'' ≤ 140737488351232) (ht : Tb w) :
    Calls Tryd.prog 9 #[.slice A n c, .slice A' n' c', .slice A'' n'' c''] w fun e w' => e = .returned (.bool true) ∧ Below w.heap.size w w' := by
  by_cases hall : n ≤ 4000 ∧ n' ≤ 4000 ∧ n'' ≤ 4000
  · obtain ⟨h1, h2, h3⟩ := hall
    have b1 : ¬ (4000 : Int) < (n : Int) := by omega
    have b2 : ¬ (4000 : Int) < (n' : Int) := by omega
    have b3 : ¬ (4000 : Int) < (n'' : Int) := by omega
    have HL := Aside0.mk hr.len
    have HL' := Aside0.mk hr'.len
    have HL'' := Aside0.mk hr''.len
    go_enter Tryd.func9, Tryd.ntmps9
    go_wp2_with fail
    refine (own35_c hr hn).mono ?_
    rintro x w1 ⟨v1, rfl, ho1, hb1⟩
    obtain ⟨A1, c1, rfl, r1⟩ := rd_of_own ho1
    rw [HL.out] at r1 ⊢
    clear ho1
    go_wp2_with fail
    refine (own35_c (hr'.below hb1) hn').mono ?_
    rintro x w2 ⟨v2, rfl, ho2, hb2⟩
    obtain ⟨A2, c2, rfl, r2⟩ := rd_of_own ho2
    rw [HL'.out] at r2 ⊢
    have hB2 := below_next hb1 hb2
    clear ho2
    go_wp2_with fail
    refine (own35_c (hr''.below hB2) hn'').mono ?_
    rintro x w3 ⟨v3, rfl, ho3, hb3⟩
    obtain ⟨A3, c3, rfl, r3⟩ := rd_of_own ho3
    rw [HL''.out] at r3 ⊢
    have hB3 := below_next hB2 hb3
    clear ho3
    go_wp2_with fail
    refine (join33_c (hr'.below hB3) (hr''.below hB3) (by omega)).mono ?_
    rintro x w4 ⟨v4, rfl, ho4, hb4⟩
    have hB4 := below_next hB3 hb4
    have hlM : (l' ++ l'').length = n' + n'' := by rw [List.length_append, HL'.out, HL''.out]
    have hIM := isB_append hB' hB''
    obtain ⟨M, HM⟩ : ∃ M, Aside0 (l' ++ l'' = M) := ⟨_, ⟨rfl⟩⟩
    rw [HM.out] at ho4 hlM hIM
    obtain ⟨A4, c4, rfl, r4⟩ := rd_of_own ho4
    have HLM := Aside0.mk hlM
    clear ho4 hlM
    go_wp2_with fail
    refine (reftag36_c (hr.below hB4) hB hn r4 hIM (by rw [HLM.out]; omega)).mono ?_
    rintro x w5 ⟨v5, rfl, ho5, hb5⟩
    have hB5 := below_next hB4 hb5
    have hlT := tagS_length l M
    have hIT := tagS_isB l M
    obtain ⟨T, HT⟩ : ∃ T, Aside0 (tagS l M = T) := ⟨_, ⟨rfl⟩⟩
    rw [HT.out] at ho5 hlT hIT
    obtain ⟨A5, c5, rfl, r5⟩ := rd_of_own ho5
    rw [hlT] at r5 ⊢
    have HLT := Aside0.mk hlT
    have k1 := (((r1.below hb2).below hb3).below hb4).below hb5
    have k2 := ((r2.below hb3).below hb4).below hb5
    have k3 := (r3.below hb4).below hb5
    have k4 := r4.below hb5
    clear ho5 hlT r1 r2 r3 r4 hb1 hb2 hb3 hb4 hb5 hB2 hB3 hB4
    go_wp2_with fail
    refine (tag38_2 (k := w5.heap.size) rfl k1 hB hn k2 k3 hB' hB'' (by omega) (ht.below hB5)).mono ?_
    rintro x w6 ⟨rfl, hb6⟩
    rw [HM.out, HT.out]
    have hB6 := below_next hB5 hb6
    go_wp2_with fail
    refine (is37_c (r5.below hb6) hIT hIT HLT.out).mono ?_
    rintro x w7 ⟨rfl, hb7⟩
    rw [eqB_self]
    have hB7 := below_next hB6 hb7
    go_wp2_with fail
    refine (own35_c ((k4.below hb6).below hb7) (by rw [HLM.out]; omega)).mono ?_
    rintro x w8 ⟨v8, rfl, ho8, hb8⟩
    have hB8 := below_next hB7 hb8
    obtain ⟨A8, c8, rfl, r8⟩ := rd_of_own ho8
    clear ho8
    go_wp2_with fail
    refine (tag38_1 (k := w8.heap.size) rfl (((k1.below hb6).below hb7).below hb8) hB hn r8 hIM (by rw [HLM.out]; omega) (ht.below hB8)).mono ?_
    rintro x w9 ⟨rfl, hb9⟩
    rw [HT.out]
    have hB9 := below_next hB8 hb9
    go_wp2_with fail
    refine (is37_c ((((r5.below hb6).below hb7).below hb8).below hb9) hIT hIT HLT.out).mono ?_
    rintro x w10 ⟨rfl, hb10⟩
    rw [eqB_self]
    have hB10 := below_next hB9 hb10
    have s1 := rd_string (((((k1.below hb6).below hb7).below hb8).below hb9).below hb10)
    have s2 := rd_string (((((k2.below hb6).below hb7).below hb8).below hb9).below hb10)
    have s3 := rd_string (((((k3.below hb6).below hb7).below hb8).below hb9).below hb10)
    have t1 := rd_string (hr.below hB10)
    have t2 := rd_string (hr'.below hB10)
    have t3 := rd_string (hr''.below hB10)
    have g1 : ((strOfNums l).toList == (strOfNums l).toList) = true := str_self _
    have g2 : ((strOfNums l').toList == (strOfNums l').toList) = true := str_self _
    have g3 : ((strOfNums l'').toList == (strOfNums l'').toList) = true := str_self _
    clear k1 k2 k3 k4 r5 r8 hb6 hb7 hb8 hb9 hb10 hB5 hB6 hB7 hB8 hB9
    go_wp2_with fail
    refine (awake34_c (ht.below hB10)).mono ?_
    rintro x w11 ⟨rfl, hb11⟩
    go_wp2_with fail
    go_ret
    exact ⟨rfl, below_next hB10 hb11⟩
  · exact big hall ht
end Go.Proofs.YtmmbonlidcbkcaaDoor.WalkMacTags
