/- StretchBegins, walked. -/
import Derived.Test.YtmmbonlidcbkcaaDoorMacA
import Derived.Deep.RegionHeld3
import Derived.Deep.MidRow
import Derived.Deep.Cut
import Derived.Test.YtmmbonlidcbkcaaDoorStAw
namespace Go.Proofs.YtmmbonlidcbkcaaDoor.WalkStretchBegins
open Go.RowKit Go.Proofs.YtmmbonlidcbkcaaDoorW.PrintWords Go.Proofs.YtmmbonlidcbkcaaDoor.Num Go.Proofs.YtmmbonlidcbkcaaDoor.Sha Go.Proofs.YtmmbonlidcbkcaaDoor.Hmac Go.Proofs.YtmmbonlidcbkcaaDoor.WordC Go.Proofs.YtmmbonlidcbkcaaDoor.Arr Go.Proofs.YtmmbonlidcbkcaaDoor.App Go.Proofs.YtmmbonlidcbkcaaDoor.DgC Go.Proofs.YtmmbonlidcbkcaaDoor.DgBlock Go.Proofs.YtmmbonlidcbkcaaDoor.DgState Go.Proofs.YtmmbonlidcbkcaaDoor.DgAdd Go.Proofs.YtmmbonlidcbkcaaDoor.DgSum Go.Proofs.YtmmbonlidcbkcaaDoor.DgOf Go.Proofs.YtmmbonlidcbkcaaDoor.DgCopy Go.Proofs.YtmmbonlidcbkcaaDoor.DgLaw Go.Proofs.YtmmbonlidcbkcaaDoor.DgWords Go.Proofs.YtmmbonlidcbkcaaDoor.DgParts Go.Proofs.YtmmbonlidcbkcaaDoor.RefOf Go.Proofs.YtmmbonlidcbkcaaDoor.MacC Go.Proofs.YtmmbonlidcbkcaaDoor.MacTag Go.Proofs.YtmmbonlidcbkcaaDoor.MacLaw Go.Proofs.YtmmbonlidcbkcaaDoor.MacAwake Go.Proofs.YtmmbonlidcbkcaaDoor.MacHold Go.Proofs.YtmmbonlidcbkcaaDoor.MacNew Go.Proofs.YtmmbonlidcbkcaaDoor.MacRef Go.Proofs.YtmmbonlidcbkcaaDoor.MacNil Go.Proofs.YtmmbonlidcbkcaaDoor.MacMany Go.Proofs.YtmmbonlidcbkcaaDoor.StC Go.Proofs.YtmmbonlidcbkcaaDoor.StAw
set_option linter.unusedVariables false
set_option linter.unusedSimpArgs false

set_option maxHeartbeats 4000000 in
set_option maxRecDepth 100000 in
theorem walk (A : Option Addr) (n c : Nat) (l : List Int) {w : World} (hr : Rd w A n c l) (hB : IsB l) (hn : n ≤ 140737488351232) (A' : Option Addr) (n' c' : Nat) (l' : List Int) (hr' : Rd w A' n' c' l') (hB' : IsB l') (hn' : n' ≤ 140737488351232) (p : Int) (hp : (Lit.int .u8 p).wf = true) (q : Int) (hq : (Lit.int .u8 q).wf = true) (f : Int) (hf : (Lit.int .u8 f).wf = true) (ht : Tb w) :
    Calls Tryd.prog 16 #[.slice A n c, .slice A' n' c', .int .u8 p, .int .u8 q, .int .u8 f] w fun e w' => e = .returned (.bool true) ∧ Below w.heap.size w w' := by
  obtain ⟨hp0, hp1⟩ := wf_u8 hp
  obtain ⟨hq0, hq1⟩ := wf_u8 hq
  obtain ⟨hf0, hf1⟩ := wf_u8 hf
  clear hp hq hf
  by_cases h1 : n ≤ 400
  · have b1 : ¬ (400 : Int) < (n : Int) := by omega
    by_cases h2 : n' ≤ 400
    · have b2 : ¬ (400 : Int) < (n' : Int) := by omega
      have HL := Aside0.mk hr.len
      have HL' := Aside0.mk hr'.len
      obtain ⟨Q, rfl⟩ := Int.eq_ofNat_of_zero_le hq0
      have hk0 : 0 ≤ f % ((Q : Int) + 1) := Int.emod_nonneg _ (by omega)
      have hk1 : f % ((Q : Int) + 1) < (Q : Int) + 1 := Int.emod_lt_of_pos _ (by omega)
      go_enter Tryd.func16, Tryd.ntmps16
      go_wp2_with fail
      refine (own44_c hr hn).mono ?_
      rintro x w1 ⟨v1, rfl, ho1, hb1⟩
      obtain ⟨A1, c1, rfl, r1⟩ := rd_of_own ho1
      rw [HL.out] at r1 ⊢
      clear ho1
      generalize f % ((Q : Int) + 1) = kk at hk0 hk1 ⊢
      obtain ⟨K, rfl⟩ := Int.eq_ofNat_of_zero_le hk0
      have m0 : 1 ≤ p % 8 + 1 := by omega
      have m1 : p % 8 + 1 ≤ 8 := by omega
      generalize p % 8 + 1 = mm at m0 m1 ⊢
      obtain ⟨M, rfl⟩ := Int.eq_ofNat_of_zero_le (show 0 ≤ mm by omega)
      go_wp2_with fail
      refine (own44_c (hr'.below hb1) hn').mono ?_
      rintro x w2 ⟨v2, rfl, ho2, hb2⟩
      obtain ⟨A2, c2, rfl, r2⟩ := rd_of_own ho2
      rw [HL'.out] at r2 ⊢
      have hB2 := below_next hb1 hb2
      clear ho2
      go_wp2_with fail
      refine (Key45_c (r1.below hb2) hB hn r2 hB' (by omega) (by omega) (by omega) (by omega) (by omega) (ht.below hB2)).mono ?_
      rintro x w3 ⟨A3, c3, rfl, r3, hb3⟩
      simp only [Int.toNat_natCast] at r3 ⊢
      have hB3 := below_next hB2 hb3
      clear r1 r2
      go_wp2_with fail
      refine (own44_c (hr.below hB3) hn).mono ?_
      rintro x w4 ⟨v4, rfl, ho4, hb4⟩
      obtain ⟨A4, c4, rfl, r4⟩ := rd_of_own ho4
      rw [HL.out] at r4 ⊢
      have hB4 := below_next hB3 hb4
      clear ho4
      go_wp2_with fail
      refine (own44_c (hr'.below hB4) hn').mono ?_
      rintro x w5 ⟨v5, rfl, ho5, hb5⟩
      obtain ⟨A5, c5, rfl, r5⟩ := rd_of_own ho5
      rw [HL'.out] at r5 ⊢
      have hB5 := below_next hB4 hb5
      clear ho5
      go_wp2_with fail
      refine (Key45_c (r4.below hb5) hB hn r5 hB' (by omega) (by omega) (by omega) (by omega) (by omega) (ht.below hB5)).mono ?_
      rintro x w6 ⟨A6, c6, rfl, r6, hb6⟩
      simp only [Int.toNat_natCast] at r6 ⊢
      have hB6 := below_next hB5 hb6
      have r36 := ((r3.below hb4).below hb5).below hb6
      obtain ⟨hcut, hrd⟩ := rd_slice_to r36 K (y := (K : Int)) rfl (by omega)
      rw [stretchS_take l l' M Q K (by omega)] at hrd
      obtain ⟨X, HX⟩ : ∃ X, Aside0 (stretchS l l' M K = X) := ⟨_, ⟨rfl⟩⟩
      rw [HX.out] at hrd r6
      have hd1 := hrd.drew
      have hd2 := r6.drew
      have s1 := rd_string hd1
      have s2 := rd_string hd2
      have HD1 := Aside0.mk hd1
      have HD2 := Aside0.mk hd2
      have g1 : ((strOfNums X).toList == (strOfNums X).toList) = true := str_self _
      have htd := (ht.below hB6).below (Below.drew (Below.refl _ _))
      have gQ : ((Q : Int) == (Q : Int)) = true := beq_self_eq_true _
      have hwq : IntKind.i64.wrap (Q : Int) = Q := IntWalk.i64_in _ (by omega)
      have gK : ((K : Int) == (K : Int)) = true := beq_self_eq_true _
      clear r3 r36 r4 r5 r6 hrd hd1 hd2
      go_wp2_with fail
      go_region_held3 (fun w' => (convert 22 9 (.slice A3 K c3)).run Tryd.prog w' = .ok (.string (strOfNums X)) w' ∧ (convert 22 9 (.slice A6 K c6)).run Tryd.prog w' = .ok (.string (strOfNums X)) w')
        (first | exact ⟨s1, s2⟩ | exact ⟨rd_string (HD1.out.below hb7), rd_string (HD2.out.below hb7)⟩)
        (first | (go_at_call 43; (with_reducible refine (awake43_c htd).mono ?_); rintro x w7 ⟨rfl, hb7⟩))
      go_wp2_with fail
      go_ret
      exact ⟨rfl, below_next hB6.drew hb7⟩
    · have b2 : (400 : Int) < (n' : Int) := by omega
      go_enter Tryd.func16, Tryd.ntmps16
      go_wp2_with fail
      refine (awake43_c ht).mono ?_
      rintro x w5 ⟨rfl, hb5⟩
      go_wp2_with fail
      go_ret
      exact ⟨rfl, hb5⟩
  · have b1 : (400 : Int) < (n : Int) := by omega
    go_enter Tryd.func16, Tryd.ntmps16
    go_wp2_with fail
    refine (awake43_c ht).mono ?_
    rintro x w5 ⟨rfl, hb5⟩
    go_wp2_with fail
    go_ret
    exact ⟨rfl, hb5⟩
end Go.Proofs.YtmmbonlidcbkcaaDoor.WalkStretchBegins
