/- StretchWhole, walked. -/
import Derived.Test.YtmmbonlidcbkcaaDoorMacA
import Derived.Deep.RegionHeld3
import Derived.Deep.MidRow
import Derived.Deep.Cut
import Derived.Test.YtmmbonlidcbkcaaDoorStAw
namespace Go.Proofs.YtmmbonlidcbkcaaDoor.WalkStretchWhole
open Go.RowKit Go.Proofs.YtmmbonlidcbkcaaDoorW.PrintWords Go.Proofs.YtmmbonlidcbkcaaDoor.Num Go.Proofs.YtmmbonlidcbkcaaDoor.Sha Go.Proofs.YtmmbonlidcbkcaaDoor.Hmac Go.Proofs.YtmmbonlidcbkcaaDoor.WordC Go.Proofs.YtmmbonlidcbkcaaDoor.Arr Go.Proofs.YtmmbonlidcbkcaaDoor.App Go.Proofs.YtmmbonlidcbkcaaDoor.DgC Go.Proofs.YtmmbonlidcbkcaaDoor.DgBlock Go.Proofs.YtmmbonlidcbkcaaDoor.DgState Go.Proofs.YtmmbonlidcbkcaaDoor.DgAdd Go.Proofs.YtmmbonlidcbkcaaDoor.DgSum Go.Proofs.YtmmbonlidcbkcaaDoor.DgOf Go.Proofs.YtmmbonlidcbkcaaDoor.DgCopy Go.Proofs.YtmmbonlidcbkcaaDoor.DgLaw Go.Proofs.YtmmbonlidcbkcaaDoor.DgWords Go.Proofs.YtmmbonlidcbkcaaDoor.DgParts Go.Proofs.YtmmbonlidcbkcaaDoor.RefOf Go.Proofs.YtmmbonlidcbkcaaDoor.MacC Go.Proofs.YtmmbonlidcbkcaaDoor.MacTag Go.Proofs.YtmmbonlidcbkcaaDoor.MacLaw Go.Proofs.YtmmbonlidcbkcaaDoor.MacAwake Go.Proofs.YtmmbonlidcbkcaaDoor.MacHold Go.Proofs.YtmmbonlidcbkcaaDoor.MacNew Go.Proofs.YtmmbonlidcbkcaaDoor.MacRef Go.Proofs.YtmmbonlidcbkcaaDoor.MacNil Go.Proofs.YtmmbonlidcbkcaaDoor.MacMany Go.Proofs.YtmmbonlidcbkcaaDoor.StC Go.Proofs.YtmmbonlidcbkcaaDoor.StAw
set_option linter.unusedVariables false
set_option linter.unusedSimpArgs false

set_option maxHeartbeats 2000000 in
set_option maxRecDepth 100000 in
theorem walk (A : Option Addr) (n c : Nat) (l : List Int) {w : World} (hr : Rd w A n c l) (hB : IsB l) (hn : n ≤ 140737488351232) (A' : Option Addr) (n' c' : Nat) (l' : List Int) (hr' : Rd w A' n' c' l') (hB' : IsB l') (hn' : n' ≤ 140737488351232) (p : Int) (hp : (Lit.int .u8 p).wf = true) (ht : Tb w) :
    Calls Tryd.prog 18 #[.slice A n c, .slice A' n' c', .int .u8 p] w fun e w' => e = .returned (.bool true) ∧ Below w.heap.size w w' := by
  obtain ⟨hp0, hp1⟩ := wf_u8 hp
  clear hp
  by_cases h1 : n ≤ 400
  · have b1 : ¬ (400 : Int) < (n : Int) := by omega
    by_cases h2 : n' ≤ 400
    · have b2 : ¬ (400 : Int) < (n' : Int) := by omega
      have HL := Aside0.mk hr.len
      have HL' := Aside0.mk hr'.len
      go_enter Tryd.func18, Tryd.ntmps18
      go_wp2_with fail
      refine (own44_c hr hn).mono ?_
      rintro x w1 ⟨v1, rfl, ho1, hb1⟩
      obtain ⟨A1, c1, rfl, r1⟩ := rd_of_own ho1
      rw [HL.out] at r1 ⊢
      clear ho1
      go_wp2_with fail
      refine (own44_c (hr'.below hb1) hn').mono ?_
      rintro x w2 ⟨v2, rfl, ho2, hb2⟩
      obtain ⟨A2, c2, rfl, r2⟩ := rd_of_own ho2
      rw [HL'.out] at r2 ⊢
      have hB2 := below_next hb1 hb2
      clear ho2 r1 r2
      go_wp2_with fail
      refine (Key45_rounds (.inr (by omega))).mono ?_
      rintro x w3 ⟨rfl, rfl⟩
      go_wp2_with fail
      refine (own44_c (hr.below hB2) hn).mono ?_
      rintro x w4 ⟨v4, rfl, ho4, hb4⟩
      obtain ⟨A4, c4, rfl, r4⟩ := rd_of_own ho4
      rw [HL.out] at r4 ⊢
      have hB4 := below_next hB2 hb4
      clear ho4 r4
      go_wp2_with fail
      refine (own44_c (hr'.below hB4) hn').mono ?_
      rintro x w5 ⟨v5, rfl, ho5, hb5⟩
      obtain ⟨A5, c5, rfl, r5⟩ := rd_of_own ho5
      rw [HL'.out] at r5 ⊢
      have hB5 := below_next hB4 hb5
      clear ho5 r5
      go_wp2_with fail
      refine (Key45_rounds (.inl (by omega))).mono ?_
      rintro x w6 ⟨rfl, rfl⟩
      go_wp2_with fail
      refine (own44_c (hr.below hB5) hn).mono ?_
      rintro x w7 ⟨v7, rfl, ho7, hb7⟩
      obtain ⟨A7, c7, rfl, r7⟩ := rd_of_own ho7
      rw [HL.out] at r7 ⊢
      have hB7 := below_next hB5 hb7
      clear ho7
      go_wp2_with fail
      refine (own44_c (hr'.below hB7) hn').mono ?_
      rintro x w8 ⟨v8, rfl, ho8, hb8⟩
      obtain ⟨A8, c8, rfl, r8⟩ := rd_of_own ho8
      rw [HL'.out] at r8 ⊢
      have hB8 := below_next hB7 hb8
      clear ho8
      go_wp2_with fail
      refine (Key45_c (r7.below hb8) hB (by omega) r8 hB' (by omega) (by omega) (by omega) (by omega) (by omega) (ht.below hB8)).mono ?_
      rintro x w9 ⟨A9, c9, rfl, r9, hb9⟩
      have hB9 := below_next hB8 hb9
      clear r9
      simp only [show (1 : Int).toNat = 1 from rfl]
      go_wp2_with fail
      refine (awake43_c (ht.below hB9)).mono ?_
      rintro x w10 ⟨rfl, hb10⟩
      go_wp2_with fail
      go_ret
      exact ⟨rfl, below_next hB9 hb10⟩
    · have b2 : (400 : Int) < (n' : Int) := by omega
      go_enter Tryd.func18, Tryd.ntmps18
      go_wp2_with fail
      refine (awake43_c ht).mono ?_
      rintro x w5 ⟨rfl, hb5⟩
      go_wp2_with fail
      go_ret
      exact ⟨rfl, hb5⟩
  · have b1 : (400 : Int) < (n : Int) := by omega
    go_enter Tryd.func18, Tryd.ntmps18
    go_wp2_with fail
    refine (awake43_c ht).mono ?_
    rintro x w5 ⟨rfl, hb5⟩
    go_wp2_with fail
    go_ret
    exact ⟨rfl, hb5⟩
end Go.Proofs.YtmmbonlidcbkcaaDoor.WalkStretchWhole
