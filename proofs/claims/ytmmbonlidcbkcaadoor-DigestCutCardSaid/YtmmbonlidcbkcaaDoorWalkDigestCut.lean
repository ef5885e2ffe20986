/- DigestCut, walked. -/
import Derived.Test.YtmmbonlidcbkcaaDoorDgLaw
import Derived.Deep.RegionHeld3
import Derived.Test.YtmmbonlidcbkcaaDoorDgEq
namespace Go.Proofs.YtmmbonlidcbkcaaDoor.WalkDigestCut
open Go.RowKit Go.Proofs.YtmmbonlidcbkcaaDoorW.PrintWords Go.Proofs.YtmmbonlidcbkcaaDoor.Num Go.Proofs.YtmmbonlidcbkcaaDoor.Sha Go.Proofs.YtmmbonlidcbkcaaDoor.WordC Go.Proofs.YtmmbonlidcbkcaaDoor.Arr Go.Proofs.YtmmbonlidcbkcaaDoor.App Go.Proofs.YtmmbonlidcbkcaaDoor.DgC Go.Proofs.YtmmbonlidcbkcaaDoor.DgBlock Go.Proofs.YtmmbonlidcbkcaaDoor.DgState Go.Proofs.YtmmbonlidcbkcaaDoor.DgAdd Go.Proofs.YtmmbonlidcbkcaaDoor.DgSum Go.Proofs.YtmmbonlidcbkcaaDoor.DgOf Go.Proofs.YtmmbonlidcbkcaaDoor.DgCopy Go.Proofs.YtmmbonlidcbkcaaDoor.DgLaw Go.Proofs.YtmmbonlidcbkcaaDoor.DgWords Go.Proofs.YtmmbonlidcbkcaaDoor.RefOf Go.Proofs.YtmmbonlidcbkcaaDoor.DgEq
set_option linter.unusedVariables false
set_option linter.unusedSimpArgs false

theorem wf_u16 {x : Int} (h : (Lit.int .u16 x).wf = true) : 0 ≤ x ∧ x < 65536 := by
  have h' : 0 ≤ x ∧ x ≤ 65535 := by simpa [Lit.wf, IntKind.min, IntKind.max, IntKind.signed, IntKind.bits] using h
  omega
set_option maxHeartbeats 8000000 in
set_option maxRecDepth 100000 in
theorem walk (A : Option Addr) (n c : Nat) (l : List Int) {w : World} (hr : Rd w A n c l) (hB : IsB l) (hn : n ≤ 140737488351232) (a : Int) (ha : (Lit.int .u16 a).wf = true) (ht : Tb w) :
    Calls Tryd.prog 6 #[.slice A n c, .int .u16 a] w fun e w' => e = .returned (.bool true) ∧ Below w.heap.size w w' := by
  have ha' := wf_u16 ha
  clear ha
  by_cases h : n ≤ 4000
  · have hle : ¬ (4000 : Int) < (n : Int) := by omega
    obtain ⟨K, hK⟩ : ∃ K : Nat, a % ((n : Int) + 1) = K := ⟨(a % ((n : Int) + 1)).toNat, by have := Int.emod_nonneg a (show (n : Int) + 1 ≠ 0 by omega); omega⟩
    have hKn : K ≤ n := by have := Int.emod_lt_of_pos a (show 0 < (n : Int) + 1 by omega); omega
    obtain ⟨hcut1, hrP⟩ := rd_slice_to hr K (y := (K : Int)) rfl hKn
    obtain ⟨A2, c2, hcut2, hrQ⟩ := rd_slice_from hr K (x := (K : Int)) rfl hKn
    have hP : IsB (l.take K) := fun x hx => hB x (List.mem_of_mem_take hx)
    have hQ : IsB (l.drop K) := fun x hx => hB x (List.mem_of_mem_drop hx)
    have e1 := List.take_append_drop K l
    have hS := shaS_length l
    obtain ⟨S, HS⟩ : ∃ S, Aside0 (shaS l = S) := ⟨_, ⟨rfl⟩⟩
    rw [HS.out] at hS
    have heq : ∀ W : World, (binOp .eql 27 (.agg (nums .u8 S).toArray) (.agg (nums .u8 S).toArray)).run Tryd.prog W = .ok (.bool true) W := fun W => by rw [eql27 hS hS, eqB_self]
    have E1 := Aside0.mk e1
    have k1 : (0 : Int) ≤ (K : Int) := by omega
    have k2 : (K : Int) ≤ (n : Int) := by omega
    clear hS e1
    go_enter Tryd.func6, Tryd.ntmps6
    go_wp2_with fail
    have hD : Below w.heap.size w w.drew := (Below.refl _ w).drew
    go_region_held3 (fun _ => True) (exact trivial)
      (first
       | (go_at_call 24; (with_reducible refine (own_c hrP.drew (by omega)).mono ?_); rintro x w1 ⟨v1, rfl, ho1, hb1⟩; obtain ⟨A1, c1, rfl, hr1⟩ := rd_of_own ho1; rw [hrP.len] at hr1; rw [hrP.len]; have hB1 := below_next hD hb1; clear ho1)
       | (go_at_call 24; (with_reducible refine (own_c (hrQ.below hB1) (by omega)).mono ?_); rintro x w2 ⟨v2, rfl, ho2, hb2⟩; obtain ⟨A2', c2', rfl, hr2⟩ := rd_of_own ho2; rw [hrQ.len] at hr2; rw [hrQ.len]; have hB2 := below_next hB1 hb2; have hr1' := hr1.below hb2; clear ho2 hr1)
       | (go_at_call 26; (with_reducible refine (Of2_c rfl hr1' hr2 hP hQ (by omega) (ht.below hB2)).mono ?_); rintro x w3 ⟨rfl, hb3⟩; rw [E1.out, HS.out]; have hB3 := below_next hB2 hb3)
       | (go_at_call 24; (with_reducible refine (own_c (hr.below hB3) (by omega)).mono ?_); rintro x w4 ⟨v4, rfl, ho4, hb4⟩; obtain ⟨A4, c4, rfl, hr4⟩ := rd_of_own ho4; rw [hr.len] at hr4; rw [hr.len]; have hB4 := below_next hB3 hb4; clear ho4)
       | (go_at_call 26; (with_reducible refine (Of1_c rfl hr4 hB hn (ht.below hB4)).mono ?_); rintro x w5 ⟨rfl, hb5⟩; rw [HS.out]; have hB5 := below_next hB4 hb5)
       | (go_at_call 23; (with_reducible refine (awake02_c (ht.below hB5)).mono ?_); rintro x w6 ⟨rfl, hb6⟩; have hB6 := below_next hB5 hb6))
    go_wp2_with fail
    go_ret
    exact ⟨rfl, hB6⟩
  · have hgt : (4000 : Int) < (n : Int) := by omega
    go_enter Tryd.func6, Tryd.ntmps6
    go_wp2_with fail
    refine (awake02_c ht).mono ?_
    rintro x w5 ⟨rfl, hb5⟩
    go_wp2_with fail
    go_ret
    exact ⟨rfl, hb5⟩
end Go.Proofs.YtmmbonlidcbkcaaDoor.WalkDigestCut
