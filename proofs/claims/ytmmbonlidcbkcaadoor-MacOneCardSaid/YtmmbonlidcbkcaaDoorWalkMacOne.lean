/- MacOne, walked. -/
import Derived.Test.YtmmbonlidcbkcaaDoorDgLaw
import Derived.Deep.RegionHeld3
import Derived.Test.YtmmbonlidcbkcaaDoorHmac
import Derived.Test.YtmmbonlidcbkcaaDoorMacC
import Derived.Test.YtmmbonlidcbkcaaDoorMacTag
import Derived.Test.YtmmbonlidcbkcaaDoorMacLaw
import Derived.Test.YtmmbonlidcbkcaaDoorMacAwake
import Derived.Test.YtmmbonlidcbkcaaDoorMacHold
namespace Go.Proofs.YtmmbonlidcbkcaaDoor.WalkMacOne
open Go.RowKit Go.Proofs.YtmmbonlidcbkcaaDoorW.PrintWords Go.Proofs.YtmmbonlidcbkcaaDoor.Num Go.Proofs.YtmmbonlidcbkcaaDoor.Sha Go.Proofs.YtmmbonlidcbkcaaDoor.WordC Go.Proofs.YtmmbonlidcbkcaaDoor.Arr Go.Proofs.YtmmbonlidcbkcaaDoor.App Go.Proofs.YtmmbonlidcbkcaaDoor.DgC Go.Proofs.YtmmbonlidcbkcaaDoor.DgBlock Go.Proofs.YtmmbonlidcbkcaaDoor.DgState Go.Proofs.YtmmbonlidcbkcaaDoor.DgAdd Go.Proofs.YtmmbonlidcbkcaaDoor.DgSum Go.Proofs.YtmmbonlidcbkcaaDoor.DgOf Go.Proofs.YtmmbonlidcbkcaaDoor.DgCopy Go.Proofs.YtmmbonlidcbkcaaDoor.DgLaw Go.Proofs.YtmmbonlidcbkcaaDoor.DgWords Go.Proofs.YtmmbonlidcbkcaaDoor.RefOf Go.Proofs.YtmmbonlidcbkcaaDoor.Hmac Go.Proofs.YtmmbonlidcbkcaaDoor.MacC Go.Proofs.YtmmbonlidcbkcaaDoor.MacTag Go.Proofs.YtmmbonlidcbkcaaDoor.MacLaw Go.Proofs.YtmmbonlidcbkcaaDoor.MacAwake Go.Proofs.YtmmbonlidcbkcaaDoor.MacHold Go.Proofs.YtmmbonlidcbkcaaDoor.MacNew Go.Proofs.YtmmbonlidcbkcaaDoor.MacRef
set_option linter.unusedVariables false
set_option linter.unusedSimpArgs false

set_option maxHeartbeats 8000000 in
set_option maxRecDepth 100000 in
theorem big {A A' : Option Addr} {n c n' c' : Nat} {x y : Value} {w : World} (h : ¬ (n ≤ 4000 ∧ n' ≤ 4000)) (ht : Tb w) :
    Calls Tryd.prog 13 #[.slice A n c, .slice A' n' c', x, y] w fun e w' => e = .returned (.bool true) ∧ Below w.heap.size w w' := by
  by_cases h1 : n ≤ 4000
  · have b1 : ¬ (4000 : Int) < (n : Int) := by omega
    have b2 : (4000 : Int) < (n' : Int) := by omega
    go_enter Tryd.func13, Tryd.ntmps13
    go_wp2_with fail
    refine (awake34_c ht).mono ?_
    rintro x w5 ⟨rfl, hb5⟩
    go_wp2_with fail
    go_ret
    exact ⟨rfl, hb5⟩
  · have b1 : (4000 : Int) < (n : Int) := by omega
    go_enter Tryd.func13, Tryd.ntmps13
    go_wp2_with fail
    refine (awake34_c ht).mono ?_
    rintro x w5 ⟨rfl, hb5⟩
    go_wp2_with fail
    go_ret
    exact ⟨rfl, hb5⟩
theorem eq_xor {x b : Int} (hx : 0 ≤ x ∧ x < 256) (hb : 0 ≤ b ∧ b < 256) : xor8 x b = x ↔ b = 0 := xor8_zero_iff hx hb
theorem set_same {T : List Int} (i : Nat) (hi : i < T.length) (v : Int) : T = T.set i v ↔ v = T.getD i 0 := by
  rw [List.getD_eq_getElem?_getD, List.getElem?_eq_getElem hi]
  constructor
  · intro h
    have := congrArg (fun l => l[i]?) h
    simp [List.getElem?_set, hi] at this
    simpa using this.symm
  · intro h
    subst h
    simp
/-- The law from region 5 on goes over a key that lies, and its tag. -/
theorem wf_u8' {x : Int} (h : (Lit.int .u8 x).wf = true) : 0 ≤ x ∧ x < 256 := by
  have h' : 0 ≤ x ∧ x ≤ 255 := by simpa [Lit.wf, IntKind.min, IntKind.max, IntKind.signed, IntKind.bits] using h
  omega
set_option maxHeartbeats 8000000 in
set_option maxRecDepth 100000 in
theorem walk (A : Option Addr) (n c : Nat) (l : List Int) {w : World} (hr : Rd w A n c l) (hB : IsB l) (hn : n ≤ 140737488351232) (A' : Option Addr) (n' c' : Nat) (l' : List Int) (hr' : Rd w A' n' c' l') (hB' : IsB l') (hn' : n' ≤ 140737488351232) (p : Int) (hp : (Lit.int .u8 p).wf = true) (q : Int) (hq : (Lit.int .u8 q).wf = true) (ht : Tb w) :
    Calls Tryd.prog 13 #[.slice A n c, .slice A' n' c', .int .u8 p, .int .u8 q] w fun e w' => e = .returned (.bool true) ∧ Below w.heap.size w w' := by
  by_cases hall : n ≤ 4000 ∧ n' ≤ 4000
  · obtain ⟨h1, h2⟩ := hall
    have b1 : ¬ (4000 : Int) < (n : Int) := by omega
    have b2 : ¬ (4000 : Int) < (n' : Int) := by omega
    have HP := Aside0.mk (wf_u8' hp)
    have HQ := Aside0.mk (wf_u8' hq)
    clear hp hq
    have HL := Aside0.mk hr.len
    have HL' := Aside0.mk hr'.len
    go_enter Tryd.func13, Tryd.ntmps13
    go_wp2_with fail
    refine (own35_c hr hn).mono ?_
    rintro x w1 ⟨v1, rfl, ho1, hb1⟩
    obtain ⟨A1, c1, rfl, r1⟩ := rd_of_own ho1
    rw [HL.out] at r1 ⊢
    clear ho1
    go_wp2_with fail
    refine (New_c r1 hB hn (ht.below hb1)).mono ?_
    rintro x w2 ⟨kb, rfl, hK, hb2⟩
    have hB2 := below_next hb1 hb2
    go_wp2_with fail
    refine (own35_c (hr'.below hB2) hn').mono ?_
    rintro x w3 ⟨v3, rfl, ho3, hb3⟩
    obtain ⟨A3, c3, rfl, r3⟩ := rd_of_own ho3
    rw [HL'.out] at r3 ⊢
    have hB3 := below_next hB2 hb3
    have hK3 := hK.below hb3
    clear ho3
    go_wp2_with fail
    refine (Tag1_c (k := w3.heap.size) rfl hK3 r3 hB' (by omega) (ht.below hB3)).mono ?_
    rintro x w4 ⟨rfl, hb4⟩
    have hB4 := below_next hB3 hb4
    have hK4 := hK3.below hb4
    have hlT := tagS_length l l'
    have hIT := tagS_isB l l'
    obtain ⟨T, HT⟩ : ∃ T, Aside0 (tagS l l' = T) := ⟨_, ⟨rfl⟩⟩
    rw [HT.out] at hlT hIT
    rw [HT.out]
    have HLT := Aside0.mk hlT
    clear hlT
    go_wp2_with (first
      | (refine store_arr rfl 27 (.tmp 10) (.tmp 28) rfl w4.heap.size .u8 T rfl rfl 27 32 _ (heap_alloc_new _ _) size27 HLT.out rfl ?_; intro w5 hO5 hg5; have hb45 : Below w4.heap.size w4 w5 := ((Below.refl _ w4).alloc (Nat.le_refl _) _).grown hg5 (by simp) (fun k hk => by cases hk; exact Nat.le_refl _); have hB5 := below_next hB4 hb45; have hK5 := hK4.below hb45; have hr5 := rd_blk32 hO5 HLT.out; have HO5 := Aside0.mk hO5; clear hO5 hg5))
    refine (own35_c hr5 (by omega)).mono ?_
    rintro x w6 ⟨v6, rfl, ho6, hb6⟩
    obtain ⟨A6, c6, rfl, r6⟩ := rd_of_own ho6
    rw [HLT.out] at r6 ⊢
    clear ho6
    have hB6 := below_next hB5 hb6
    have hK6 := hK5.below hb6
    go_wp2_with fail
    refine (own35_c (hr'.below hB6) hn').mono ?_
    rintro x w7 ⟨v7, rfl, ho7, hb7⟩
    obtain ⟨A7, c7, rfl, r7⟩ := rd_of_own ho7
    rw [HL'.out] at r7 ⊢
    clear ho7
    have hB7 := below_next hB6 hb7
    have hK7 := hK6.below hb7
    go_wp2_with fail
    refine (holds42_1 (k := w7.heap.size) rfl hK7 (r6.below hb7) hIT r7 hB' (by omega) (ht.below hB7)).mono ?_
    rintro x w8 ⟨rfl, hb8⟩
    rw [HT.out, eqB_self]
    have hB8 := below_next hB7 hb8
    have hK8 := hK7.below hb8
    have hO8 := Blk.below (Blk.below (Blk.below HO5.out hb6) hb7) hb8
    have hr8 := rd_blk32 hO8 HLT.out
    obtain ⟨hcut, hrP⟩ := rd_slice_to hr8 31 (y := 31) rfl (by omega)
    have hl31 : (T.take 31).length = 31 := by rw [List.length_take, HLT.out]; rfl
    have hne : eqB T (T.take 31) = false := by
      rw [Bool.eq_false_iff]; intro h
      have e := congrArg List.length (eqB_iff.1 h)
      rw [hl31, HLT.out] at e; omega
    have hI31 : IsB (T.take 31) := fun x hx => hIT x (List.mem_of_mem_take hx)
    obtain ⟨U, HU⟩ : ∃ U, Aside0 (T.take 31 = U) := ⟨_, ⟨rfl⟩⟩
    rw [HU.out] at hrP hl31 hne hI31
    have HL31 := Aside0.mk hl31
    have HNE := Aside0.mk hne
    have HO8 := Aside0.mk hO8
    clear hO8 hl31 hne hr8 r6 r7 hb6 hb7 hb8 hb45 hr5
    go_wp2_with fail
    refine (own35_c hrP (by omega)).mono ?_
    rintro x w9 ⟨v9, rfl, ho9, hb9⟩
    obtain ⟨A9, c9, rfl, r9⟩ := rd_of_own ho9
    rw [HL31.out] at r9 ⊢
    clear ho9
    have hB9 := below_next hB8 hb9
    have hK9 := hK8.below hb9
    go_wp2_with fail
    refine (own35_c (hr'.below hB9) hn').mono ?_
    rintro x w10 ⟨v10, rfl, ho10, hb10⟩
    obtain ⟨A10, c10, rfl, r10⟩ := rd_of_own ho10
    rw [HL'.out] at r10 ⊢
    clear ho10
    have hB10 := below_next hB9 hb10
    have hK10 := hK9.below hb10
    go_wp2_with fail
    refine (holds42_1 (k := w10.heap.size) rfl hK10 (r9.below hb10) hI31 r10 hB' (by omega) (ht.below hB10)).mono ?_
    rintro x w11 ⟨rfl, hb11⟩
    rw [HT.out, HNE.out]
    have hB11 := below_next hB10 hb11
    have hK11 := hK10.below hb11
    have hr11 := rd_blk32 (Blk.below (Blk.below (Blk.below HO8.out hb9) hb10) hb11) HLT.out
    clear r9 r10 hb9 hb10 hb11 hrP hcut
    go_wp2_with fail
    refine (own35_c hr11 (by omega)).mono ?_
    rintro x w12 ⟨v12, rfl, ho12, hb12⟩
    have hB12 := below_next hB11 hb12
    have hK12 := hK11.below hb12
    obtain ⟨g12, c12, rfl, hge12, hlt12, _⟩ := Kd.R_form ho12 (by rw [HLT.out]; omega)
    rw [HLT.out] at ho12 ⊢
    have hxo := Kd.own_of_R ho12
    rw [HLT.out] at hxo
    obtain ⟨K, hK'⟩ : ∃ K : Nat, p.tmod 32 = K := ⟨(p.tmod 32).toNat, by rw [Int.tmod_eq_emod_of_nonneg HP.out.1]; have := Int.emod_nonneg p (show (32 : Int) ≠ 0 by omega); omega⟩
    have hK32 : K < 32 := by rw [Int.tmod_eq_emod_of_nonneg HP.out.1] at hK'; have := Int.emod_lt_of_pos p (show (0 : Int) < 32 by omega); omega
    have hKi : (K : Int) < 32 := by omega
    have hat := own_at (k := .u8) (xs := T) hxo (K : Int) (by omega) (by omega)
    have hst := own_store (k := .u8) (xs := T) hxo (K : Int) (Go.bits .xor .u8 (rd T K) q)
    simp only [Int.toNat_natCast] at hat hst
    have hrdK : rd T (K : Int) = T.getD K 0 := by simp [rd]
    have hdec := set_same (T := T) K (by rw [HLT.out]; exact hK32) (xor8 (T.getD K 0) q)
    have hyr := getD_isB hIT K
    rw [hrdK] at hat hst
    generalize T.getD K 0 = y at hat hst hdec hyr
    have hq0 := hdec.trans (eq_xor hyr HQ.out)
    have hyx := xor8_range hyr HQ.out
    have hIT2 : IsB (T.set K (xor8 y q)) := fun x hx => by
      rcases List.mem_or_eq_of_mem_set hx with h | h
      · exact hIT x h
      · rw [h]; exact hyx
    obtain ⟨hc1, hf1⟩ := hat
    have hO13 : Ow (w12.setCell ⟨g12, K, none⟩ (.int .u8 (Go.bits .xor .u8 y q))) w11.heap.size (.slice (some ⟨g12, 0, none⟩) 32 c12) (T.set K (xor8 y q)) := Kd.R_of_own (by rw [List.length_set, HLT.out]; exact hst.1) (fun _ _ => trivial)
    have hb13 : Below w11.heap.size w11 (w12.setCell ⟨g12, K, none⟩ (.int .u8 (Go.bits .xor .u8 y q))) := hb12.grown hst.2 hb12.size (fun k hk => by cases hk; exact hge12)
    have hB13 := below_next hB11 hb13
    have hK13 := hK11.below hb13
    obtain ⟨A13, c13, hv13, hr13⟩ := rd_of_own hO13
    injection hv13 with e1 e2 e3
    subst e1 e3
    rw [← e2] at hr13
    have hdq : Aside0 (T = T.set K (xor8 y q) ↔ q = 0) := ⟨hq0⟩
    obtain ⟨T2, HT2⟩ : ∃ T2, Aside0 (T.set K (xor8 y q) = T2) := ⟨_, ⟨rfl⟩⟩
    rw [HT2.out] at hr13 hIT2 hdq
    have HR13 := Aside0.mk hr13
    clear hst hxo hrdK hdec hq0 hyx hyr hO13 hr13 ho12 hr11 hb12 hlt12 e2
    go_wp2_with fail
    refine (own35_c (hr'.below hB13) hn').mono ?_
    rintro x w14 ⟨v14, rfl, ho14, hb14⟩
    obtain ⟨A14, c14, rfl, r14⟩ := rd_of_own ho14
    rw [HL'.out] at r14 ⊢
    clear ho14
    have hB14 := below_next hB13 hb14
    have hK14 := hK13.below hb14
    go_wp2_with fail
    refine (holds42_1 (k := w14.heap.size) rfl hK14 (HR13.out.below hb14) hIT2 r14 hB' (by omega) (ht.below hB14)).mono ?_
    rintro x w15 ⟨rfl, hb15⟩
    rw [HT.out]
    have hB15 := below_next hB14 hb15
    clear hb14 hb15 r14
    by_cases hqz : q = 0
    · have hE : eqB T T2 = true := eqB_iff.2 (hdq.out.2 hqz)
      rw [hE]
      subst hqz
      go_wp2_with fail
      refine (awake34_c (ht.below hB15)).mono ?_
      rintro x w16 ⟨rfl, hb16⟩
      go_wp2_with fail
      go_ret
      exact ⟨rfl, below_next hB15 hb16⟩
    · have hE : eqB T T2 = false := by rw [Bool.eq_false_iff]; intro h; exact hqz (hdq.out.1 (eqB_iff.1 h))
      rw [hE]
      have hqb : (q == 0) = false := by simp [hqz]
      go_wp2_with fail
      refine (awake34_c (ht.below hB15)).mono ?_
      rintro x w16 ⟨rfl, hb16⟩
      go_wp2_with fail
      go_ret
      exact ⟨rfl, below_next hB15 hb16⟩
  · exact big hall ht
end Go.Proofs.YtmmbonlidcbkcaaDoor.WalkMacOne
