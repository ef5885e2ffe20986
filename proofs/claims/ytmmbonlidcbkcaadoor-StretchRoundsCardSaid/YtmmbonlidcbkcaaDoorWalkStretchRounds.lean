/- StretchRounds, walked. -/
import Derived.Test.YtmmbonlidcbkcaaDoorMacA
import Derived.Deep.RegionHeld3
import Derived.Deep.MidRow
import Derived.Deep.Cut
import Derived.Test.YtmmbonlidcbkcaaDoorStAw
namespace Go.Proofs.YtmmbonlidcbkcaaDoor.WalkStretchRounds
open Go.RowKit Go.Proofs.YtmmbonlidcbkcaaDoorW.PrintWords Go.Proofs.YtmmbonlidcbkcaaDoor.Num Go.Proofs.YtmmbonlidcbkcaaDoor.Sha Go.Proofs.YtmmbonlidcbkcaaDoor.Hmac Go.Proofs.YtmmbonlidcbkcaaDoor.WordC Go.Proofs.YtmmbonlidcbkcaaDoor.Arr Go.Proofs.YtmmbonlidcbkcaaDoor.App Go.Proofs.YtmmbonlidcbkcaaDoor.DgC Go.Proofs.YtmmbonlidcbkcaaDoor.DgBlock Go.Proofs.YtmmbonlidcbkcaaDoor.DgState Go.Proofs.YtmmbonlidcbkcaaDoor.DgAdd Go.Proofs.YtmmbonlidcbkcaaDoor.DgSum Go.Proofs.YtmmbonlidcbkcaaDoor.DgOf Go.Proofs.YtmmbonlidcbkcaaDoor.DgCopy Go.Proofs.YtmmbonlidcbkcaaDoor.DgLaw Go.Proofs.YtmmbonlidcbkcaaDoor.DgWords Go.Proofs.YtmmbonlidcbkcaaDoor.DgParts Go.Proofs.YtmmbonlidcbkcaaDoor.RefOf Go.Proofs.YtmmbonlidcbkcaaDoor.MacC Go.Proofs.YtmmbonlidcbkcaaDoor.MacTag Go.Proofs.YtmmbonlidcbkcaaDoor.MacLaw Go.Proofs.YtmmbonlidcbkcaaDoor.MacAwake Go.Proofs.YtmmbonlidcbkcaaDoor.MacHold Go.Proofs.YtmmbonlidcbkcaaDoor.MacNew Go.Proofs.YtmmbonlidcbkcaaDoor.MacRef Go.Proofs.YtmmbonlidcbkcaaDoor.MacNil Go.Proofs.YtmmbonlidcbkcaaDoor.MacMany Go.Proofs.YtmmbonlidcbkcaaDoor.StC Go.Proofs.YtmmbonlidcbkcaaDoor.StAw
set_option linter.unusedVariables false
set_option linter.unusedSimpArgs false

set_option maxHeartbeats 8000000 in
set_option maxRecDepth 100000 in
theorem walk (A : Option Addr) (n c : Nat) (pass : List Int) {w : World} (hr : Rd w A n c pass) (hB : IsB pass) (hn : n ≤ 140737488351232) (B : Option Addr) (m d : Nat) (salt : List Int) (hr' : Rd w B m d salt) (hS : IsB salt) (hm : m ≤ 140737488351232) (p : Int) (hp : (Lit.int .u8 p).wf = true) (ht : Tb w) :
    Calls Tryd.prog 17 #[.slice A n c, .slice B m d, .int .u8 p] w fun e w' => e = .returned (.bool true) ∧ Below w.heap.size w w' := by
  obtain ⟨hp0, hp1⟩ := wf_u8 hp
  clear hp
  by_cases h1 : n ≤ 400
  · have b1 : ¬ (400 : Int) < (n : Int) := by omega
    by_cases h2 : m ≤ 400
    · have b2 : ¬ (400 : Int) < (m : Int) := by omega
      have HL := Aside0.mk hr.len
      have HLS := Aside0.mk hr'.len
      have htl := told_length 4 1
      have htI := told_isB 4 1
      obtain ⟨X, HX⟩ : ∃ X, Aside0 (told 4 1 = X) := ⟨_, ⟨rfl⟩⟩
      rw [HX.out] at htl htI
      have HXL := Aside0.mk htl
      have hu0 := tagS_length pass (salt ++ X)
      have hiu0 := tagS_isB pass (salt ++ X)
      have hone : ∀ T : Nat, stretchS pass salt (T + 1) 32 = sumS pass (tagS pass (salt ++ X)) T := fun T => by
        rw [stretchS_one, ← HX.out]; rfl
      obtain ⟨u0, HU0⟩ : ∃ u0, Aside0 (tagS pass (salt ++ X) = u0) := ⟨_, ⟨rfl⟩⟩
      rw [HU0.out] at hu0 hiu0 hone
      have HUL := Aside0.mk hu0
      have HONE := Aside0.mk hone
      clear htl hu0 hone
      go_enter Tryd.func17, Tryd.ntmps17
      go_wp2_with fail
      have m0 : 1 ≤ p % 16 + 1 := by omega
      have m1 : p % 16 + 1 ≤ 16 := by omega
      generalize p % 16 + 1 = mm at m0 m1 ⊢
      obtain ⟨M, rfl⟩ := Int.eq_ofNat_of_zero_le (show 0 ≤ mm by omega)
      refine (Told_c (by omega) (by omega) 4 (by omega) rfl).mono ?_
      rintro x w1 ⟨v1, rfl, ho1, hb1⟩
      rw [HX.out] at ho1
      obtain ⟨A1, c1, rfl, r1⟩ := rd_of_own ho1
      rw [HXL.out] at r1 ⊢
      clear ho1
      go_wp2_with fail
      refine (join33_c (hr'.below hb1) r1 (by omega)).mono ?_
      rintro x w2 ⟨v2, rfl, ho2, hb2⟩
      obtain ⟨A2, c2, rfl, r2⟩ := rd_of_own ho2
      have hl2 : (salt ++ X).length = m + 4 := by rw [List.length_append, HLS.out, HXL.out]
      rw [hl2] at r2 ⊢
      clear ho2 hl2 r1
      have hB2 := below_next hb1 hb2
      go_wp2_with fail
      refine (reftag36_c (hr.below hB2) hB hn r2 (isB_append hS htI) (by omega)).mono ?_
      rintro x w3 ⟨v3, rfl, ho3, hb3⟩
      rw [HU0.out] at ho3
      obtain ⟨A3, c3, rfl, r3⟩ := rd_of_own ho3
      rw [HUL.out] at ho3 r3 ⊢
      have hB3 := below_next hB2 hb3
      have hlt3 := ow_lt ho3
      clear r2
      go_wp2_with fail
      refine (own44_c r3 (by omega)).mono ?_
      rintro x w5 ⟨v5, rfl, ho5, hb5⟩
      obtain ⟨A5, c5, rfl, r5⟩ := rd_of_own ho5
      rw [HUL.out] at ho5 r5 ⊢
      have hge5 := ow_ge ho5
      have hO4 : Aside0 (Ow w5 w.heap.size (.slice A3 32 c3) (stepS pass u0 0)) := ⟨Kd.R_lower (Kd.R_below ho3 hb5) hB2.size⟩
      have hO5 : Aside0 (Ow w5 w3.heap.size (.slice A5 32 c5) (sumS pass u0 0)) := ⟨ho5⟩
      have hne : Aside0 (∀ k, (Value.slice A3 32 c3).ownBlock = some k → some k ≠ (Value.slice A5 32 c5).ownBlock) := ⟨fun k hk e => by have := hlt3 k hk; have := hge5 k e.symm; omega⟩
      have HGE5 := Aside0.mk hge5
      clear ho3 ho5 hlt3 hge5 r3 r5
      go_wp2_with fail
      go_loopw [10, 8] (fun i v wr => ∃ (T : Nat) (A6 : Option Addr) (c6 : Nat), T ≤ M ∧ i = .int .i64 ((T : Int) + 1) ∧ .slice A6 32 c6 = v ∧ Aside0 (Ow wr w.heap.size (.slice A6 32 c6) (stepS pass u0 T)) ∧ Aside0 (Ow wr w3.heap.size (.slice A5 32 c5) (sumS pass u0 T)) ∧ Aside0 (∀ k, (Value.slice A6 32 c6).ownBlock = some k → some k ≠ (Value.slice A5 32 c5).ownBlock) ∧ Below w3.heap.size w3 wr) (fun i _ _ => M + 1 - (intOf i).toNat)
      case atStart => exact ⟨0, _, _, by omega, rfl, rfl, hO4, hO5, hne, hb5⟩
      case round =>
        clear hO4 hO5 hne hb5
        obtain ⟨T, A6, c6, hT, rfl, rfl, hU, hX, hN, hb⟩ := hrel
        have hB4 := below_next hB3 hb
        by_cases hlt2 : T < M
        · have hlt2' : (T : Int) + 1 ≤ (M : Int) := by omega
          have hlu' := stepS_length pass u0 HUL.out (T + 1)
          have hlu := stepS_length pass u0 HUL.out T
          have hls := sumS_length pass u0 HUL.out T
          have hiu := stepS_isB pass u0 hiu0 T
          have hone := HONE.out T
          have HNS : Aside0 (sumS pass u0 (T + 1) = xorL (sumS pass u0 T) (stepS pass u0 (T + 1))) := ⟨rfl⟩
          have HNU : Aside0 (tagS pass (stepS pass u0 T) = stepS pass u0 (T + 1)) := ⟨rfl⟩
          obtain ⟨U, HU⟩ : ∃ U, Aside0 (stepS pass u0 T = U) := ⟨_, ⟨rfl⟩⟩
          obtain ⟨V, HV⟩ : ∃ V, Aside0 (stepS pass u0 (T + 1) = V) := ⟨_, ⟨rfl⟩⟩
          obtain ⟨S, HS⟩ : ∃ S, Aside0 (sumS pass u0 T = S) := ⟨_, ⟨rfl⟩⟩
          rw [HU.out] at hU hlu hiu HNU
          rw [HV.out] at hlu' HNS HNU
          rw [HS.out] at hX hls HNS hone
          have HLU := Aside0.mk hlu
          have HLV := Aside0.mk hlu'
          have HLS' := Aside0.mk hls
          have HO1 := Aside0.mk hone
          clear hlu hlu' hls hN hone
          go_wp2_with fail
          refine (own44_c (hr.below hB4) hn).mono ?_
          rintro x w6 ⟨v6, rfl, ho6, hb6⟩
          obtain ⟨A7, c7, rfl, r7⟩ := rd_of_own ho6
          rw [HL.out] at r7 ⊢
          clear ho6
          have hB6 := below_next hB4 hb6
          go_wp2_with fail
          refine (own44_c (hr'.below hB6) hm).mono ?_
          rintro x w7 ⟨v7, rfl, ho7, hb7⟩
          obtain ⟨A8, c8, rfl, r8⟩ := rd_of_own ho7
          rw [HLS.out] at r8 ⊢
          clear ho7
          have hB7 := below_next hB6 hb7
          go_wp2_with fail
          refine (Key45_c (r7.below hb7) hB (by omega) r8 hS (by omega) (by omega) (by omega) (by omega) (by omega) (ht.below hB7)).mono ?_
          rintro x w8 ⟨A9, c9, rfl, r9, hb8⟩
          have e1 : ((T : Int) + 1).toNat = T + 1 := by omega
          simp only [show (32 : Int).toNat = 32 from rfl, e1] at r9 ⊢
          rw [HO1.out] at r9
          clear e1 r7 r8
          have hB8 := below_next hB7 hb8
          have hX8 := Kd.R_below (Kd.R_below (Kd.R_below hX.out hb6) hb7) hb8
          have hU8 := Kd.R_below (Kd.R_below (Kd.R_below hU.out hb6) hb7) hb8
          have hrX := Kd.R_reads' hX8
          have hrX' : Rd w8 A5 32 c5 S := ⟨HLS'.out, hrX.2.1, by have := hrX.2.2; rwa [HLS'.out] at this⟩
          have hrU := Kd.R_reads' hU8
          have hrU' : Rd w8 A6 32 c6 U := ⟨HLU.out, hrU.2.1, by have := hrU.2.2; rwa [HLU.out] at this⟩
          have s1 := rd_string r9
          have s2 := rd_string hrX'
          have g1 : ((strOfNums S).toList == (strOfNums S).toList) = true := str_self _
          have g2 : ((strOfNums S).toList != (strOfNums S).toList) = false := by simp
          have hb68 := below_next (below_next hb6 hb7) hb8
          have hB68 := below_next hb hb68
          have HX8 := Aside0.mk hX8
          clear r9 hrX hrU hrX' hX hU hX8 hU8
          go_wp2_with fail
          refine (reftag36_c (hr.below hB8) hB hn hrU' hiu (by omega)).mono ?_
          rintro x w9 ⟨v9, rfl, ho9, hb9⟩
          rw [HNU.out] at ho9
          obtain ⟨A10, c10, rfl, r10⟩ := rd_of_own ho9
          rw [HLV.out] at ho9 ⊢
          have hB9 := below_next hB68 hb9
          have hX9 := Kd.R_below HX8.out hb9
          have hge7 := ow_ge ho9
          have hlt5 := ow_lt HX8.out
          have hX6' : Aside0 (Ow w9 w3.heap.size (.slice A5 32 c5) (xorP S V 0)) := ⟨by rw [xorP_zero]; exact hX9⟩
          have hne7 : Aside0 (∀ k, (Value.slice A10 32 c10).ownBlock = some k → some k ≠ (Value.slice A5 32 c5).ownBlock) := ⟨fun k hk e => by have := hge7 k hk; have := hlt5 k e.symm; omega⟩
          have HO6 : Aside0 (Ow w9 w.heap.size (.slice A10 32 c10) V) := ⟨Kd.R_lower ho9 hB8.size⟩
          clear r10 hrU' ho9 hX9 hge7 hlt5 HNU s1 s2 g1 g2
          go_wp2_with fail
          go_loopw [62] (fun i wq => ∃ J : Nat, J ≤ 32 ∧ i = .int .i64 J ∧ Aside0 (Ow wq w3.heap.size (.slice A5 32 c5) (xorP S V J)) ∧ Aside0 (Ow wq w.heap.size (.slice A10 32 c10) V) ∧ Below w3.heap.size w3 wq) (fun i _ => 32 - (intOf i).toNat)
          case atStart => exact ⟨0, by omega, rfl, hX6', HO6, hB9⟩
          case round =>
            clear hX6' HO6 hB9
            obtain ⟨J, hJ, rfl, hX, hO, hbq⟩ := hrel
            by_cases hlj : J < 32
            · have hlj' : (J : Int) < 32 := by omega
              have hsv : S.length = V.length := by rw [HLS'.out, HLV.out]
              have hxl := xorP_length S V hsv J
              rw [HLS'.out] at hxl
              have hxo := Kd.own_of_R hX.out
              rw [hxl] at hxo
              obtain ⟨gx, rfl⟩ : ∃ gx, A5 = some ⟨gx, 0, none⟩ := by
                rcases hxo.2 with ⟨_, h0⟩ | ⟨g', cap', cur, hv, _⟩
                · omega
                · injection hv with hv; exact ⟨g', hv⟩
              have hoo := Kd.own_of_R hO.out
              rw [HLV.out] at hoo
              obtain ⟨gv, rfl⟩ : ∃ gv, A10 = some ⟨gv, 0, none⟩ := by
                rcases hoo.2 with ⟨_, h0⟩ | ⟨g', cap', cur, hv, _⟩
                · omega
                · injection hv with hv; exact ⟨g', hv⟩
              have hat := own_at (k := .u8) (xs := xorP S V J) hxo (J : Int) (by omega) (by omega)
              have hav := own_at (k := .u8) (xs := V) hoo (J : Int) (by omega) (by omega)
              simp only [Int.toNat_natCast] at hat hav
              have hgd : rd (xorP S V J) J = S.getD J 0 := by
                have := xorP_getD S V hsv J (by rw [HLS'.out]; exact hlj)
                simpa [rd] using this
              have hgd2 : rd V J = V.getD J 0 := by simp [rd]
              rw [hgd] at hat
              rw [hgd2] at hav
              obtain ⟨hc1, hf1⟩ := hat
              obtain ⟨hc2, hf2⟩ := hav
              have hset := xorP_set S V hsv J (by rw [HLS'.out]; exact hlj)
              have hst := own_store (k := .u8) (xs := xorP S V J) hxo (J : Int) (xor8 (S.getD J 0) (V.getD J 0))
              simp only [Int.toNat_natCast] at hst
              rw [hset] at hst
              generalize S.getD J 0 = x1 at *
              generalize V.getD J 0 = x2 at *
              have HX' : Aside0 (Ow (wr.setCell ⟨gx, J, none⟩ (.int .u8 (bits BinOp.xor IntKind.u8 x1 x2))) w3.heap.size (.slice (some ⟨gx, 0, none⟩) 32 c5) (xorP S V (J + 1))) := ⟨Kd.R_of_own (by rw [xorP_length S V hsv, HLS'.out]; exact hst.1) (fun _ _ => trivial)⟩
              have HO' : Aside0 (Ow (wr.setCell ⟨gx, J, none⟩ (.int .u8 (bits BinOp.xor IntKind.u8 x1 x2))) w.heap.size (.slice (some ⟨gv, 0, none⟩) 32 c10) V) := ⟨Kd.R_grown2 hO.out rfl hst.2 (fun k hk e => hne7.out k e.symm hk.symm)⟩
              have hB' : Below w3.heap.size w3 (wr.setCell ⟨gx, J, none⟩ (.int .u8 (bits BinOp.xor IntKind.u8 x1 x2))) := hbq.grown hst.2 hbq.size HGE5.out
              have HX'' := Aside0.mk (Kd.R_drew HX'.out)
              have HO'' := Aside0.mk (Kd.R_drew HO'.out)
              clear hxo hst hoo hset hgd hgd2 hsv hxl hX hO HX' HO'
              go_wp2_with fail
              go_region
              go_wp2_with fail
              go_roundw
              case rel => exact ⟨J + 1, by omega, by go_num, HX'', HO'', hB'.drew⟩
              case measure => simp [intOf]; omega
            · have hge : ¬ (J : Int) < 32 := by omega
              have h32 : J = 32 := by omega
              have hX' := hX.out
              rw [h32, xorP_full S V 32 (by rw [HLS'.out, HLV.out]) HLS'.out, ← HNS.out] at hX'
              have hO' := hO.out
              rw [← HV.out] at hO'
              have HX' := Aside0.mk hX'
              have HO' := Aside0.mk hO'
              clear h32 hX' hO' hX hO
              go_wp2_with fail
              go_roundw
              case rel => exact ⟨T + 1, A10, c10, by omega, by go_num, rfl, HO', HX', hne7, hbq⟩
              case measure => simp [intOf]; omega
        · have hge : ¬ (T : Int) + 1 ≤ (M : Int) := by omega
          clear hX hU hN
          go_wp2_with fail
          refine (awake43_c (ht.below hB4)).mono ?_
          rintro x w5 ⟨rfl, hb5⟩
          go_wp2_with fail
          go_ret
          exact ⟨rfl, below_next hB4 hb5⟩
    · have b2 : (400 : Int) < (m : Int) := by omega
      go_enter Tryd.func17, Tryd.ntmps17
      go_wp2_with fail
      refine (awake43_c ht).mono ?_
      rintro x w5 ⟨rfl, hb5⟩
      go_wp2_with fail
      go_ret
      exact ⟨rfl, hb5⟩
  · have b1 : (400 : Int) < (n : Int) := by omega
    go_enter Tryd.func17, Tryd.ntmps17
    go_wp2_with fail
    refine (awake43_c ht).mono ?_
    rintro x w5 ⟨rfl, hb5⟩
    go_wp2_with fail
    go_ret
    exact ⟨rfl, hb5⟩
end Go.Proofs.YtmmbonlidcbkcaaDoor.WalkStretchRounds
