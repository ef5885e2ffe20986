/- DigestAdds, walked. -/
import Derived.Test.YtmmbonlidcbkcaaDoorDgLaw
import Derived.Deep.RegionHeld3
import Derived.Test.YtmmbonlidcbkcaaDoorDgParts
import Derived.Test.YtmmbonlidcbkcaaDoorWalkDigestParts
import Derived.Test.YtmmbonlidcbkcaaDoorWalkDigestCopies
namespace Go.Proofs.YtmmbonlidcbkcaaDoor.WalkDigestAdds
open Go.RowKit Go.Proofs.YtmmbonlidcbkcaaDoorW.PrintWords Go.Proofs.YtmmbonlidcbkcaaDoor.Num Go.Proofs.YtmmbonlidcbkcaaDoor.Sha Go.Proofs.YtmmbonlidcbkcaaDoor.WordC Go.Proofs.YtmmbonlidcbkcaaDoor.Arr Go.Proofs.YtmmbonlidcbkcaaDoor.App Go.Proofs.YtmmbonlidcbkcaaDoor.DgC Go.Proofs.YtmmbonlidcbkcaaDoor.DgBlock Go.Proofs.YtmmbonlidcbkcaaDoor.DgState Go.Proofs.YtmmbonlidcbkcaaDoor.DgAdd Go.Proofs.YtmmbonlidcbkcaaDoor.DgSum Go.Proofs.YtmmbonlidcbkcaaDoor.DgOf Go.Proofs.YtmmbonlidcbkcaaDoor.DgCopy Go.Proofs.YtmmbonlidcbkcaaDoor.DgLaw Go.Proofs.YtmmbonlidcbkcaaDoor.DgWords Go.Proofs.YtmmbonlidcbkcaaDoor.RefOf Go.Proofs.YtmmbonlidcbkcaaDoor.DgParts Go.Proofs.YtmmbonlidcbkcaaDoor.WalkDigestParts Go.Proofs.YtmmbonlidcbkcaaDoor.WalkDigestCopies
set_option linter.unusedVariables false
set_option linter.unusedSimpArgs false

theorem ow_lt {w : World} {base : Nat} {u : Value} {xs : List Int} (h : Ow w base u xs) : ∀ k, u.ownBlock = some k → k < w.heap.size := fun k hk => by
  obtain ⟨inner, hi⟩ := Kd.R_own h
  exact own_lt hi k hk
theorem ow_ge {w : World} {base : Nat} {u : Value} {xs : List Int} (h : Ow w base u xs) : ∀ k, u.ownBlock = some k → base ≤ k := fun k hk => by
  obtain ⟨inner, hi⟩ := Kd.R_own h
  exact own_base hi k hk
theorem ow_ne {w : World} {base g t : Nat} {u : Value} {xs : List Int} {cs : List Value} (h : Ow w base u xs) (hg : Blk w g t cs) (ht : t ≠ 5) : some g ≠ u.ownBlock := fun e => by
  obtain ⟨cells, hc⟩ := Kd.R_typed h g e.symm
  have hg' := hc.symm.trans hg
  injection hg' with hg'; injection hg' with _ hg'
  exact ht hg'.symm
theorem ow_fr {w w1 : World} {base base' g : Nat} {u v : Value} {xs b : List Int} {row : Option Nat} (h : Ow w base u xs) (hS : St w base' g v b) (hf : Fr w w1 g row) (hne : u.ownBlock = none ∨ u.ownBlock ≠ row) : Ow w1 base u xs :=
  Kd.R_mono (Kd.R_step (Kd.R_tight rfl h) (fun k hk hlt => hf.block k hlt (by rintro rfl; exact ow_ne h hS.blk (by decide) hk) (by
    rcases hne with e | e
    · rw [e] at hk; cases hk
    · rw [hk]; exact e))) (fun _ _ => trivial)
theorem st_grown {w w1 : World} {base g : Nat} {v : Value} {b : List Int} {row : Option Nat} (h : St w base g v b) (hg : w.grownBy w1 row) (h2 : some g ≠ row) (h4 : v.ownBlock = none ∨ v.ownBlock ≠ row) : St w1 base g v b :=
  ⟨h.ge, h.isB, blk_grow h.blk hg h2, q_move h.tail (fun k hk => hg.block k (h.row_lt k hk) (by
    rcases h4 with e | e
    · rw [e] at hk; cases hk
    · rw [← hk]; exact e))⟩
set_option maxHeartbeats 8000000 in
set_option maxRecDepth 100000 in
theorem walk (A : Option Addr) (n c : Nat) (ll : List (List Int)) {w : World} (hP : Pt w A n c ll) (hB : ∀ l ∈ ll, IsB l) (ht : Tb w) :
    Calls Tryd.prog 5 #[.slice A n c] w fun e w' => e = .returned (.bool true) ∧ Below w.heap.size w w' := by
  have hn := hP.len
  have ht0 := ht.lt
  have HN := Aside0.mk hn
  cases hf : fewB ll with
  | false =>
    have HF := Aside0.mk hf
    clear hf hn
    go_enter Tryd.func5, Tryd.ntmps5
    go_wp2_with fail
    refine (few_c hP).mono ?_
    rintro x w1 ⟨rfl, rfl⟩
    rw [HF.out]
    go_wp2_with fail
    refine (awake02_c ht).mono ?_
    rintro x w5 ⟨rfl, hb5⟩
    go_wp2_with fail
    go_ret
    exact ⟨rfl, hb5⟩
  | true =>
    have hf' := fewB_iff.1 hf
    have hl4 := flat_400 ll hf'.2
    have hn20 : n ≤ 20 := by omega
    have hlen : ll.flatten.length ≤ 8000 := by omega
    have HF := Aside0.mk hf
    have HB := Aside0.mk hB
    have HP := Aside0.mk hP
    clear hf hn hf' hl4
    go_enter Tryd.func5, Tryd.ntmps5
    go_wp2_with fail
    refine (few_c hP).mono ?_
    rintro x w1 ⟨rfl, rfl⟩
    rw [HF.out]
    go_wp2_with fail
    refine New_c.mono ?_
    rintro x w1 ⟨g, rfl, hS1, hb1⟩
    have h0 : Aside0 (Ow w1 w.heap.size (.slice none 0 0) (ll.take 0).flatten) := ⟨Kd.R_nil _ _ _ _ _⟩
    have h1 : Aside0 (St w1 w.heap.size g (.slice none 0 0) (ll.take 0).flatten) := ⟨hS1⟩
    have h2 : Aside0 ((Value.slice none 0 0).ownBlock = none ∨ (Value.slice none 0 0).ownBlock ≠ (Value.slice none 0 0).ownBlock) := ⟨.inl rfl⟩
    clear hS1
    go_wp2_with fail
    go_loopw [16, 4] (fun i v4 wr => ∃ (j : Nat) (u4 v : Value), j ≤ n ∧ i = .int .i64 j ∧ u4 = v4 ∧ Aside0 (Ow wr w.heap.size u4 (ll.take j).flatten) ∧ Aside0 (St wr w.heap.size g v (ll.take j).flatten) ∧ Aside0 (u4.ownBlock = none ∨ u4.ownBlock ≠ v.ownBlock) ∧ Below w.heap.size w wr) (fun i _ _ => n - (intOf i).toNat)
    case atStart => exact ⟨0, _, _, by omega, rfl, rfl, h0, h1, h2, hb1⟩
    case round =>
      clear h0 h1 h2 hb1
      obtain ⟨j, u4, v, hj, rfl, rfl, hV, hS, hne, hb⟩ := hrel
      by_cases hlt : j < n
      · have hlt' : (j : Int) < (n : Int) := by omega
        obtain ⟨ad, Ai, ci, rfl, hcell0, hrd⟩ := HP.out.at_ j hlt
        have hcell := pw_cell_below hb hcell0
        have hnext := flat_take ll j (by have := HN.out; omega)
        have hle := flat_le ll (j + 1)
        rw [hnext, List.length_append] at hle
        have hIB := part_isB HB.out j
        obtain ⟨p, HPP⟩ : ∃ p, Aside0 (ll.getD j [] = p) := ⟨_, ⟨rfl⟩⟩
        rw [HPP.out] at hnext hle hIB hrd hcell
        have HNEXT := Aside0.mk hnext
        obtain ⟨q, HQ⟩ : ∃ q, Aside0 (p.length = q) := ⟨_, ⟨rfl⟩⟩
        rw [HQ.out] at hle hrd hcell
        have HRD := Aside0.mk hrd
        clear hnext hrd hcell0
        go_wp2_with fail
        refine (own_c (HRD.out.below hb) (by omega)).mono ?_
        rintro x w2 ⟨v2, rfl, ho2, hb2⟩
        obtain ⟨A2, c2, rfl, hr2⟩ := rd_of_own ho2
        rw [HQ.out] at ho2 hr2 ⊢
        have hB2 := below_next hb hb2
        have hS2 := hS.out.below hb2
        have hV2 : Ow w2 w.heap.size u4 (ll.take j).flatten := Kd.R_below hV.out hb2
        clear hcell
        go_wp2_with fail
        refine (Add_c hS2 hr2 hIB (ht.below hB2) ht0 hB2.size (by omega)).mono ?_
        rintro x w3 ⟨rfl, v3, hS3, hf3, hat3⟩
        have hB3 := hf3.below hB2 hB2.size hS2.ge hS2.row_ge
        have hu_lt := ow_lt hV.out
        have hu_lt2 := ow_lt hV2
        have hx_ge := ow_ge ho2
        have hx_lt := ow_lt ho2
        have hxv := other hS.out.row_lt hx_ge
        have hv3x := other' hat3 hxv hx_lt
        have hv3u := other' hat3 hne.out hu_lt2
        have hV3 := ow_fr hV2 hS2 hf3 hne.out
        have hx3 := ow_fr ho2 hS2 hf3 hxv
        have HX3 : Aside0 (Ow w3 wr.heap.size (.slice A2 q c2) p) := ⟨hx3⟩
        have hgr : Aside0 (w3.grownBy w3 (Value.slice A2 q c2).ownBlock) := ⟨World.grownBy.refl _ _⟩
        have HPL : Aside0 (p.length = q) := HQ
        have HGX := Aside0.mk (ow_ne hx3 hS3.blk (by decide))
        have HS3 := Aside0.mk hS3
        have HV3 := Aside0.mk hV3
        have HV3X := Aside0.mk hv3x
        have HV3U := Aside0.mk hv3u
        have HXG := Aside0.mk hx_ge
        have HUL := Aside0.mk hu_lt
        have hqm : q ≤ 8000 := by omega
        clear hS2 hr2 hf3 hat3 ho2 hV2 hx3 hS3 hV3 hv3x hv3u hx_ge hu_lt hu_lt2 hx_lt hxv hb2 hB2 hne hV hS
        go_wp2_with fail
        obtain ⟨wo, hwo⟩ : ∃ wo : World, wo = wr := ⟨_, rfl⟩
        rw [← hwo] at HX3 HXG HUL hb
        clear hwo
        go_loopw [27] (fun i wq => ∃ (T : Nat) (xs : List Int), T ≤ q ∧ i = .int .i64 T ∧ Aside0 (xs.length = q) ∧ Aside0 (Ow wq wo.heap.size (.slice A2 q c2) xs) ∧ Aside0 (w3.grownBy wq (Value.slice A2 q c2).ownBlock)) (fun i _ => q - (intOf i).toNat)
        case atStart => exact ⟨0, p, by omega, rfl, HPL, HX3, hgr⟩
        case round =>
          clear HX3 hgr HPL
          obtain ⟨T, xs, hT, rfl, hxl, hX, hG⟩ := hrel
          by_cases hlt : T < q
          · have hlt' : (T : Int) < (q : Int) := by omega
            have hxo := Kd.own_of_R hX.out
            rw [hxl.out] at hxo
            obtain ⟨gx, rfl⟩ : ∃ gx, A2 = some ⟨gx, 0, none⟩ := by
              rcases hxo.2 with ⟨_, h0⟩ | ⟨g', cap', cur, hv, _⟩
              · omega
              · injection hv with hv; exact ⟨g', hv⟩
            have hat := own_at (k := .u8) (xs := xs) hxo (T : Int) (by omega) (by omega)
            simp only [Int.toNat_natCast] at hat
            obtain ⟨hc1, hf1⟩ := hat
            have hst := own_store (k := .u8) (xs := xs) hxo (T : Int) (IntKind.u8.wrap (rd xs T + 1))
            simp only [Int.toNat_natCast] at hst
            have HX' : Aside0 (Ow (wr.setCell ⟨gx, T, none⟩ (.int .u8 (IntKind.u8.wrap (rd xs T + 1)))) wo.heap.size (.slice (some ⟨gx, 0, none⟩) q c2) (xs.set T (IntKind.u8.wrap (rd xs T + 1)))) := ⟨Kd.R_of_own (by rw [List.length_set, hxl.out]; exact hst.1) (fun _ _ => trivial)⟩
            have HG' : Aside0 (w3.grownBy (wr.setCell ⟨gx, T, none⟩ (.int .u8 (IntKind.u8.wrap (rd xs T + 1)))) (Value.slice (some ⟨gx, 0, none⟩) q c2).ownBlock) := ⟨World.grownBy.trans hG.out hst.2⟩
            have HXL' : Aside0 ((xs.set T (IntKind.u8.wrap (rd xs T + 1))).length = q) := ⟨by rw [List.length_set]; exact hxl.out⟩
            clear hxo hst
            generalize rd xs T = y at *
            go_wp2_with fail
            go_roundw
            case rel => exact ⟨T + 1, _, by omega, by go_num, HXL', HX', HG'⟩
            case measure => simp [intOf]; omega
          · have hge : ¬ (T : Int) < (q : Int) := by omega
            have hgr := hG.out
            have hSq := st_grown HS3.out hgr HGX.out HV3X.out
            have hVq : Ow wr w.heap.size u4 (ll.take j).flatten := Kd.R_grown2 HV3.out rfl hgr (fun k hk e => by have := HXG.out k hk; have := HUL.out k e.symm; omega)
            have hBq : Below w.heap.size w wr := hB3.grown hgr hB3.size (fun k hk => Nat.le_trans hb.size (HXG.out k hk))
            obtain ⟨F, HFF⟩ : ∃ F, Aside0 ((ll.take j).flatten ++ p = F) := ⟨_, ⟨rfl⟩⟩
            obtain ⟨M, HM⟩ : ∃ M, Aside0 (F.length = M) := ⟨_, ⟨rfl⟩⟩
            have hM8 : M ≤ 8000 := by rw [← HM.out, ← HFF.out, List.length_append]; have := HPP.out; have := HQ.out; omega
            have hFI : IsB F := by
              rw [← HFF.out, ← HNEXT.out]
              exact flat_isB (fun l hl => HB.out l (List.mem_of_mem_take hl))
            clear hgr hG hX hxl
            go_wp2_with (first
              | (at_builtin; refine append_ow (w0 := w) w.heap.size rfl (.tmp 37) (.tmp 38) rfl u4 (ll.take j).flatten p Ai q ci rfl rfl hVq (HRD.out.below hBq) hBq hBq.size (by omega) ?_; intro v1 w5 ho1 hb5 hg5 hat5; have hS5 := st_grown hSq hg5 (ow_ne hVq hSq.blk (by decide)) HV3U.out; have HN5 := Aside0.mk (other' hat5 HV3U.out hSq.row_lt); rw [HFF.out] at ho1 hS5; clear hg5 hat5; obtain ⟨A1, c1, rfl, hr1⟩ := rd_of_own ho1; rw [HM.out] at ho1 hr1 HN5; rw [HM.out]; have HO1 := Aside0.mk ho1; clear ho1))
            refine (Sum_c hS5 (ht.below hb5) (by rw [HM.out]; omega)).mono ?_
            rintro x w6 ⟨rfl, hb6⟩
            have hB6 := below_next hb5 hb6
            go_wp2_with fail
            refine (refof_c (hr1.below hb6) hFI (by omega)).mono ?_
            rintro x w7 ⟨v7, rfl, ho7, hb7⟩
            obtain ⟨A7, c7, rfl, hr7⟩ := rd_of_own ho7
            have hB7 := below_next hB6 hb7
            clear ho7
            go_wp2_with fail
            refine (is_c hr7 (shaS_isB _) (shaS_isB _) (shaS_length _)).mono ?_
            rintro x w8 ⟨rfl, hb8⟩
            rw [eqB_self]
            have hB8 := below_next hB7 hb8
            have hS8 := Aside0.mk (((hS5.below hb6).below hb7).below hb8)
            have hO8 : Aside0 (Ow w8 w.heap.size (.slice A1 M c1) F) := ⟨Kd.R_below (Kd.R_below (Kd.R_below HO1.out hb6) hb7) hb8⟩
            clear hS5 hr1 hr7 hSq hVq
            go_wp2_with fail
            go_roundw
            case rel => exact ⟨j + 1, _, v3, by omega, by go_num, rfl, ⟨by rw [HNEXT.out, HFF.out]; exact hO8.out⟩, ⟨by rw [HNEXT.out, HFF.out]; exact hS8.out⟩, HN5, hB8⟩
            case measure => simp [intOf]; omega
      · have hge : ¬ (j : Int) < (n : Int) := by omega
        have hall : ll.take j = ll := by rw [show j = n by omega]; exact List.take_of_length_le (by rw [HN.out]; omega)
        have hV' := hV.out
        have hS' := hS.out
        rw [hall] at hV' hS'
        obtain ⟨M, HM⟩ : ∃ M, Aside0 (ll.flatten.length = M) := ⟨_, ⟨rfl⟩⟩
        rw [HM.out] at hlen
        obtain ⟨A3, c3, rfl, hr3⟩ := rd_of_own hV'
        rw [HM.out] at hr3 ⊢
        have HS' := Aside0.mk hS'
        clear hall hV' hS' hV hS hne
        go_wp2_with fail
        refine (Sum_c HS'.out (ht.below hb) (by rw [HM.out]; omega)).mono ?_
        rintro x w6 ⟨rfl, hb6⟩
        have hB6 := below_next hb hb6
        go_wp2_with fail
        refine (refof_c (hr3.below hb6) (flat_isB HB.out) (by omega)).mono ?_
        rintro x w7 ⟨v7, rfl, ho7, hb7⟩
        obtain ⟨A7, c7, rfl, hr7⟩ := rd_of_own ho7
        have hB7 := below_next hB6 hb7
        clear ho7
        go_wp2_with fail
        refine (is_c hr7 (shaS_isB _) (shaS_isB _) (shaS_length _)).mono ?_
        rintro x w8 ⟨rfl, hb8⟩
        rw [eqB_self]
        have hB8 := below_next hB7 hb8
        clear hr3 hr7
        go_wp2_with fail
        refine (awake02_c (ht.below hB8)).mono ?_
        rintro x w9 ⟨rfl, hb9⟩
        go_wp2_with fail
        go_ret
        exact ⟨rfl, below_next hB8 hb9⟩
end Go.Proofs.YtmmbonlidcbkcaaDoor.WalkDigestAdds
