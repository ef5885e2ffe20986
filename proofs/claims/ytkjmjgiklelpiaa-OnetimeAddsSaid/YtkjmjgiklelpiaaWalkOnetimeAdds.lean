/- OnetimeAdds, walked. -/
import Derived.Test.YtkjmjgiklelpiaaApp
import Derived.Test.YtkjmjgiklelpiaaQuart
import Derived.Test.YtkjmjgiklelpiaaPlainCipherBlocks
import Derived.Deep.RegionHeld3
import Derived.Deep.Cut
import Derived.Deep.CutRange
import Derived.Test.YtkjmjgiklelpiaaOtMb
import Derived.Test.YtkjmjgiklelpiaaWalkOnetimeNobody
namespace Go.Proofs.Ytkjmjgiklelpiaa.WalkOnetimeAdds
open Go.RowKit Go.Proofs.YtkjmjgiklelpiaaW.PrintWords Go.Proofs.Ytkjmjgiklelpiaa.Num Go.Proofs.Ytkjmjgiklelpiaa.WordC Go.Proofs.Ytkjmjgiklelpiaa.Arr Go.Proofs.Ytkjmjgiklelpiaa.App Go.Proofs.Ytkjmjgiklelpiaa.CiC Go.Proofs.Ytkjmjgiklelpiaa.CiD Go.Proofs.Ytkjmjgiklelpiaa.OtC Go.Proofs.Ytkjmjgiklelpiaa.OtR Go.Proofs.Ytkjmjgiklelpiaa.OtL Go.Proofs.Ytkjmjgiklelpiaa.OtM Go.Proofs.Ytkjmjgiklelpiaa.OtT Go.Proofs.Ytkjmjgiklelpiaa.OtV Go.Proofs.Ytkjmjgiklelpiaa.OtK Go.Proofs.Ytkjmjgiklelpiaa.OtN Go.Proofs.Ytkjmjgiklelpiaa.OtO Go.Proofs.Ytkjmjgiklelpiaa.OtP Go.Proofs.Ytkjmjgiklelpiaa.OtQ Go.Proofs.Ytkjmjgiklelpiaa.OtS Go.Proofs.Ytkjmjgiklelpiaa.OtU Go.Proofs.Ytkjmjgiklelpiaa.OtD Go.Proofs.Ytkjmjgiklelpiaa.OtE Go.Proofs.Ytkjmjgiklelpiaa.OtF Go.Proofs.Ytkjmjgiklelpiaa.OtG Go.Proofs.Ytkjmjgiklelpiaa.OtH Go.Proofs.Ytkjmjgiklelpiaa.OtI Go.Proofs.Ytkjmjgiklelpiaa.OtJ Go.Proofs.Ytkjmjgiklelpiaa.OtX Go.Proofs.Ytkjmjgiklelpiaa.WalkOnetimeNobody
set_option linter.unusedVariables false
set_option linter.unusedSimpArgs false

set_option maxHeartbeats 8000000 in
set_option maxRecDepth 100000 in
theorem walk (A0 : Option Addr) (n0 c0 : Nat) (k : List Int) {w : World} (hr0 : Rd w A0 n0 c0 k) (hB0 : IsB k) (hn0 : n0 ≤ 140737488351232) (A : Option Addr) (n c : Nat) (ll : List (List Int)) (hP : Pt w A n c ll) (hB : ∀ l ∈ ll, IsB l) :
    Calls Try.prog 9 #[.slice A0 n0 c0, .slice A n c] w fun e w' => e = .returned (.bool true) ∧ Below w.heap.size w w' := by
  have hn := hP.len
  have HN := Aside0.mk hn
  have HK := Aside0.mk hr0
  have HKB := Aside0.mk hB0
  have HKL := Aside0.mk hr0.len
  have HB := Aside0.mk hB
  have HP := Aside0.mk hP
  have HW := Aside0.mk (Below.refl w.heap.size w)
  clear hn hr0 hB0 hP hB
  by_cases hm : n ≤ 20
  · have hmi : ¬ (20 : Int) < (n : Int) := by omega
    go_enter Try.func9, Try.ntmps9
    go_wp2_with fail
    go_loopw [22] (fun i wr => ∃ j : Nat, j ≤ n ∧ i = .int .i64 j ∧ w = wr ∧ Aside0 (∀ q, q < j → (ll.getD q []).length ≤ 100)) (fun i _ => n - (intOf i).toNat)
    case atStart => exact ⟨0, by omega, rfl, rfl, ⟨fun q hq => by omega⟩⟩
    case round =>
      obtain ⟨j, hj, rfl, hww, hall⟩ := hrel
      subst hww
      by_cases hlt : j < n
      · have hlt' : (j : Int) < (n : Int) := by omega
        obtain ⟨ad, Ai, ci, rfl, hcell, _⟩ := HP.out.at_ j hlt
        obtain ⟨q, HQ⟩ : ∃ q, Aside0 ((ll.getD j []).length = q) := ⟨_, ⟨rfl⟩⟩
        rw [HQ.out] at hcell
        by_cases h100 : q ≤ 100
        · have h100' : ¬ (100 : Int) < (q : Int) := by omega
          go_wp2_with fail
          go_roundw
          case rel => exact ⟨j + 1, by omega, by go_num, trivial, ⟨fun p hp => by
            rcases Nat.lt_or_ge p j with h | h
            · exact hall.out p h
            · obtain rfl : p = j := by omega
              rw [HQ.out]; exact h100⟩⟩
          case measure => simp [intOf]; omega
        · have h100' : (100 : Int) < (q : Int) := by omega
          go_wp2_with fail
          refine awake25_c.mono ?_
          rintro x w5 ⟨rfl, hb5⟩
          go_wp2_with fail
          go_ret
          exact ⟨rfl, hb5⟩
      · have hge : ¬ (j : Int) < (n : Int) := by omega
        have hl100 : Aside0 (∀ l ∈ ll, l.length ≤ 100) := ⟨fun l hl => by
          obtain ⟨q, hq, rfl⟩ := List.mem_iff_getElem.1 hl
          have := hall.out q (by have := HN.out; omega)
          rw [List.getD_eq_getElem?_getD, List.getElem?_eq_getElem hq] at this
          exact this⟩
        clear hall
        go_wp2_with fail
        refine (own26_c HK.out hn0).mono ?_
        rintro x w1 ⟨v1, rfl, ho1, hb1⟩
        obtain ⟨A1, c1, rfl, r1⟩ := rd_of_own ho1
        rw [HKL.out] at r1 ⊢
        have HR1 := Aside0.mk r1
        clear ho1 r1
        go_wp2_with fail
        by_cases h32 : n0 = 32
        · subst h32
          refine (New_St HR1.out HKB.out).mono ?_
          rintro x w2 ⟨g, rfl, hS2, hb2⟩
          have hb2' := below_next hb1 hb2
          have hS2' := hS2.lower hb1.size
          have h0 : Aside0 (Ow w2 w.heap.size (.slice none 0 0) (ll.take 0).flatten) := ⟨Kd.R_nil _ _ _ _ _⟩
          have h1 : Aside0 (St w2 w.heap.size g (.slice none 0 0) (rK k) (sK k) (ll.take 0).flatten) := ⟨hS2'⟩
          have h2 : Aside0 ((Value.slice none 0 0).ownBlock = none ∨ (Value.slice none 0 0).ownBlock ≠ (Value.slice none 0 0).ownBlock) := ⟨.inl rfl⟩
          have hl4 := flat_100 ll hl100.out
          have hlen : ll.flatten.length ≤ 2000 := by have := HN.out; omega
          obtain ⟨r, HRR⟩ : ∃ z, Aside0 (rK k = z) := ⟨_, ⟨rfl⟩⟩
          obtain ⟨s, HSS⟩ : ∃ z, Aside0 (sK k = z) := ⟨_, ⟨rfl⟩⟩
          rw [HRR.out, HSS.out] at h1
          clear hS2 hS2' hl4 hb2 hb1
          go_wp2_with fail
          go_loopw [57, 9] (fun i v4 wr => ∃ (j : Nat) (u4 v : Value), j ≤ n ∧ i = .int .i64 j ∧ u4 = v4 ∧ Aside0 (Ow wr w.heap.size u4 (ll.take j).flatten) ∧ Aside0 (St wr w.heap.size g v r s (ll.take j).flatten) ∧ Aside0 (u4.ownBlock = none ∨ u4.ownBlock ≠ v.ownBlock) ∧ Below w.heap.size w wr) (fun i _ _ => n - (intOf i).toNat)
          case atStart => exact ⟨0, _, _, by omega, rfl, rfl, h0, h1, h2, hb2'⟩
          case round =>
            clear h0 h1 h2 hb2'
            obtain ⟨j, u4, v, hj, rfl, rfl, hV, hS, hne, hb⟩ := hrel
            by_cases hlt : j < n
            · have hlt' : (j : Int) < (n : Int) := by omega
              obtain ⟨ad, Ai, ci, rfl, hcell0, hrd⟩ := HP.out.at_ j hlt
              have hcell := pw_cell_below hb hcell0
              have hnext := flat_take ll j (by have := HN.out; omega)
              have hle := flat_le ll (j + 1)
              rw [hnext, List.length_append] at hle
              have hIB := part_isB HB.out j
              obtain ⟨p, HPP⟩ : ∃ p, Aside0 (ll.getD j [] = p) := ⟨_, ⟨rfl⟩⟩
              rw [HPP.out] at hnext hle hIB hrd hcell
              have HNEXT := Aside0.mk hnext
              obtain ⟨q, HQ⟩ : ∃ q, Aside0 (p.length = q) := ⟨_, ⟨rfl⟩⟩
              rw [HQ.out] at hle hrd hcell
              have HRD := Aside0.mk hrd
              clear hnext hrd hcell0
              go_wp2_with fail
              refine (own26_c (HRD.out.below hb) (by omega)).mono ?_
              rintro x w2 ⟨v2, rfl, ho2, hb2⟩
              obtain ⟨A2, c2, rfl, hr2⟩ := rd_of_own ho2
              rw [HQ.out] at ho2 hr2 ⊢
              have hB2 := below_next hb hb2
              have hS2 := hS.out.below hb2
              have hV2 : Ow w2 w.heap.size u4 (ll.take j).flatten := Kd.R_below hV.out hb2
              clear hcell
              go_wp2_with fail
              refine (Add_c hS2 hr2 hIB hB2.size (by omega)).mono ?_
              rintro x w3 ⟨rfl, v3, hS3, hf3, hat3⟩
              have hB3 := hf3.below hB2 hB2.size hS2.ge hS2.row_ge
              have hu_lt := ow_lt hV.out
              have hu_lt2 := ow_lt hV2
              have hx_ge := ow_ge ho2
              have hx_lt := ow_lt ho2
              have hxv := other hS.out.row_lt hx_ge
              have hv3x := other' hat3 hxv hx_lt
              have hv3u := other' hat3 hne.out hu_lt2
              have hV3 := ow_fr hV2 hS2 hf3 hne.out
              have hx3 := ow_fr ho2 hS2 hf3 hxv
              have HX3 : Aside0 (Ow w3 wr.heap.size (.slice A2 q c2) p) := ⟨hx3⟩
              have hgr : Aside0 (w3.grownBy w3 (Value.slice A2 q c2).ownBlock) := ⟨World.grownBy.refl _ _⟩
              have HPL : Aside0 (p.length = q) := HQ
              have HGX := Aside0.mk (ow_ne hx3 hS3.blk (by decide))
              have HS3 := Aside0.mk hS3
              have HV3 := Aside0.mk hV3
              have HV3X := Aside0.mk hv3x
              have HV3U := Aside0.mk hv3u
              have HXG := Aside0.mk hx_ge
              have HUL := Aside0.mk hu_lt
              have hqm : q ≤ 2000 := by omega
              clear hS2 hr2 hf3 hat3 ho2 hV2 hx3 hS3 hV3 hv3x hv3u hx_ge hu_lt hu_lt2 hx_lt hxv hb2 hB2 hne hV hS
              go_wp2_with fail
              obtain ⟨wo, hwo⟩ : ∃ wo : World, wo = wr := ⟨_, rfl⟩
              rw [← hwo] at HX3 HXG HUL hb
              clear hwo
              go_loopw [68] (fun i wq => ∃ (T : Nat) (xs : List Int), T ≤ q ∧ i = .int .i64 T ∧ Aside0 (xs.length = q) ∧ Aside0 (Ow wq wo.heap.size (.slice A2 q c2) xs) ∧ Aside0 (w3.grownBy wq (Value.slice A2 q c2).ownBlock)) (fun i _ => q - (intOf i).toNat)
              case atStart => exact ⟨0, p, by omega, rfl, HPL, HX3, hgr⟩
              case round =>
                clear HX3 hgr HPL
                obtain ⟨T, xs, hT, rfl, hxl, hX, hG⟩ := hrel
                by_cases hlt : T < q
                · have hlt' : (T : Int) < (q : Int) := by omega
                  have hxo := Kd.own_of_R hX.out
                  rw [hxl.out] at hxo
                  obtain ⟨gx, rfl⟩ : ∃ gx, A2 = some ⟨gx, 0, none⟩ := by
                    rcases hxo.2 with ⟨_, h0⟩ | ⟨g', cap', cur, hv, _⟩
                    · omega
                    · injection hv with hv; exact ⟨g', hv⟩
                  have hat := own_at (k := .u8) (xs := xs) hxo (T : Int) (by omega) (by omega)
                  simp only [Int.toNat_natCast] at hat
                  obtain ⟨hc1, hf1⟩ := hat
                  have hst := own_store (k := .u8) (xs := xs) hxo (T : Int) (IntKind.u8.wrap (rd xs T + 1))
                  simp only [Int.toNat_natCast] at hst
                  have HX' : Aside0 (Ow (wr.setCell ⟨gx, T, none⟩ (.int .u8 (IntKind.u8.wrap (rd xs T + 1)))) wo.heap.size (.slice (some ⟨gx, 0, none⟩) q c2) (xs.set T (IntKind.u8.wrap (rd xs T + 1)))) := ⟨Kd.R_of_own (by rw [List.length_set, hxl.out]; exact hst.1) (fun _ _ => trivial)⟩
                  have HG' : Aside0 (w3.grownBy (wr.setCell ⟨gx, T, none⟩ (.int .u8 (IntKind.u8.wrap (rd xs T + 1)))) (Value.slice (some ⟨gx, 0, none⟩) q c2).ownBlock) := ⟨World.grownBy.trans hG.out hst.2⟩
                  have HXL' : Aside0 ((xs.set T (IntKind.u8.wrap (rd xs T + 1))).length = q) := ⟨by rw [List.length_set]; exact hxl.out⟩
                  clear hxo hst
                  generalize rd xs T = y at *
                  go_wp2_with fail
                  go_roundw
                  case rel => exact ⟨T + 1, _, by omega, by go_num, HXL', HX', HG'⟩
                  case measure => simp [intOf]; omega
                · have hge : ¬ (T : Int) < (q : Int) := by omega
                  have hgr := hG.out
                  have hSq := st_grown HS3.out hgr HGX.out HV3X.out
                  have hVq : Ow wr w.heap.size u4 (ll.take j).flatten := Kd.R_grown2 HV3.out rfl hgr (fun k hk e => by have := HXG.out k hk; have := HUL.out k e.symm; omega)
                  have hBq : Below w.heap.size w wr := hB3.grown hgr hB3.size (fun k hk => Nat.le_trans hb.size (HXG.out k hk))
                  obtain ⟨F, HFF⟩ : ∃ F, Aside0 ((ll.take j).flatten ++ p = F) := ⟨_, ⟨rfl⟩⟩
                  obtain ⟨M, HM⟩ : ∃ M, Aside0 (F.length = M) := ⟨_, ⟨rfl⟩⟩
                  have hM8 : M ≤ 2000 := by rw [← HM.out, ← HFF.out, List.length_append]; have := HPP.out; have := HQ.out; omega
                  have hFI : IsB F := by
                    rw [← HFF.out, ← HNEXT.out]
                    exact flat_isB (fun l hl => HB.out l (List.mem_of_mem_take hl))
                  clear hgr hG hX hxl
                  go_wp2_with (first
                    | (at_builtin; refine append_ow (w0 := w) w.heap.size rfl (.tmp 78) (.tmp 79) rfl u4 (ll.take j).flatten p Ai q ci rfl rfl hVq (HRD.out.below hBq) hBq hBq.size (by omega) ?_; intro v1 w5 ho1 hb5 hg5 hat5; have hS5 := st_grown hSq hg5 (ow_ne hVq hSq.blk (by decide)) HV3U.out; have HN5 := Aside0.mk (other' hat5 HV3U.out hSq.row_lt); rw [HFF.out] at ho1 hS5; clear hg5 hat5; obtain ⟨A1, c1, rfl, hr1⟩ := rd_of_own ho1; rw [HM.out] at ho1 hr1 HN5; rw [HM.out]; have HO1 := Aside0.mk ho1; clear ho1))
                  refine (refTag_c (HK.out.below hb5) hr1 HKB.out hFI (by omega)).mono ?_
                  rintro x w6 ⟨v6, T, rfl, ho6, hT, hb6⟩
                  have hB6 := below_next hb5 hb6
                  obtain ⟨A6, c6, rfl, hr6⟩ := rd_of_own ho6
                  have hS6 := Aside0.mk (hS5.below hb6)
                  have hO6 : Aside0 (Ow w6 w.heap.size (.slice A1 M c1) F) := ⟨Kd.R_below HO1.out hb6⟩
                  have hTT : Aside0 (tagS (endS r F) s = T) := ⟨by rw [← HRR.out, ← HSS.out]; exact IsTag.uniq (tag_ok HKL.out HKB.out hFI) hT⟩
                  have HR6 := Aside0.mk hr6
                  have s0 := rd_string (HR6.out.drew)
                  have e1 := str_self T
                  clear hS5 hr1 hSq hVq ho6 hr6 hT
                  go_wp2_with fail
                  have e2 : ((strOfNums T).toList != (strOfNums T).toList) = false := by simp
                  have HD : Below w6.heap.size w6 w6.drew := (Below.refl _ w6).drew
                  have HS6 := Aside0.mk (hS6.out.below HD)
                  go_region_with (first
                    | (go_at_call 31; (with_reducible refine (Tag_c HS6.out).mono ?_); rintro x w7 ⟨v7, rfl, ho7, hb7⟩; rw [hTT.out] at ho7; obtain ⟨A7, c7, rfl, hr7⟩ := rd_of_own ho7; have s7 := rd_string hr7; have s8 := rd_string ((HR6.out.drew).below hb7); have HB7 := Aside0.mk hb7; clear hr7 ho7 hb7))
                  all_goals
                    have hB7 := below_next hB6.drew HB7.out
                    have hS7 := Aside0.mk (HS6.out.below HB7.out)
                    have hO7 : Aside0 (Ow w7 w.heap.size (.slice A1 M c1) F) := ⟨Kd.R_below (Kd.R_below hO6.out HD) HB7.out⟩
                    go_wp2_with fail
                    go_roundw
                    case rel => exact ⟨j + 1, _, v3, by omega, by go_num, rfl, ⟨by rw [HNEXT.out, HFF.out]; exact hO7.out⟩, ⟨by rw [HNEXT.out, HFF.out]; exact hS7.out⟩, HN5, hB7⟩
                    case measure => simp [intOf]; omega
            · have hge : ¬ (j : Int) < (n : Int) := by omega
              clear hV hS hne
              go_wp2_with fail
              refine awake25_c.mono ?_
              rintro x w5 ⟨rfl, hb5⟩
              go_wp2_with fail
              go_ret
              exact ⟨rfl, below_next hb hb5⟩
        · have hne32 : ((n0 : Int) != 32) = true := by rw [bne_iff_ne]; omega
          refine (New_no h32).mono ?_
          rintro x w2 ⟨rfl, rfl⟩
          go_wp2_with fail
          refine awake25_c.mono ?_
          rintro x w5 ⟨rfl, hb5⟩
          go_wp2_with fail
          go_ret
          exact ⟨rfl, below_next hb1 hb5⟩
  · have hmi : (20 : Int) < (n : Int) := by omega
    go_enter Try.func9, Try.ntmps9
    go_wp2_with fail
    refine awake25_c.mono ?_
    rintro x w5 ⟨rfl, hb5⟩
    go_wp2_with fail
    go_ret
    exact ⟨rfl, hb5⟩
end Go.Proofs.Ytkjmjgiklelpiaa.WalkOnetimeAdds
