/- MacLong, walked. -/
import Derived.Test.YtmmbonlidcbkcaaDoorDgLaw
import Derived.Deep.RegionHeld3
import Derived.Test.YtmmbonlidcbkcaaDoorHmac
import Derived.Test.YtmmbonlidcbkcaaDoorMacC
import Derived.Test.YtmmbonlidcbkcaaDoorMacTag
import Derived.Test.YtmmbonlidcbkcaaDoorMacLaw
import Derived.Test.YtmmbonlidcbkcaaDoorMacAwake
import Derived.Test.YtmmbonlidcbkcaaDoorDgEq
import Derived.Deep.Cut
namespace Go.Proofs.YtmmbonlidcbkcaaDoor.WalkMacLong
open Go.RowKit Go.Proofs.YtmmbonlidcbkcaaDoorW.PrintWords Go.Proofs.YtmmbonlidcbkcaaDoor.Num Go.Proofs.YtmmbonlidcbkcaaDoor.Sha Go.Proofs.YtmmbonlidcbkcaaDoor.WordC Go.Proofs.YtmmbonlidcbkcaaDoor.Arr Go.Proofs.YtmmbonlidcbkcaaDoor.App Go.Proofs.YtmmbonlidcbkcaaDoor.DgC Go.Proofs.YtmmbonlidcbkcaaDoor.DgBlock Go.Proofs.YtmmbonlidcbkcaaDoor.DgState Go.Proofs.YtmmbonlidcbkcaaDoor.DgAdd Go.Proofs.YtmmbonlidcbkcaaDoor.DgSum Go.Proofs.YtmmbonlidcbkcaaDoor.DgOf Go.Proofs.YtmmbonlidcbkcaaDoor.DgCopy Go.Proofs.YtmmbonlidcbkcaaDoor.DgLaw Go.Proofs.YtmmbonlidcbkcaaDoor.DgWords Go.Proofs.YtmmbonlidcbkcaaDoor.RefOf Go.Proofs.YtmmbonlidcbkcaaDoor.Hmac Go.Proofs.YtmmbonlidcbkcaaDoor.MacC Go.Proofs.YtmmbonlidcbkcaaDoor.MacTag Go.Proofs.YtmmbonlidcbkcaaDoor.MacLaw Go.Proofs.YtmmbonlidcbkcaaDoor.MacAwake Go.Proofs.YtmmbonlidcbkcaaDoor.DgEq Go.Proofs.YtmmbonlidcbkcaaDoor.MacNew Go.Proofs.YtmmbonlidcbkcaaDoor.MacRef
set_option linter.unusedVariables false
set_option linter.unusedSimpArgs false

set_option maxHeartbeats 8000000 in
set_option maxRecDepth 100000 in
theorem big {A A' : Option Addr} {n c n' c' : Nat} {w : World} (h : ¬ (n ≤ 4000 ∧ n' ≤ 4000)) (ht : Tb w) :
    Calls Tryd.prog 10 #[.slice A n c, .slice A' n' c'] w fun e w' => e = .returned (.bool true) ∧ Below w.heap.size w w' := by
  by_cases h1 : n ≤ 4000
  · have b1 : ¬ (4000 : Int) < (n : Int) := by omega
    have b2 : (4000 : Int) < (n' : Int) := by omega
    go_enter Tryd.func10, Tryd.ntmps10
    go_wp2_with fail
    refine (awake34_c ht).mono ?_
    rintro x w5 ⟨rfl, hb5⟩
    go_wp2_with fail
    go_ret
    exact ⟨rfl, hb5⟩
  · have b1 : (4000 : Int) < (n : Int) := by omega
    go_enter Tryd.func10, Tryd.ntmps10
    go_wp2_with fail
    refine (awake34_c ht).mono ?_
    rintro x w5 ⟨rfl, hb5⟩
    go_wp2_with fail
    go_ret
    exact ⟨rfl, hb5⟩
set_option maxHeartbeats 8000000 in
set_option maxRecDepth 100000 in
theorem walk (A : Option Addr) (n c : Nat) (l : List Int) {w : World} (hr : Rd w A n c l) (hB : IsB l) (hn : n ≤ 140737488351232) (A' : Option Addr) (n' c' : Nat) (l' : List Int) (hr' : Rd w A' n' c' l') (hB' : IsB l') (hn' : n' ≤ 140737488351232) (ht : Tb w) :
    Calls Tryd.prog 10 #[.slice A n c, .slice A' n' c'] w fun e w' => e = .returned (.bool true) ∧ Below w.heap.size w w' := by
  by_cases hall : n ≤ 4000 ∧ n' ≤ 4000
  · obtain ⟨h1, h2⟩ := hall
    have b1 : ¬ (4000 : Int) < (n : Int) := by omega
    have b2 : ¬ (4000 : Int) < (n' : Int) := by omega
    have HL := Aside0.mk hr.len
    have HL' := Aside0.mk hr'.len
    have hlT := tagS_length l l'
    obtain ⟨T, HT⟩ : ∃ T, Aside0 (tagS l l' = T) := ⟨_, ⟨rfl⟩⟩
    rw [HT.out] at hlT
    have HLT := Aside0.mk hlT
    clear hlT
    by_cases h64 : 64 < n
    · have b3 : (64 : Int) < (n : Int) := by omega
      go_enter Tryd.func10, Tryd.ntmps10
      go_wp2_with fail
      refine (own35_c hr hn).mono ?_
      rintro x w0 ⟨v0, rfl, ho0, hb0⟩
      obtain ⟨A0, c0, rfl, r0⟩ := rd_of_own ho0
      rw [HL.out] at r0 ⊢
      clear ho0
      go_wp2_with fail
      refine (own35_c (hr'.below hb0) hn').mono ?_
      rintro x w1 ⟨v1, rfl, ho1, hb1⟩
      obtain ⟨A1, c1, rfl, r1⟩ := rd_of_own ho1
      rw [HL'.out] at r1 ⊢
      clear ho1
      have hB1 := below_next hb0 hb1
      go_wp2_with fail
      refine (tag38_1 (k := w1.heap.size) rfl (r0.below hb1) hB hn r1 hB' (by omega) (ht.below hB1)).mono ?_
      rintro x w2 ⟨rfl, hb2⟩
      rw [HT.out]
      have hB2 := below_next hB1 hb2
      clear r0 r1 hb0 hb1 hb2
      go_wp2_with (first
        | (refine store_arr rfl 27 (.tmp 5) (.tmp 21) rfl w2.heap.size .u8 T rfl rfl 27 32 _ (heap_alloc_new _ _) size27 HLT.out rfl ?_; intro w3 hO3 hg3; have hB3 := (hB2.alloc hB2.size _).grown hg3 (Nat.le_trans hB2.size (by simp)) (fun k hk => by cases hk; exact hB2.size); have HO3 := Aside0.mk hO3; clear hO3 hg3))
      refine (own35_c (hr.below hB3) hn).mono ?_
      rintro x w4 ⟨v4, rfl, ho4, hb4⟩
      obtain ⟨A4, c4, rfl, r4⟩ := rd_of_own ho4
      rw [HL.out] at r4 ⊢
      clear ho4
      have hB4 := below_next hB3 hb4
      have hS := shaS_length l
      have hIS := shaS_isB l
      obtain ⟨S, HS⟩ : ∃ S, Aside0 (shaS l = S) := ⟨_, ⟨rfl⟩⟩
      rw [HS.out] at hS hIS
      have HLS := Aside0.mk hS
      clear hS
      go_wp2_with fail
      refine (Of1_c (k := w4.heap.size) rfl r4 hB (by omega) (ht.below hB4)).mono ?_
      rintro x w9 ⟨rfl, hb9⟩
      rw [HS.out]
      have hB9 := below_next hB4 hb9
      have HO9 := Aside0.mk (Blk.below (Blk.below HO3.out hb4) hb9)
      clear hb4 hb9 r4
      go_upto_region 6 with (first
        | (refine store_arr rfl 27 (.tmp 6) (.tmp 28) rfl w9.heap.size .u8 S rfl rfl 27 32 _ (heap_alloc_new _ _) size27 HLS.out rfl ?_; intro w5 hO5 hg5; have hb95 : Below w9.heap.size w9 w5 := ((Below.refl _ w9).alloc (Nat.le_refl _) _).grown hg5 (by simp) (fun k hk => by cases hk; exact Nat.le_refl _); have hB5 := below_next hB9 hb95; have rS := rd_blk32 hO5 HLS.out; clear hO5 hg5))
      have hO5 := Blk.below HO9.out hb95
      have RG : Aside0 (∀ w' : World, Below w5.heap.size w5 w' → w'.rangeAt w2.heap.size 0 (nums .u8 T)) := ⟨fun w' hb => range_blk (Blk.below hO5 hb)⟩
      have HD : Below w5.heap.size w5 w5.drew := (Below.refl _ w5).drew
      clear hO5 hb95
      have heq : ∀ W : World, (binOp .eql 27 (.agg (nums .u8 T).toArray) (.agg (nums .u8 T).toArray)).run Tryd.prog W = .ok (.bool true) W := fun W => by rw [eql27 HLT.out HLT.out, eqB_self]
      have hu27 := Tryd.underlying27
      have hi27 : (Tryd.prog.info? 27).map (·.size) = some (nums .u8 T).length := by rw [nums_length, HLT.out]; exact size27
      refine wp_region_held_drew (S := fun w' => w'.rangeAt w2.heap.size 0 (nums .u8 T)) (by kernel_rfl) ?_ (fun hHeld => ?_)
      · exact RG.out _ HD
      refine wpAnyH_take (i := 0) (List.getElem?_toArray.trans rfl) (by kernel_rfl) (by kernel_rfl) (by kernel_rfl) (fun _ _ _ h => h) (yieldsIf_load_mid (by rfl) 27 (.tmp 5) rfl w2.heap.size 0 rfl (nums .u8 T) _ (fun _ h => h) hu27 rfl hi27) (by assumption) ?_
      (try simp only [Act.put, List.setIfInBounds_toArray, List.set_cons_zero, List.set_cons_succ])
      refine wpAnyH_take (i := 1) (v := ?_) (List.getElem?_toArray.trans rfl) (by kernel_rfl) (by kernel_rfl) (by kernel_rfl) (fun _ _ _ h => h) (Or.inl ⟨by rfl, ?_⟩) (by assumption) ?_
      rotate_left
      · (intro w hSw; (try dsimp only at hSw); go_simp; try with_reducible rfl)
      (try simp only [Act.put, List.setIfInBounds_toArray, List.set_cons_zero, List.set_cons_succ])
      refine wpAnyH_take (i := 2) (v := ?_) (List.getElem?_toArray.trans rfl) (by kernel_rfl) (by kernel_rfl) (by kernel_rfl) (fun _ _ _ h => h) (Or.inl ⟨by rfl, ?_⟩) (by assumption) ?_
      rotate_left
      · (intro w hSw; (try dsimp only at hSw); go_simp; try with_reducible rfl)
      (try simp only [Act.put, List.setIfInBounds_toArray, List.set_cons_zero, List.set_cons_succ])
      refine wpAnyH_ready (rs := [3]) (by kernel_rfl) (by simp) (AllReadyH.cons (List.getElem?_toArray.trans rfl) (fun Kx hKx => ?_) AllReadyH.nil)
      go_simp
      refine (own35_c (hr'.below (hB5.drew)) hn').mono ?_
      rintro x w6 ⟨v6, rfl, ho6, hb6⟩
      obtain ⟨A6, c6, rfl, r6⟩ := rd_of_own ho6
      rw [HL'.out] at r6 ⊢
      clear ho6
      have HB6 := below_next HD hb6
      have hB6 := below_next hB5.drew hb6
      go_wp2_with fail
      refine hKx.out _ _ ?_ (fun hHeld => ?_)
      · exact RG.out _ HB6
      clear hKx Kx
      (try simp only [Act.put, List.setIfInBounds_toArray, List.set_cons_zero, List.set_cons_succ])
      refine wpAnyH_ready (rs := [4]) (by kernel_rfl) (by simp) (AllReadyH.cons (List.getElem?_toArray.trans rfl) (fun Kx hKx => ?_) AllReadyH.nil)
      go_simp
      refine hKx.out _ _ ?_ (fun hHeld => ?_)
      · exact RG.out _ (HB6.alloc HB6.size _)
      clear hKx Kx
      (try simp only [Act.put, List.setIfInBounds_toArray, List.set_cons_zero, List.set_cons_succ])
      refine wpAnyH_ready (rs := [5]) (by kernel_rfl) (by simp) (AllReadyH.cons (List.getElem?_toArray.trans rfl) (fun Kx hKx => ?_) AllReadyH.nil)
      go_simp
      refine (tag38_1 (k := w6.heap.size) rfl (rS.below HB6) hIS (by omega) r6 hB' (by omega) (ht.below hB6)).mono ?_
      rintro x w7 ⟨rfl, hb7⟩
      rw [← HS.out, tagS_long l l' (by rw [HL.out]; omega), HT.out]
      have HB7 := below_next HB6 hb7
      have hB7 := below_next hB6 hb7
      go_wp2_with fail
      refine hKx.out _ _ ?_ (fun hHeld => ?_)
      · exact RG.out _ HB7
      clear hKx Kx
      (try simp only [Act.put, List.setIfInBounds_toArray, List.set_cons_zero, List.set_cons_succ])
      refine wpAnyH_take (i := 6) (v := ?_) (List.getElem?_toArray.trans rfl) (by kernel_rfl) (by kernel_rfl) (by kernel_rfl) (fun _ _ _ h => h) (Or.inl ⟨by rfl, ?_⟩) (by assumption) ?_
      rotate_left
      · (intro w hSw; (try dsimp only at hSw); go_simp; try with_reducible rfl)
      (try simp only [Act.put, List.setIfInBounds_toArray, List.set_cons_zero, List.set_cons_succ])
      refine wpAnyH_take (i := 7) (v := ?_) (List.getElem?_toArray.trans rfl) (by kernel_rfl) (by kernel_rfl) (by kernel_rfl) (fun _ _ _ h => h) (Or.inl ⟨by rfl, ?_⟩) (by assumption) ?_
      rotate_left
      · (intro w hSw; (try dsimp only at hSw); go_simp; try with_reducible rfl)
      (try simp only [Act.put, List.setIfInBounds_toArray, List.set_cons_zero, List.set_cons_succ])
      refine wpAnyH_ready (rs := [8]) (by kernel_rfl) (by simp) (AllReadyH.cons (List.getElem?_toArray.trans rfl) (fun Kx hKx => ?_) AllReadyH.nil)
      go_simp
      refine (awake34_c (ht.below hB7)).mono ?_
      rintro x w8 ⟨rfl, hb8⟩
      have HB8 := below_next HB7 hb8
      have hB8 := below_next hB7 hb8
      go_wp2_with fail
      refine hKx.out _ _ ?_ (fun hHeld => ?_)
      · exact RG.out _ HB8
      clear hKx Kx
      (try simp only [Act.put, List.setIfInBounds_toArray, List.set_cons_zero, List.set_cons_succ])
      refine wpAnyH_take (i := 9) (v := ?_) (List.getElem?_toArray.trans rfl) (by kernel_rfl) (by kernel_rfl) (by kernel_rfl) (fun _ _ _ h => h) (Or.inl ⟨by rfl, ?_⟩) (by assumption) ?_
      rotate_left
      · (intro w hSw; (try dsimp only at hSw); go_simp; try with_reducible rfl)
      (try simp only [Act.put, List.setIfInBounds_toArray, List.set_cons_zero, List.set_cons_succ])
      refine wpAnyH_take (i := 10) (v := ?_) (List.getElem?_toArray.trans rfl) (by kernel_rfl) (by kernel_rfl) (by kernel_rfl) (fun _ _ _ h => h) (Or.inl ⟨by rfl, ?_⟩) (by assumption) ?_
      rotate_left
      · (intro w hSw; (try dsimp only at hSw); go_simp; try with_reducible rfl)
      (try simp only [Act.put, List.setIfInBounds_toArray, List.set_cons_zero, List.set_cons_succ])
      refine wpAnyH_done (by kernel_rfl) ?_ _
      go_wp2_with fail
      go_ret
      exact ⟨rfl, hB8⟩
    · have b3 : ¬ (64 : Int) < (n : Int) := by omega
      have HWR : Aside0 (IntKind.i64.wrap (64 - (n : Int)) = 64 - (n : Int)) := ⟨by unfold IntKind.wrap; simp [IntKind.bits, IntKind.signed]; omega⟩
      have HSH : Aside0 (tagS (l ++ List.replicate (64 - n) 0) l' = tagS l l') := ⟨by have := tagS_short l l' (by rw [HL.out]; omega); rwa [HL.out] at this⟩
      go_enter Tryd.func10, Tryd.ntmps10
      go_wp2_with fail
      refine (own35_c hr hn).mono ?_
      rintro x w0 ⟨v0, rfl, ho0, hb0⟩
      obtain ⟨A0, c0, rfl, r0⟩ := rd_of_own ho0
      rw [HL.out] at r0 ⊢
      clear ho0
      go_wp2_with fail
      refine (own35_c (hr'.below hb0) hn').mono ?_
      rintro x w1 ⟨v1, rfl, ho1, hb1⟩
      obtain ⟨A1, c1, rfl, r1⟩ := rd_of_own ho1
      rw [HL'.out] at r1 ⊢
      clear ho1
      have hB1 := below_next hb0 hb1
      go_wp2_with fail
      refine (tag38_1 (k := w1.heap.size) rfl (r0.below hb1) hB hn r1 hB' (by omega) (ht.below hB1)).mono ?_
      rintro x w2 ⟨rfl, hb2⟩
      rw [HT.out]
      have hB2 := below_next hB1 hb2
      clear r0 r1 hb0 hb1 hb2
      go_upto_region 7 with (first
        | (refine store_arr rfl 27 (.tmp 5) (.tmp 21) rfl w2.heap.size .u8 T rfl rfl 27 32 _ (heap_alloc_new _ _) size27 HLT.out rfl ?_; intro w3 hO3 hg3; have hB3 := (hB2.alloc hB2.size _).grown hg3 (Nat.le_trans hB2.size (by simp)) (fun k hk => by cases hk; exact hB2.size); have HO3 := Aside0.mk hO3; clear hO3 hg3))
      have RG : Aside0 (∀ w' : World, Below w3.heap.size w3 w' → w'.rangeAt w2.heap.size 0 (nums .u8 T)) := ⟨fun w' hb => range_blk (Blk.below HO3.out hb)⟩
      have HD : Below w3.heap.size w3 w3.drew := (Below.refl _ w3).drew
      have heq : ∀ W : World, (binOp .eql 27 (.agg (nums .u8 T).toArray) (.agg (nums .u8 T).toArray)).run Tryd.prog W = .ok (.bool true) W := fun W => by rw [eql27 HLT.out HLT.out, eqB_self]
      have hu27 := Tryd.underlying27
      have hi27 : (Tryd.prog.info? 27).map (·.size) = some (nums .u8 T).length := by rw [nums_length, HLT.out]; exact size27
      refine wp_region_held_drew (S := fun w' => w'.rangeAt w2.heap.size 0 (nums .u8 T)) (by kernel_rfl) ?_ (fun hHeld => ?_)
      · exact RG.out _ HD
      refine wpAnyH_take (i := 0) (List.getElem?_toArray.trans rfl) (by kernel_rfl) (by kernel_rfl) (by kernel_rfl) (fun _ _ _ h => h) (yieldsIf_load_mid (by rfl) 27 (.tmp 5) rfl w2.heap.size 0 rfl (nums .u8 T) _ (fun _ h => h) hu27 rfl hi27) (by assumption) ?_
      (try simp only [Act.put, List.setIfInBounds_toArray, List.set_cons_zero, List.set_cons_succ])
      refine wpAnyH_take (i := 1) (v := ?_) (List.getElem?_toArray.trans rfl) (by kernel_rfl) (by kernel_rfl) (by kernel_rfl) (fun _ _ _ h => h) (Or.inl ⟨by rfl, ?_⟩) (by assumption) ?_
      rotate_left
      · (intro w hSw; (try dsimp only at hSw); go_simp; try with_reducible rfl)
      (try simp only [Act.put, List.setIfInBounds_toArray, List.set_cons_zero, List.set_cons_succ])
      refine wpAnyH_take (i := 3) (v := ?_) (List.getElem?_toArray.trans rfl) (by kernel_rfl) (by kernel_rfl) (by kernel_rfl) (fun _ _ _ h => h) (Or.inl ⟨by rfl, ?_⟩) (by assumption) ?_
      rotate_left
      · (intro w hSw; (try dsimp only at hSw); go_simp; try with_reducible rfl)
      (try simp only [Act.put, List.setIfInBounds_toArray, List.set_cons_zero, List.set_cons_succ])
      refine wpAnyH_take (i := 4) (v := ?_) (List.getElem?_toArray.trans rfl) (by kernel_rfl) (by kernel_rfl) (by kernel_rfl) (fun _ _ _ h => h) (Or.inl ⟨by rfl, ?_⟩) (by assumption) ?_
      rotate_left
      · (intro w hSw; (try dsimp only at hSw); go_simp; try with_reducible rfl)
      (try simp only [Act.put, List.setIfInBounds_toArray, List.set_cons_zero, List.set_cons_succ])
      refine wpAnyH_take (i := 5) (v := ?_) (List.getElem?_toArray.trans rfl) (by kernel_rfl) (by kernel_rfl) (by kernel_rfl) (fun _ _ _ h => h) (Or.inl ⟨by rfl, ?_⟩) (by assumption) ?_
      rotate_left
      · (intro w hSw; (try dsimp only at hSw); go_simp; try with_reducible rfl)
      (try simp only [Act.put, List.setIfInBounds_toArray, List.set_cons_zero, List.set_cons_succ])
      refine wpAnyH_take (i := 7) (v := ?_) (List.getElem?_toArray.trans rfl) (by kernel_rfl) (by kernel_rfl) (by kernel_rfl) (fun _ _ _ h => h) (Or.inl ⟨by rfl, ?_⟩) (by assumption) ?_
      rotate_left
      · (intro w hSw; (try dsimp only at hSw); go_simp; try with_reducible rfl)
      (try simp only [Act.put, List.setIfInBounds_toArray, List.set_cons_zero, List.set_cons_succ])
      refine wpAnyH_ready (rs := [2]) (by kernel_rfl) (by simp) (AllReadyH.cons (List.getElem?_toArray.trans rfl) (fun Kx hKx => ?_) AllReadyH.nil)
      go_simp
      refine (own35_c (hr.below (hB3.drew)) hn).mono ?_
      rintro x w6 ⟨v6, rfl, ho6, hb6⟩
      have HB6 := below_next HD hb6
      have hB6 := below_next hB3.drew hb6
      go_wp2_with fail
      refine hKx.out _ _ ?_ (fun hHeld => ?_)
      · exact RG.out _ HB6
      clear hKx Kx
      (try simp only [Act.put, List.setIfInBounds_toArray, List.set_cons_zero, List.set_cons_succ])
      refine wpAnyH_ready (rs := [6]) (by kernel_rfl) (by simp) (AllReadyH.cons (List.getElem?_toArray.trans rfl) (fun Kx hKx => ?_) AllReadyH.nil)
      refine Kd.R_append_zeros_step (Kd.int .u8) (w0 := w3.drew) w3.drew.heap.size (by rfl) (.tmp 41) (.tmp 44) 22 3 5 (.int .u8 0) 1 rfl Tryd.underlying22 Tryd.underlying3 infoB rfl (by decide) (by omega) v6 l 0 (IntKind.i64.wrap (64 - (n : Int))) (fun _ => True) rfl rfl rfl (fun _ _ => trivial) ho6 (by rw [HWR.out]; omega) hb6 hb6.size (by rw [HWR.out, HL.out]; omega) ?_
      intro v7 w7 ho7 hb7 hx7 hy7
      clear hx7 hy7
      have hz : (IntKind.i64.wrap (64 - (n : Int))).toNat = 64 - n := by rw [HWR.out]; omega
      rw [hz] at ho7
      have HB7 := HD.trans (hb7.mono (Nat.le_refl _))
      have hB7 := below_next hB3.drew hb7
      refine hKx.out _ _ ?_ (fun hHeld => ?_)
      · exact RG.out _ HB7
      clear hKx Kx hz
      (try simp only [Act.put, List.setIfInBounds_toArray, List.set_cons_zero, List.set_cons_succ])
      obtain ⟨M, HM⟩ : ∃ M, Aside0 (l ++ List.replicate (64 - n) 0 = M) := ⟨_, ⟨rfl⟩⟩
      have hlM : M.length = 64 := by rw [← HM.out, List.length_append, HL.out, List.length_replicate]; omega
      have hIM : IsB M := by rw [← HM.out]; exact isB_append hB (fun x hx => by rw [List.eq_of_mem_replicate hx]; omega)
      rw [HM.out] at ho7
      obtain ⟨A7, c7, rfl, r7⟩ := rd_of_own ho7
      rw [hlM] at r7 ⊢
      have HLM := Aside0.mk hlM
      clear hlM ho7 ho6
      refine wpAnyH_ready (rs := [8]) (by kernel_rfl) (by simp) (AllReadyH.cons (List.getElem?_toArray.trans rfl) (fun Kx hKx => ?_) AllReadyH.nil)
      go_simp
      refine (own35_c (hr'.below hB7) hn').mono ?_
      rintro x w8 ⟨v8, rfl, ho8, hb8⟩
      obtain ⟨A8, c8, rfl, r8⟩ := rd_of_own ho8
      rw [HL'.out] at r8 ⊢
      clear ho8
      have HB8 := below_next HB7 hb8
      have hB8 := below_next hB7 hb8
      go_wp2_with fail
      refine hKx.out _ _ ?_ (fun hHeld => ?_)
      · exact RG.out _ HB8
      clear hKx Kx
      (try simp only [Act.put, List.setIfInBounds_toArray, List.set_cons_zero, List.set_cons_succ])
      refine wpAnyH_ready (rs := [9]) (by kernel_rfl) (by simp) (AllReadyH.cons (List.getElem?_toArray.trans rfl) (fun Kx hKx => ?_) AllReadyH.nil)
      go_simp
      refine hKx.out _ _ ?_ (fun hHeld => ?_)
      · exact RG.out _ (HB8.alloc HB8.size _)
      clear hKx Kx
      (try simp only [Act.put, List.setIfInBounds_toArray, List.set_cons_zero, List.set_cons_succ])
      refine wpAnyH_ready (rs := [10]) (by kernel_rfl) (by simp) (AllReadyH.cons (List.getElem?_toArray.trans rfl) (fun Kx hKx => ?_) AllReadyH.nil)
      go_simp
      refine (tag38_1 (k := w8.heap.size) rfl (r7.below hb8) hIM (by omega) r8 hB' (by omega) (ht.below hB8)).mono ?_
      rintro x w9 ⟨rfl, hb9⟩
      rw [← HM.out, HSH.out, HT.out]
      have HB9 := below_next HB8 hb9
      have hB9 := below_next hB8 hb9
      go_wp2_with fail
      refine hKx.out _ _ ?_ (fun hHeld => ?_)
      · exact RG.out _ HB9
      clear hKx Kx
      (try simp only [Act.put, List.setIfInBounds_toArray, List.set_cons_zero, List.set_cons_succ])
      refine wpAnyH_take (i := 11) (v := ?_) (List.getElem?_toArray.trans rfl) (by kernel_rfl) (by kernel_rfl) (by kernel_rfl) (fun _ _ _ h => h) (Or.inl ⟨by rfl, ?_⟩) (by assumption) ?_
      rotate_left
      · (intro w hSw; (try dsimp only at hSw); go_simp; try with_reducible rfl)
      (try simp only [Act.put, List.setIfInBounds_toArray, List.set_cons_zero, List.set_cons_succ])
      refine wpAnyH_take (i := 12) (v := ?_) (List.getElem?_toArray.trans rfl) (by kernel_rfl) (by kernel_rfl) (by kernel_rfl) (fun _ _ _ h => h) (Or.inl ⟨by rfl, ?_⟩) (by assumption) ?_
      rotate_left
      · (intro w hSw; (try dsimp only at hSw); go_simp; try with_reducible rfl)
      (try simp only [Act.put, List.setIfInBounds_toArray, List.set_cons_zero, List.set_cons_succ])
      refine wpAnyH_ready (rs := [13]) (by kernel_rfl) (by simp) (AllReadyH.cons (List.getElem?_toArray.trans rfl) (fun Kx hKx => ?_) AllReadyH.nil)
      go_simp
      refine (awake34_c (ht.below hB9)).mono ?_
      rintro x w10 ⟨rfl, hb10⟩
      have HB10 := below_next HB9 hb10
      have hB10 := below_next hB9 hb10
      go_wp2_with fail
      refine hKx.out _ _ ?_ (fun hHeld => ?_)
      · exact RG.out _ HB10
      clear hKx Kx
      (try simp only [Act.put, List.setIfInBounds_toArray, List.set_cons_zero, List.set_cons_succ])
      refine wpAnyH_take (i := 14) (v := ?_) (List.getElem?_toArray.trans rfl) (by kernel_rfl) (by kernel_rfl) (by kernel_rfl) (fun _ _ _ h => h) (Or.inl ⟨by rfl, ?_⟩) (by assumption) ?_
      rotate_left
      · (intro w hSw; (try dsimp only at hSw); go_simp; try with_reducible rfl)
      (try simp only [Act.put, List.setIfInBounds_toArray, List.set_cons_zero, List.set_cons_succ])
      refine wpAnyH_take (i := 15) (v := ?_) (List.getElem?_toArray.trans rfl) (by kernel_rfl) (by kernel_rfl) (by kernel_rfl) (fun _ _ _ h => h) (Or.inl ⟨by rfl, ?_⟩) (by assumption) ?_
      rotate_left
      · (intro w hSw; (try dsimp only at hSw); go_simp; try with_reducible rfl)
      (try simp only [Act.put, List.setIfInBounds_toArray, List.set_cons_zero, List.set_cons_succ])
      refine wpAnyH_done (by kernel_rfl) ?_ _
      go_wp2_with fail
      go_ret
      exact ⟨rfl, hB10⟩
  · exact big hall ht
end Go.Proofs.YtmmbonlidcbkcaaDoor.WalkMacLong
