/- mac.New and (*mac.Key).Tag, walked. -/
import Derived.Test.YtmmbonlidcbkcaaDoorDgLaw
import Derived.Test.YtmmbonlidcbkcaaDoorHmac
import Derived.Test.YtmmbonlidcbkcaaDoorMacC
import Derived.Test.YtmmbonlidcbkcaaDoorDgCopy
import Derived.Deep.RegionHeld3
import Derived.Deep.Cut
namespace Go.Proofs.YtmmbonlidcbkcaaDoor.MacNew
open Go.RowKit Go.Proofs.YtmmbonlidcbkcaaDoorW.PrintWords Go.Proofs.YtmmbonlidcbkcaaDoor.Num Go.Proofs.YtmmbonlidcbkcaaDoor.Sha Go.Proofs.YtmmbonlidcbkcaaDoor.Hmac Go.Proofs.YtmmbonlidcbkcaaDoor.WordC Go.Proofs.YtmmbonlidcbkcaaDoor.Arr Go.Proofs.YtmmbonlidcbkcaaDoor.App Go.Proofs.YtmmbonlidcbkcaaDoor.DgC Go.Proofs.YtmmbonlidcbkcaaDoor.DgBlock Go.Proofs.YtmmbonlidcbkcaaDoor.DgState Go.Proofs.YtmmbonlidcbkcaaDoor.DgAdd Go.Proofs.YtmmbonlidcbkcaaDoor.DgSum Go.Proofs.YtmmbonlidcbkcaaDoor.DgOf Go.Proofs.YtmmbonlidcbkcaaDoor.DgLaw Go.Proofs.YtmmbonlidcbkcaaDoor.DgWords Go.Proofs.YtmmbonlidcbkcaaDoor.MacC Go.Proofs.YtmmbonlidcbkcaaDoor.DgCopy
set_option linter.unusedVariables false
set_option linter.unusedSimpArgs false

theorem keyS_le (k : List Int) : (keyS k).length ≤ 64 := keyS_length k
theorem slice_arr64 (G : Nat) (W : World) : (Instr.sliceAt 94 (.pointer (some ⟨G, 0, none⟩)) none none none).run Tryd.prog W = .ok (.slice (some ⟨G, 0, none⟩) 64 64) W := by
  obtain ⟨i, hi, hz⟩ := infoX
  simp [Instr.sliceAt, run_underlying Tryd.underlying94, Instr.sureAddr, Instr.sliceBounds, asAddr, sizeOf, typeInfo, hi, hz, Addr.add]
set_option maxHeartbeats 4000000 in
set_option maxRecDepth 100000 in
/-- From the copy on: the key's bytes are read out of A, the block lies in B0. -/
theorem New_c {A : Option Addr} {n c : Nat} {l : List Int} {w : World} (hr : Rd w A n c l) (hB : IsB l) (hn : n ≤ 140737488351232) (ht : Tb w) :
    Calls Tryd.prog 39 #[.slice A n c] w fun e w' => ∃ kb, e = .returned (.pointer (some ⟨kb, 0, none⟩)) ∧ Ky w' w.heap.size kb l ∧ Below w.heap.size w w' := by
  have hln := hr.len
  have HLN := Aside0.mk hln
  by_cases h64 : 64 < n
  · have hgt : (64 : Int) < (n : Int) := by omega
    have hS := shaS_length l
    have hSB := shaS_isB l
    obtain ⟨S, HS⟩ : ∃ S, Aside0 (shaS l = S) := ⟨_, ⟨rfl⟩⟩
    have hks : keyS l = S := by rw [← HS.out]; exact if_pos (by omega)
    have hk64 : key64 l = S ++ List.replicate (64 - S.length) 0 := by unfold key64; rw [hks]
    rw [HS.out] at hS hSB
    have hcells := key_cells S (by omega)
    rw [← hk64] at hcells
    have HC := Aside0.mk hcells
    have hkl := key64_length l
    have hkB := key64_isB hB
    obtain ⟨K, HK⟩ : ∃ K, Aside0 (key64 l = K) := ⟨_, ⟨rfl⟩⟩
    have HP54 : Aside0 (padS l 54 = K.map (fun x => xor8 x 54)) := ⟨by unfold padS; rw [HK.out]⟩
    have HP92 : Aside0 (padS l 92 = K.map (fun x => xor8 x 92)) := ⟨by unfold padS; rw [HK.out]⟩
    rw [HK.out] at hkl hkB
    have HKL := Aside0.mk hkl
    have HSL := Aside0.mk hS
    clear hks hk64 hcells hkl hS
    go_enter Tryd.func39, Tryd.ntmps39
    go_upto_region 2 with (fail)
    generalize hW : w.alloc _ = W0
    have hB0 : Below w.heap.size w W0 := by rw [← hW]; exact (Below.refl _ w).alloc (Nat.le_refl _) _
    have hO : Blk W0 w.heap.size 94 (nums .u8 (List.replicate 64 0)) := by rw [← hW]; exact heap_alloc_new _ _
    clear hW
    have hr0 := hr.below hB0
    have ht0 := ht.below hB0
    go_wp2_with fail
    refine (Of1_c rfl hr0 hB hn ht0).mono ?_
    rintro x w2 ⟨rfl, hb2⟩
    rw [HS.out]
    have hBB := below_next hB0 hb2
    have hO2 := Blk.below hO hb2
    have ht2 := ht0.below hb2
    have eS : 0 + 32 = 0 + S.length := by rw [HSL.out]
    go_wp2_with (first
      | (refine store_arr rfl 27 (.tmp 4) (.tmp 10) rfl w2.heap.size .u8 S rfl rfl 27 32 _ (heap_alloc_new _ _) size27 HSL.out rfl ?_; intro w3 hS3 hg3; have hO3 := Blk.grown (hO2.alloc _) hg3 (Nat.ne_of_lt (Blk.lt hO2)); have hr3 := rd_blk32 hS3 HSL.out; have hB3 := (hBB.alloc hBB.size _).grown hg3 (by have := hBB.size; simp; omega) (fun k hk => by cases hk; exact hBB.size); have ht3 := ht.below hB3)
      | (refine copy_blk rfl (.tmp 12) (.tmp 13) 22 22 rfl 5 Tryd.underlying22 sizeU8 w.heap.size 0 64 64 (some ⟨w2.heap.size, 0, none⟩) 32 32 rfl rfl (nums .u8 (List.replicate 64 0)) 94 hO3 S hr3 (by omega) (by rw [nums_length, List.length_replicate]; omega) ?_; intro w1 hG1 hg1; rw [eS, HC.out, HK.out] at hG1; have hB1 := hB3.grown hg1 hB3.size (fun k hk => by cases hk; exact Nat.le_refl _); have ht1 := ht.below hB1))
    have hu94 := Tryd.underlying94
    have hi94 : (Tryd.prog.info? 94).map (·.size) = some (nums .u8 K).length := by rw [nums_length, HKL.out]; exact size94
    have hd94 : (nums .u8 K).length = 64 := by rw [nums_length]; exact HKL.out
    have hR1 : w1.rangeAt w.heap.size 0 (nums .u8 K) := range_blk hG1
    refine wp_region_held_drew (S := fun w' => w'.rangeAt w.heap.size 0 (nums .u8 K)) (by kernel_rfl) ?_ (fun hHeld => ?_)
    · exact hR1
    refine wpAnyH_take (i := 0) (List.getElem?_toArray.trans rfl) (by kernel_rfl) (by kernel_rfl) (by kernel_rfl) (fun _ _ _ h => h) (yieldsIf_load_mid (by rfl) 94 (.tmp 3) rfl w.heap.size 0 rfl (nums .u8 K) _ (fun _ h => h) hu94 rfl hi94) (by assumption) ?_
    (try simp only [Act.put, List.setIfInBounds_toArray, List.set_cons_zero, List.set_cons_succ])
    refine wpAnyH_take (i := 2) (List.getElem?_toArray.trans rfl) (by kernel_rfl) (by kernel_rfl) (by kernel_rfl) (fun _ _ _ h => h) (yieldsIf_load_mid (by rfl) 94 (.tmp 3) rfl w.heap.size 0 rfl (nums .u8 K) _ (fun _ h => h) hu94 rfl hi94) (by assumption) ?_
    (try simp only [Act.put, List.setIfInBounds_toArray, List.set_cons_zero, List.set_cons_succ])
    refine wpAnyH_ready (rs := [1]) (by kernel_rfl) (by simp) (AllReadyH.cons (List.getElem?_toArray.trans rfl) (fun Kx hKx => ?_) AllReadyH.nil)
    go_simp
    refine (begun_c (y := 54) HKL.out hkB (by omega) (Tb.below (w := w1) ht1 (Below.drew (Below.refl _ w1)))).mono ?_
    rintro x w2 ⟨g1, v1, rfl, hS1, hb1⟩
    have hB2 := below_next hB1.drew hb1
    have ht2 := (Tb.below (w := w1) ht1 (Below.drew (Below.refl _ w1))).below hb1
    have hR2 : w2.rangeAt w.heap.size 0 (nums .u8 K) := range_blk (Blk.below (w := w1.drew) hG1 hb1)
    go_wp2_with fail
    refine hKx.out _ _ ?_ (fun hHeld => ?_)
    · exact hR2
    clear hKx Kx
    (try simp only [Act.put, List.setIfInBounds_toArray, List.set_cons_zero, List.set_cons_succ])
    refine wpAnyH_ready (rs := [3]) (by kernel_rfl) (by simp) (AllReadyH.cons (List.getElem?_toArray.trans rfl) (fun Kx hKx => ?_) AllReadyH.nil)
    go_simp
    refine (begun_c (y := 92) HKL.out hkB (by omega) ht2).mono ?_
    rintro x w3 ⟨g2, v2, rfl, hS2, hb2⟩
    have hB3 := below_next hB2 hb2
    have hR3 : w3.rangeAt w.heap.size 0 (nums .u8 K) := range_blk (Blk.below (w := w2) (Blk.below (w := w1.drew) hG1 hb1) hb2)
    go_wp2_with fail
    refine hKx.out _ _ ?_ (fun hHeld => ?_)
    · exact hR3
    clear hKx Kx
    (try simp only [Act.put, List.setIfInBounds_toArray, List.set_cons_zero, List.set_cons_succ])
    refine wpAnyH_take (i := 4) (v := ?_) (List.getElem?_toArray.trans rfl) (by kernel_rfl) (by kernel_rfl) (by kernel_rfl) (fun _ _ _ h => h) (Or.inl ⟨by rfl, ?_⟩) (by assumption) ?_
    rotate_left
    · (intro w hSw; (try dsimp only at hSw); go_simp; try with_reducible rfl)
    (try simp only [Act.put, List.setIfInBounds_toArray, List.set_cons_zero, List.set_cons_succ])
    refine wpAnyH_ready (rs := [5]) (by kernel_rfl) (by simp) (AllReadyH.cons (List.getElem?_toArray.trans rfl) (fun Kx hKx => ?_) AllReadyH.nil)
    go_simp
    refine hKx.out _ _ ?_ (fun hHeld => ?_)
    · exact World.rangeAt_alloc hR3 _
    clear hKx Kx
    (try simp only [Act.put, List.setIfInBounds_toArray, List.set_cons_zero, List.set_cons_succ])
    refine wpAnyH_take (i := 6) (v := ?_) (List.getElem?_toArray.trans rfl) (by kernel_rfl) (by kernel_rfl) (by kernel_rfl) (fun _ _ _ h => h) (Or.inl ⟨by rfl, ?_⟩) (by assumption) ?_
    rotate_left
    · (intro w hSw; (try dsimp only at hSw); go_simp; try with_reducible rfl)
    (try simp only [Act.put, List.setIfInBounds_toArray, List.set_cons_zero, List.set_cons_succ])
    refine wpAnyH_done (by kernel_rfl) ?_ _
    go_wp2_with fail
    go_ret
    have hSa : St w3 w.heap.size g1 v1 (padS l 54) := by rw [HP54.out]; exact (hS1.lower hB1.size).below hb2
    have hSb : St w3 w.heap.size g2 v2 (padS l 92) := by rw [HP92.out]; exact hS2.lower hB2.size
    have hAl : Below w3.heap.size w3 (w3.alloc (.cells #[.pointer (some ⟨g1, 0, none⟩), .pointer (some ⟨g2, 0, none⟩)] 97)) := (Below.refl _ w3).alloc (Nat.le_refl _) _
    exact ⟨_, rfl, ⟨hB, _, _, _, _, heap_alloc_new _ _, hSa.below hAl, hSb.below hAl⟩, below_next hB3 hAl⟩
  · have hks : keyS l = l := if_neg (by omega)
    have hle : ¬ (64 : Int) < (n : Int) := by omega
    have hk64 : key64 l = l ++ List.replicate (64 - l.length) 0 := by unfold key64; rw [hks]
    have hcells := key_cells l (by omega)
    rw [← hk64] at hcells
    have HC := Aside0.mk hcells
    have hkl := key64_length l
    have hkB := key64_isB hB
    obtain ⟨K, HK⟩ : ∃ K, Aside0 (key64 l = K) := ⟨_, ⟨rfl⟩⟩
    have HP54 : Aside0 (padS l 54 = K.map (fun x => xor8 x 54)) := ⟨by unfold padS; rw [HK.out]⟩
    have HP92 : Aside0 (padS l 92 = K.map (fun x => xor8 x 92)) := ⟨by unfold padS; rw [HK.out]⟩
    rw [HK.out] at hkl hkB
    have HKL := Aside0.mk hkl
    clear hks hk64 hcells hkl
    go_enter Tryd.func39, Tryd.ntmps39
    go_upto_region 5 with (fail)
    generalize hW : w.alloc _ = W0
    have hB0 : Below w.heap.size w W0 := by rw [← hW]; exact (Below.refl _ w).alloc (Nat.le_refl _) _
    have hO : Blk W0 w.heap.size 94 (nums .u8 (List.replicate 64 0)) := by rw [← hW]; exact heap_alloc_new _ _
    clear hW
    have hr0 := hr.below hB0
    have ht0 := ht.below hB0
    go_wp2_with (first
      | (refine copy_blk rfl (.tmp 12) (.tmp 13) 22 22 rfl 5 Tryd.underlying22 sizeU8 w.heap.size 0 64 64 A n c rfl rfl (nums .u8 (List.replicate 64 0)) 94 hO l hr0 (by omega) (by rw [nums_length, List.length_replicate]; omega) ?_; intro w1 hG1 hg1; rw [← HLN.out, HC.out, HK.out] at hG1; have hB1 := hB0.grown hg1 hB0.size (fun k hk => by cases hk; exact Nat.le_refl _); have ht1 := ht.below hB1))
    have hu94 := Tryd.underlying94
    have hi94 : (Tryd.prog.info? 94).map (·.size) = some (nums .u8 K).length := by rw [nums_length, HKL.out]; exact size94
    have hd94 : (nums .u8 K).length = 64 := by rw [nums_length]; exact HKL.out
    have hR1 : w1.rangeAt w.heap.size 0 (nums .u8 K) := range_blk hG1
    refine wp_region_held_drew (S := fun w' => w'.rangeAt w.heap.size 0 (nums .u8 K)) (by kernel_rfl) ?_ (fun hHeld => ?_)
    · exact hR1
    refine wpAnyH_take (i := 0) (List.getElem?_toArray.trans rfl) (by kernel_rfl) (by kernel_rfl) (by kernel_rfl) (fun _ _ _ h => h) (yieldsIf_load_mid (by rfl) 94 (.tmp 3) rfl w.heap.size 0 rfl (nums .u8 K) _ (fun _ h => h) hu94 rfl hi94) (by assumption) ?_
    (try simp only [Act.put, List.setIfInBounds_toArray, List.set_cons_zero, List.set_cons_succ])
    refine wpAnyH_take (i := 2) (List.getElem?_toArray.trans rfl) (by kernel_rfl) (by kernel_rfl) (by kernel_rfl) (fun _ _ _ h => h) (yieldsIf_load_mid (by rfl) 94 (.tmp 3) rfl w.heap.size 0 rfl (nums .u8 K) _ (fun _ h => h) hu94 rfl hi94) (by assumption) ?_
    (try simp only [Act.put, List.setIfInBounds_toArray, List.set_cons_zero, List.set_cons_succ])
    refine wpAnyH_ready (rs := [1]) (by kernel_rfl) (by simp) (AllReadyH.cons (List.getElem?_toArray.trans rfl) (fun Kx hKx => ?_) AllReadyH.nil)
    go_simp
    refine (begun_c (y := 54) HKL.out hkB (by omega) (Tb.below (w := w1) ht1 (Below.drew (Below.refl _ w1)))).mono ?_
    rintro x w2 ⟨g1, v1, rfl, hS1, hb1⟩
    have hB2 := below_next hB1.drew hb1
    have ht2 := (Tb.below (w := w1) ht1 (Below.drew (Below.refl _ w1))).below hb1
    have hR2 : w2.rangeAt w.heap.size 0 (nums .u8 K) := range_blk (Blk.below (w := w1.drew) hG1 hb1)
    go_wp2_with fail
    refine hKx.out _ _ ?_ (fun hHeld => ?_)
    · exact hR2
    clear hKx Kx
    (try simp only [Act.put, List.setIfInBounds_toArray, List.set_cons_zero, List.set_cons_succ])
    refine wpAnyH_ready (rs := [3]) (by kernel_rfl) (by simp) (AllReadyH.cons (List.getElem?_toArray.trans rfl) (fun Kx hKx => ?_) AllReadyH.nil)
    go_simp
    refine (begun_c (y := 92) HKL.out hkB (by omega) ht2).mono ?_
    rintro x w3 ⟨g2, v2, rfl, hS2, hb2⟩
    have hB3 := below_next hB2 hb2
    have hR3 : w3.rangeAt w.heap.size 0 (nums .u8 K) := range_blk (Blk.below (w := w2) (Blk.below (w := w1.drew) hG1 hb1) hb2)
    go_wp2_with fail
    refine hKx.out _ _ ?_ (fun hHeld => ?_)
    · exact hR3
    clear hKx Kx
    (try simp only [Act.put, List.setIfInBounds_toArray, List.set_cons_zero, List.set_cons_succ])
    refine wpAnyH_take (i := 4) (v := ?_) (List.getElem?_toArray.trans rfl) (by kernel_rfl) (by kernel_rfl) (by kernel_rfl) (fun _ _ _ h => h) (Or.inl ⟨by rfl, ?_⟩) (by assumption) ?_
    rotate_left
    · (intro w hSw; (try dsimp only at hSw); go_simp; try with_reducible rfl)
    (try simp only [Act.put, List.setIfInBounds_toArray, List.set_cons_zero, List.set_cons_succ])
    refine wpAnyH_ready (rs := [5]) (by kernel_rfl) (by simp) (AllReadyH.cons (List.getElem?_toArray.trans rfl) (fun Kx hKx => ?_) AllReadyH.nil)
    go_simp
    refine hKx.out _ _ ?_ (fun hHeld => ?_)
    · exact World.rangeAt_alloc hR3 _
    clear hKx Kx
    (try simp only [Act.put, List.setIfInBounds_toArray, List.set_cons_zero, List.set_cons_succ])
    refine wpAnyH_take (i := 6) (v := ?_) (List.getElem?_toArray.trans rfl) (by kernel_rfl) (by kernel_rfl) (by kernel_rfl) (fun _ _ _ h => h) (Or.inl ⟨by rfl, ?_⟩) (by assumption) ?_
    rotate_left
    · (intro w hSw; (try dsimp only at hSw); go_simp; try with_reducible rfl)
    (try simp only [Act.put, List.setIfInBounds_toArray, List.set_cons_zero, List.set_cons_succ])
    refine wpAnyH_done (by kernel_rfl) ?_ _
    go_wp2_with fail
    go_ret
    have hSa : St w3 w.heap.size g1 v1 (padS l 54) := by rw [HP54.out]; exact (hS1.lower hB1.size).below hb2
    have hSb : St w3 w.heap.size g2 v2 (padS l 92) := by rw [HP92.out]; exact hS2.lower hB2.size
    have hAl : Below w3.heap.size w3 (w3.alloc (.cells #[.pointer (some ⟨g1, 0, none⟩), .pointer (some ⟨g2, 0, none⟩)] 97)) := (Below.refl _ w3).alloc (Nat.le_refl _) _
    exact ⟨_, rfl, ⟨hB, _, _, _, _, heap_alloc_new _ _, hSa.below hAl, hSb.below hAl⟩, below_next hB3 hAl⟩
end Go.Proofs.YtmmbonlidcbkcaaDoor.MacNew
namespace Go.Proofs.YtmmbonlidcbkcaaDoor.MacTag
open Go.RowKit Go.Proofs.YtmmbonlidcbkcaaDoorW.PrintWords Go.Proofs.YtmmbonlidcbkcaaDoor.Num Go.Proofs.YtmmbonlidcbkcaaDoor.Sha Go.Proofs.YtmmbonlidcbkcaaDoor.Hmac Go.Proofs.YtmmbonlidcbkcaaDoor.WordC Go.Proofs.YtmmbonlidcbkcaaDoor.Arr Go.Proofs.YtmmbonlidcbkcaaDoor.App Go.Proofs.YtmmbonlidcbkcaaDoor.DgC Go.Proofs.YtmmbonlidcbkcaaDoor.DgBlock Go.Proofs.YtmmbonlidcbkcaaDoor.DgState Go.Proofs.YtmmbonlidcbkcaaDoor.DgAdd Go.Proofs.YtmmbonlidcbkcaaDoor.DgSum Go.Proofs.YtmmbonlidcbkcaaDoor.DgOf Go.Proofs.YtmmbonlidcbkcaaDoor.DgLaw Go.Proofs.YtmmbonlidcbkcaaDoor.DgWords Go.Proofs.YtmmbonlidcbkcaaDoor.MacC Go.Proofs.YtmmbonlidcbkcaaDoor.DgCopy
set_option linter.unusedVariables false
set_option linter.unusedSimpArgs false
theorem own_symm {a b : Option Nat} (h : a = none ∨ a ≠ b) : b = none ∨ b ≠ a := by
  rcases h with rfl | h
  · cases b with
    | none => exact .inl rfl
    | some x => exact .inr (fun e => by cases e)
  · exact .inr (Ne.symm h)
set_option maxHeartbeats 8000000 in
set_option maxRecDepth 100000 in
theorem Tag_c {base kb : Nat} {key : List Int} {A : Option Addr} {n c : Nat} {ll : List (List Int)} {w : World} (hK : Ky w base kb key) (hP : Pt w A n c ll) (hB : ∀ l ∈ ll, IsB l) (hl : 64 + ll.flatten.length ≤ 140737488351232) (ht : Tb w) :
    Calls Tryd.prog 40 #[.pointer (some ⟨kb, 0, none⟩), .slice A n c] w fun e w' => e = .returned (.agg (nums .u8 (tagS key ll.flatten)).toArray) ∧ Below w.heap.size w w' := by
  obtain ⟨hkB, gi, vi, go, vo, hkb, hSi, hSo⟩ := hK
  have hln := hP.len
  have hn63 : n ≤ 9223372036854775807 := Kd.C_max hP.rows
  have HLN := Aside0.mk hln
  have hp54 := padS_length key 54
  have hp92 := padS_length key 92
  obtain ⟨P1, HP1⟩ : ∃ P, Aside0 (padS key 54 = P) := ⟨_, ⟨rfl⟩⟩
  obtain ⟨P2, HP2⟩ : ∃ P, Aside0 (padS key 92 = P) := ⟨_, ⟨rfl⟩⟩
  have HT : Aside0 (tagS key ll.flatten = shaS (P2 ++ shaS (P1 ++ ll.flatten))) := ⟨by rw [← HP1.out, ← HP2.out]; rfl⟩
  rw [HP1.out] at hp54 hSi
  rw [HP2.out] at hp92 hSo
  clear hln
  go_enter Tryd.func40, Tryd.ntmps40
  go_upto_region 3 with (fail)
  generalize hW : w.alloc _ = W0
  have hB0 : Below w.heap.size w W0 := by rw [← hW]; exact (Below.refl _ w).alloc (Nat.le_refl _) _
  have hO : Aside0 (Blk W0 w.heap.size 27 (nums .u8 (List.replicate 32 0))) := ⟨by rw [← hW]; exact heap_alloc_new _ _⟩
  clear hW
  have ht0 := ht.below hB0
  have hP0 := hP.below hB0
  have hz0 := Blk.lt hO.out
  have hBD : Below W0.heap.size W0 W0.drew := (Below.refl _ W0).drew
  have hkb0 := Blk.below (Blk.below hkb hB0) hBD
  have hSi0 := (hSi.below hB0).below hBD
  have hSo0 := (hSo.below hB0).below hBD
  have c0 : W0.drew.cell? ⟨kb, 0, none⟩ = some (.pointer (some ⟨gi, 0, none⟩)) := Blk.cell hkb0 0
  have c1 : W0.drew.cell? ⟨kb, 1, none⟩ = some (.pointer (some ⟨go, 0, none⟩)) := Blk.cell hkb0 1
  have HP := Aside0.mk hP0
  have HB := Aside0.mk hB
  have HKB := Aside0.mk hkb0
  have HSO := Aside0.mk hSo0
  clear hP hP0 hB hkb hkb0 hSi hSo hSo0
  go_region_held3 (fun w' => w'.cell? ⟨kb, 0, none⟩ = some (.pointer (some ⟨gi, 0, none⟩)) ∧ w'.cell? ⟨kb, 1, none⟩ = some (.pointer (some ⟨go, 0, none⟩)))
    (first | exact ⟨c0, c1⟩ | exact ⟨d0, d1⟩ | exact ⟨f0, f1⟩)
    (first
      | (go_at_call 32; (with_reducible refine (Copy_c hSi0).mono ?_); rintro x w2 ⟨g1, v1, rfl, hS1, hb1⟩; have d0 : w2.cell? ⟨kb, 0, none⟩ = some (.pointer (some ⟨gi, 0, none⟩)) := Blk.cell (Blk.below HKB.out hb1) 0; have d1 : w2.cell? ⟨kb, 1, none⟩ = some (.pointer (some ⟨go, 0, none⟩)) := Blk.cell (Blk.below HKB.out hb1) 1; have HS1 := Aside0.mk hS1; clear hS1; have hSo2 := HSO.out.below hb1)
      | (go_at_call 32; (with_reducible refine (Copy_c hSo2).mono ?_); rintro x w3 ⟨g2, v2, rfl, hS2, hb2⟩; have f0 : w3.cell? ⟨kb, 0, none⟩ = some (.pointer (some ⟨gi, 0, none⟩)) := Blk.cell (Blk.below (Blk.below HKB.out hb1) hb2) 0; have f1 : w3.cell? ⟨kb, 1, none⟩ = some (.pointer (some ⟨go, 0, none⟩)) := Blk.cell (Blk.below (Blk.below HKB.out hb1) hb2) 1; have HS2 := Aside0.mk hS2; clear hS2))
  have hB3 : Below W0.heap.size W0 w3 := below_next (below_next hBD hb1) hb2
  have hS1' : Aside0 (St w3 W0.heap.size g1 v1 (P1 ++ (ll.take 0).flatten)) := ⟨by have := HS1.out.below hb2; simpa using this⟩
  have hD1 : Aside0 (v2.ownBlock = none ∨ v2.ownBlock ≠ v1.ownBlock) := ⟨other HS1.out.row_lt HS2.out.row_ge⟩
  have hlt12 : g1 < w2.heap.size := HS1.out.lt
  have hge2 := HS2.out.ge
  have hsz2 := (below_next hBD hb1).size
  have hS2' : Aside0 (St w3 W0.heap.size g2 v2 P2) := ⟨HS2.out.lower hsz2⟩
  have hne12 : g2 ≠ g1 := by omega
  clear HS1 HS2 d0 d1 f0 f1 c0 c1 HKB HSO hSo2 hSi0 hb1 hb2 hlt12 hge2 hsz2
  go_wp2_with fail
  go_loopw [25] (fun i wr => ∃ (j : Nat) (v : Value), j ≤ n ∧ i = .int .i64 j ∧ Aside0 (St wr W0.heap.size g1 v (P1 ++ (ll.take j).flatten)) ∧ Aside0 (St wr W0.heap.size g2 v2 P2) ∧ Aside0 (v2.ownBlock = none ∨ v2.ownBlock ≠ v.ownBlock) ∧ Below W0.heap.size W0 wr) (fun i _ => n - (intOf i).toNat)
  case atStart => exact ⟨0, _, by omega, rfl, hS1', hS2', hD1, hB3⟩
  case round =>
    clear hS1' hS2' hD1 hB3
    obtain ⟨j, v, hj, rfl, hS, hT, hD, hb⟩ := hrel
    by_cases hlt : j < n
    · have hlt' : (j : Int) < (n : Int) := by omega
      obtain ⟨ad, Ai, ci, rfl, hcell, hrd⟩ := (HP.out.below hb).at_ j hlt
      have hnext := flat_take ll j (by have := HLN.out; omega)
      have hle := flat_le ll (j + 1)
      rw [hnext, List.length_append] at hle
      have hIB := part_isB HB.out j
      obtain ⟨p, HPP⟩ : ∃ p, Aside0 (ll.getD j [] = p) := ⟨_, ⟨rfl⟩⟩
      rw [HPP.out] at hnext hle hIB hrd hcell
      have HNEXT := Aside0.mk hnext
      obtain ⟨q, HQ⟩ : ∃ q, Aside0 (p.length = q) := ⟨_, ⟨rfl⟩⟩
      rw [HQ.out] at hle hrd hcell
      clear hnext
      go_wp2_with fail
      refine (Add_c hS.out hrd hIB (ht0.below hb) (by omega) hb.size (by rw [List.length_append]; omega)).mono ?_
      rintro x w4 ⟨rfl, v4, hS4, hF4, hat4⟩
      have hb4 := hF4.below hb hb.size hS.out.ge hS.out.row_ge
      rw [List.append_assoc, ← HNEXT.out] at hS4
      have HS4 := Aside0.mk hS4
      have HT4 : Aside0 (St w4 W0.heap.size g2 v2 P2) := ⟨hT.out.fr hF4 hne12 (far_state hT.out hS.out) (far_state hS.out hT.out) hD.out⟩
      have HD4 : Aside0 (v2.ownBlock = none ∨ v2.ownBlock ≠ v4.ownBlock) := ⟨own_symm (other' hat4 hD.out hT.out.row_lt)⟩
      clear hS4 hF4 hat4
      go_wp2_with fail
      go_roundw
      case rel => exact ⟨j + 1, v4, by omega, by go_num, HS4, HT4, HD4, hb4⟩
      case measure => simp [intOf]; omega
    · have hge : ¬ (j : Int) < (n : Int) := by omega
      have hjn : j = n := by omega
      have hS' := hS.out
      rw [hjn, List.take_of_length_le (by rw [HLN.out]; omega)] at hS'
      have HS' := Aside0.mk hS'
      clear hS' hjn hS hD
      go_wp2_with fail
      refine (Sum_c HS'.out (ht0.below hb) (by rw [List.length_append]; omega)).mono ?_
      rintro x w5 ⟨rfl, hb5⟩
      have hb6 := below_next hb hb5
      have hT5 := hT.out.below hb5
      have hl32 := shaS_length (P1 ++ ll.flatten)
      have hSB := shaS_isB (P1 ++ ll.flatten)
      obtain ⟨S, HS⟩ : ∃ S, Aside0 (shaS (P1 ++ ll.flatten) = S) := ⟨_, ⟨rfl⟩⟩
      rw [HS.out] at hl32 hSB
      rw [HS.out]
      have HL32 := Aside0.mk hl32
      have HT5 := Aside0.mk hT5
      clear hl32 hT5 hT
      go_wp2_with (first
        | (refine store_arr rfl 27 (.tmp 9) (.tmp 34) rfl w5.heap.size .u8 S rfl rfl 27 32 _ (heap_alloc_new _ _) size27 HL32.out rfl ?_; intro w7 hS7 hg7; have hB7 := (hb6.alloc hb6.size _).grown hg7 (by have := hb6.size; simp; omega) (fun k hk => by cases hk; exact hb6.size); have hT7 := HT5.out.below (((Below.refl _ w5).alloc (Nat.le_refl _) _).grown hg7 (by simp) (fun k hk => by cases hk; exact Nat.le_refl _)); have hr7 := rd_blk32 hS7 HL32.out; clear hg7 hS7))
      refine (Add_c hT7 hr7 hSB (ht0.below hB7) (by omega) hB7.size (by omega)).mono ?_
      rintro x w8 ⟨rfl, v8, hS8, hF8, hat8⟩
      have hB8 := hF8.below hB7 hB7.size hT7.ge hT7.row_ge
      have HS8 := Aside0.mk hS8
      clear hS8 hF8 hat8
      go_wp2_with fail
      refine (Sum_c HS8.out (ht0.below hB8) (by rw [List.length_append, HL32.out]; omega)).mono ?_
      rintro x w9 ⟨rfl, hb9⟩
      have hB9 := below_next hB8 hb9
      have hO9 := Blk.below hO.out hB9
      have hl32 := shaS_length (P2 ++ S)
      obtain ⟨T, HT2⟩ : ∃ T, Aside0 (shaS (P2 ++ S) = T) := ⟨_, ⟨rfl⟩⟩
      rw [HT2.out] at hl32
      rw [HT2.out]
      have HL := Aside0.mk hl32
      clear hl32
      go_wp2_with (first
        | (refine store_arr rfl 27 (.tmp 4) (.tmp 39) rfl w.heap.size .u8 T rfl rfl 27 32 _ hO9 size27 HL.out (by rw [nums_length]; rfl) ?_; intro w12 hO12 hg12; have HO12 := Aside0.mk hO12; clear hO12))
      have hbb : Below w.heap.size w w9 := hB0.trans (hB9.mono hB0.size)
      refine bodyPost_ret (v := .agg (nums .u8 T).toArray) ?_ rfl ⟨by rw [HT.out, HS.out, HT2.out], hbb.grown hg12 hbb.size (fun k hk => by cases hk; exact Nat.le_refl _)⟩
      refine results_arr (p := 4) (ty := 27) (h := ?_) (g := w.heap.size) (t := 27) (n := 32) (e := 5) (k := .u8) (l := T) (hp := ?_) (hg := HO12.out) (hu := Tryd.underlying27) (hi := size27) (hl := HL.out) ..
      · rfl
      · rfl
end Go.Proofs.YtmmbonlidcbkcaaDoor.MacTag
