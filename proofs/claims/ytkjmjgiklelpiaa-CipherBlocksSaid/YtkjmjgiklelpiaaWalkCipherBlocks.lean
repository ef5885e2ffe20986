/- CipherBlocks, walked. -/
import Derived.Test.YtkjmjgiklelpiaaApp
import Derived.Test.YtkjmjgiklelpiaaQuart
import Derived.Test.YtkjmjgiklelpiaaPlainCipherBlocks
import Derived.Deep.RegionHeld3
import Derived.Deep.Cut
import Derived.Deep.CutRange
import Derived.Test.YtkjmjgiklelpiaaCiA
import Derived.Test.YtkjmjgiklelpiaaCiE
import Derived.Outline
namespace Go.Proofs.Ytkjmjgiklelpiaa.WalkCipherBlocks
open Go.RowKit Go.Proofs.YtkjmjgiklelpiaaW.PrintWords Go.Proofs.Ytkjmjgiklelpiaa.Num Go.Proofs.Ytkjmjgiklelpiaa.WordC Go.Proofs.Ytkjmjgiklelpiaa.Arr Go.Proofs.Ytkjmjgiklelpiaa.App Go.Proofs.Ytkjmjgiklelpiaa.CiC Go.Proofs.Ytkjmjgiklelpiaa.CiB Go.Proofs.Ytkjmjgiklelpiaa.CiD Go.Proofs.Ytkjmjgiklelpiaa.CiL Go.Proofs.Ytkjmjgiklelpiaa.CiK Go.Proofs.Ytkjmjgiklelpiaa.CiM Go.Proofs.Ytkjmjgiklelpiaa.CiV Go.Proofs.Ytkjmjgiklelpiaa.CiA Go.Proofs.Ytkjmjgiklelpiaa.CiE
set_option linter.unusedVariables false
set_option linter.unusedSimpArgs false

theorem blk_rd64 {w : World} {g : Nat} {S : List Int} (h : Blk w g 25 (nums .u8 S)) (hl : S.length = 64) : Rd w (some ⟨g, 0, none⟩) 64 64 S := by
  have := rd_of_blk h 0 S 64 (by omega) (by omega) (fun j hj => by rw [Nat.zero_add]; exact nums_get .u8 S j hj)
  rwa [hl] at this
theorem slice_arr64 (G : Nat) (W : World) : (Instr.sliceAt 25 (.pointer (some ⟨G, 0, none⟩)) none none none).run Try.prog W = .ok (.slice (some ⟨G, 0, none⟩) 64 64) W := by
  obtain ⟨i, hi, hz⟩ := infoX
  simp [Instr.sliceAt, run_underlying Try.underlying25, Instr.sureAddr, Instr.sliceBounds, asAddr, sizeOf, typeInfo, hi, hz, Addr.add]
set_option maxHeartbeats 8000000 in
set_option maxRecDepth 100000 in
theorem walk (A : Option Addr) (n c : Nat) (k : List Int) {w : World} (hr : Rd w A n c k) (hB : IsB k) (hn : n ≤ 140737488351232) (A' : Option Addr) (m c' : Nat) (o : List Int) (hr' : Rd w A' m c' o) (hB' : IsB o) (hn' : m ≤ 140737488351232) (z : Int) (hz : (Lit.int .u32 z).wf = true) :
    Calls Try.prog 3 #[.slice A n c, .slice A' m c', .int .u32 z] w fun e w' => e = .returned (.bool true) ∧ Below w.heap.size w w' := by
  obtain ⟨z0, z1⟩ := wf_u32 hz
  have HL := Aside0.mk hr.len
  have HL' := Aside0.mk hr'.len
  have HR0 := Aside0.mk hr
  have HR0' := Aside0.mk hr'
  clear hr hr' hz
  go_enter Try.func3, Try.ntmps3
  go_wp2_with fail
  refine (own16_c HR0.out hn).mono ?_
  rintro x w1 ⟨v1, rfl, ho1, hb1⟩
  obtain ⟨A1, c1, rfl, r1⟩ := rd_of_own ho1
  rw [HL.out] at r1 ⊢
  clear ho1
  go_wp2_with fail
  refine (own16_c (HR0'.out.below hb1) hn').mono ?_
  rintro x w2 ⟨v2, rfl, ho2, hb2⟩
  obtain ⟨A2, c2, rfl, r2⟩ := rd_of_own ho2
  rw [HL'.out] at r2 ⊢
  have HB2 := Aside0.mk (below_next hb1 hb2)
  have R1 := Aside0.mk (r1.below hb2)
  have R2 := Aside0.mk r2
  clear ho2 r1 r2 hb1 hb2
  go_wp2_with fail
  by_cases hc : rightC n m = true
  · have hnm : n = 32 ∧ m = 12 := by simpa [rightC] using hc
    obtain ⟨rfl, rfl⟩ := hnm
    refine (Block_yes R1.out R2.out hB hB' z0 z1).mono ?_
    rintro x w3 ⟨rfl, hb3⟩
    have HB3 := Aside0.mk (below_next HB2.out hb3)
    have hbl := blkS_length (gS k o z)
    have hcb := blkS_isB (gS k o z)
    obtain ⟨S, HS⟩ : ∃ S, Aside0 (chaS k o z = S) := ⟨_, ⟨rfl⟩⟩
    rw [show blkS (gS k o z) = S from HS.out] at hbl hcb
    rw [HS.out]
    have HBL := Aside0.mk hbl
    have HCB := Aside0.mk hcb
    have HZ : Aside0 (Blk (w3.alloc (.cells (nums .u8 (List.replicate 64 0)).toArray 25)) w3.heap.size 25 (nums .u8 (List.replicate 64 0))) := ⟨heap_alloc_new _ _⟩
    have HBA := Aside0.mk (HB3.out.alloc HB3.out.size (.cells (nums .u8 (List.replicate 64 0)).toArray 25))
    have HR3 := Aside0.mk ((R1.out.below hb3).alloc (.cells (nums .u8 (List.replicate 64 0)).toArray 25))
    have HR3' := Aside0.mk ((R2.out.below hb3).alloc (.cells (nums .u8 (List.replicate 64 0)).toArray 25))
    have hs2 := hb3.size
    clear hbl hcb
    go_wp2_with (first
      | (refine store_arr rfl 25 (.tmp 9) (.tmp 20) rfl w3.heap.size .u8 S rfl rfl 25 64 _ HZ.out size25 HBL.out (by rw [nums_length]; rfl) ?_; intro w4 hV hg4
         have HV := Aside0.mk hV
         have HB4 := Aside0.mk (HBA.out.grown hg4 HBA.out.size (fun k hk => by cases hk; exact HB3.out.size))
         have HBU := Aside0.mk ((Below.refl w3.heap.size (w3.alloc (.cells (nums .u8 (List.replicate 64 0)).toArray 25))).grown hg4 (by simp) (fun k hk => by cases hk; exact Nat.le_refl _))
         have HB24 := Aside0.mk ((hb3.alloc hb3.size (.cells (nums .u8 (List.replicate 64 0)).toArray 25)).trans (HBU.out.mono hs2))
         have HQ1 := Aside0.mk (R1.out.below HB24.out)
         have HQ2 := Aside0.mk (R2.out.below HB24.out)
         have HQ3 := Aside0.mk (HR0.out.below HB4.out)
         have HQ4 := Aside0.mk (HR0'.out.below HB4.out)
         have s1 := rd_string HQ1.out
         have s2 := rd_string HQ2.out
         have s3 := rd_string HQ3.out
         have s4 := rd_string HQ4.out
         clear hV hg4))
    refine (refRight_c HQ3.out HQ4.out).mono ?_
    rintro x w5 ⟨rfl, ⟨n5, rfl⟩⟩
    rw [hc]
    clear s1 s2 s3 s4
    go_wp2_with fail
    generalize hW5 : w4.drewN n5 = w5
    have HB5 : Aside0 (Below w.heap.size w w5) := ⟨by rw [← hW5]; exact pw_below_drewN HB4.out _⟩
    have HV5 : Aside0 (Blk w5 w3.heap.size 25 (nums .u8 S)) := ⟨by rw [← hW5]; exact HV.out⟩
    clear hW5
    have HX := Aside0.mk (HR0.out.below HB5.out)
    have HX' := Aside0.mk (HR0'.out.below HB5.out)
    have hE : ∀ w' : World, Below w5.heap.size w5 w' → (convert 22 9 (.slice (some ⟨w3.heap.size, 0, none⟩) 64 64)).run Try.prog w' = .ok (.string (strOfNums S)) w' := fun w' hb => rd_string (blk_rd64 (Blk.below HV5.out hb) HBL.out)
    have HE := Aside0.mk hE
    have HD : Below w5.heap.size w5 w5.drew := (Below.refl _ w5).drew
    have hsl := slice_arr64 w3.heap.size
    have str := str_self S
    clear hE
    refine wp_region_held_drew (S := (fun w' => (convert 22 9 (.slice (some ⟨w3.heap.size, 0, none⟩) 64 64)).run Try.prog w' = .ok (.string (strOfNums S)) w')) (by kernel_rfl) ?_ (fun hHeld => ?_)
    · exact HE.out _ HD
    refine wpAnyH_take (i := 0) (v := ?_) (List.getElem?_toArray.trans rfl) (by kernel_rfl) (by kernel_rfl) (by kernel_rfl) (fun _ _ _ h => h) (Or.inl ⟨by rfl, ?_⟩) (by assumption) ?_
    rotate_left
    · (intro w hSw; (try dsimp only at hSw); go_simp; try with_reducible rfl)
    (try simp only [Act.put, List.setIfInBounds_toArray, List.set_cons_zero, List.set_cons_succ])
    refine wpAnyH_take (i := 2) (v := ?_) (List.getElem?_toArray.trans rfl) (by kernel_rfl) (by kernel_rfl) (by kernel_rfl) (fun _ _ _ h => h) (Or.inl ⟨by rfl, ?_⟩) (by assumption) ?_
    rotate_left
    · (intro w hSw; (try dsimp only at hSw); go_simp; try with_reducible rfl)
    (try simp only [Act.put, List.setIfInBounds_toArray, List.set_cons_zero, List.set_cons_succ])
    refine wpAnyH_take (i := 3) (v := ?_) (List.getElem?_toArray.trans rfl) (by kernel_rfl) (by kernel_rfl) (by kernel_rfl) (fun _ _ _ h => h) (Or.inl ⟨by rfl, ?_⟩) (by assumption) ?_
    rotate_left
    · (intro w hSw; (try dsimp only at hSw); go_simp; try with_reducible rfl)
    (try simp only [Act.put, List.setIfInBounds_toArray, List.set_cons_zero, List.set_cons_succ])
    refine wpAnyH_take (i := 4) (v := ?_) (List.getElem?_toArray.trans rfl) (by kernel_rfl) (by kernel_rfl) (by kernel_rfl) (fun _ _ _ h => h) (Or.inl ⟨by rfl, ?_⟩) (by assumption) ?_
    rotate_left
    · (intro w hSw; (try dsimp only at hSw); go_simp; try with_reducible rfl)
    (try simp only [Act.put, List.setIfInBounds_toArray, List.set_cons_zero, List.set_cons_succ])
    refine wpAnyH_take (i := 1) (v := ?_) (List.getElem?_toArray.trans rfl) (by kernel_rfl) (by kernel_rfl) (by kernel_rfl) (fun _ _ _ h => h) (Or.inl ⟨by rfl, ?_⟩) (by assumption) ?_
    rotate_left
    · (intro w hSw; (try dsimp only at hSw); go_simp; try with_reducible rfl)
    (try simp only [Act.put, List.setIfInBounds_toArray, List.set_cons_zero, List.set_cons_succ])
    refine wpAnyH_ready (rs := [5]) (by kernel_rfl) (by simp) (AllReadyH.cons (List.getElem?_toArray.trans rfl) (fun Kx hKx => ?_) AllReadyH.nil)
    go_simp
    go_at_call 20
    refine (refBlock_c (HX.out.below HD) (HX'.out.below HD) hB hB' z0 z1).mono ?_
    rintro x w6 ⟨v6, rfl, ho6, hb6⟩
    rw [HS.out] at ho6
    obtain ⟨A6, c6, rfl, r6⟩ := rd_of_own ho6
    have s6 := rd_string r6
    have HB6 := below_next HD hb6
    clear ho6 r6
    go_wp2_with fail
    refine hKx.out _ _ ?_ (fun hHeld => ?_)
    · exact HE.out _ HB6
    clear hKx Kx
    (try simp only [Act.put, List.setIfInBounds_toArray, List.set_cons_zero, List.set_cons_succ])
    refine wpAnyH_ready (rs := [6]) (by kernel_rfl) (by simp) (AllReadyH.cons (List.getElem?_toArray.trans rfl) (fun Kx hKx => ?_) AllReadyH.nil)
    go_simp
    go_wp2_with fail
    refine hKx.out _ _ ?_ (fun hHeld => ?_)
    · exact HE.out _ HB6
    clear hKx Kx
    (try simp only [Act.put, List.setIfInBounds_toArray, List.set_cons_zero, List.set_cons_succ])
    refine wpAnyH_take (i := 7) (v := ?_) (List.getElem?_toArray.trans rfl) (by kernel_rfl) (by kernel_rfl) (by kernel_rfl) (fun _ _ _ h => h) (Or.inl ⟨by rfl, ?_⟩) (by assumption) ?_
    rotate_left
    · (intro w hSw; (try dsimp only at hSw); go_simp; try with_reducible rfl)
    (try simp only [Act.put, List.setIfInBounds_toArray, List.set_cons_zero, List.set_cons_succ])
    refine wpAnyH_take (i := 8) (v := ?_) (List.getElem?_toArray.trans rfl) (by kernel_rfl) (by kernel_rfl) (by kernel_rfl) (fun _ _ _ h => h) (Or.inl ⟨by rfl, ?_⟩) (by assumption) ?_
    rotate_left
    · (intro w hSw; (try dsimp only at hSw); go_simp; try with_reducible rfl)
    (try simp only [Act.put, List.setIfInBounds_toArray, List.set_cons_zero, List.set_cons_succ])
    refine wpAnyH_take (i := 9) (v := ?_) (List.getElem?_toArray.trans rfl) (by kernel_rfl) (by kernel_rfl) (by kernel_rfl) (fun _ _ _ h => h) (Or.inl ⟨by rfl, ?_⟩) (by assumption) ?_
    rotate_left
    · (intro w hSw; (try dsimp only at hSw); go_simp; try with_reducible rfl)
    (try simp only [Act.put, List.setIfInBounds_toArray, List.set_cons_zero, List.set_cons_succ])
    refine wpAnyH_take (i := 10) (v := ?_) (List.getElem?_toArray.trans rfl) (by kernel_rfl) (by kernel_rfl) (by kernel_rfl) (fun _ _ _ h => h) (Or.inl ⟨by rfl, ?_⟩) (by assumption) ?_
    rotate_left
    · (intro w hSw; (try dsimp only at hSw); go_simp; try with_reducible rfl)
    (try simp only [Act.put, List.setIfInBounds_toArray, List.set_cons_zero, List.set_cons_succ])
    refine wpAnyH_take (i := 11) (v := ?_) (List.getElem?_toArray.trans rfl) (by kernel_rfl) (by kernel_rfl) (by kernel_rfl) (fun _ _ _ h => h) (Or.inl ⟨by rfl, ?_⟩) (by assumption) ?_
    rotate_left
    · (intro w hSw; (try dsimp only at hSw); go_simp; try with_reducible rfl)
    (try simp only [Act.put, List.setIfInBounds_toArray, List.set_cons_zero, List.set_cons_succ])
    refine wpAnyH_take (i := 12) (v := ?_) (List.getElem?_toArray.trans rfl) (by kernel_rfl) (by kernel_rfl) (by kernel_rfl) (fun _ _ _ h => h) (Or.inl ⟨by rfl, ?_⟩) (by assumption) ?_
    rotate_left
    · (intro w hSw; (try dsimp only at hSw); go_simp; try with_reducible rfl)
    (try simp only [Act.put, List.setIfInBounds_toArray, List.set_cons_zero, List.set_cons_succ])
    refine wpAnyH_ready (rs := [13]) (by kernel_rfl) (by simp) (AllReadyH.cons (List.getElem?_toArray.trans rfl) (fun Kx hKx => ?_) AllReadyH.nil)
    go_simp
    go_at_call 19
    refine awake19_c.mono ?_
    rintro x w7 ⟨rfl, hb7⟩
    have HB7 := below_next HB6 hb7
    go_wp2_with fail
    refine hKx.out _ _ ?_ (fun hHeld => ?_)
    · exact HE.out _ HB7
    clear hKx Kx
    (try simp only [Act.put, List.setIfInBounds_toArray, List.set_cons_zero, List.set_cons_succ])
    refine wpAnyH_take (i := 14) (v := ?_) (List.getElem?_toArray.trans rfl) (by kernel_rfl) (by kernel_rfl) (by kernel_rfl) (fun _ _ _ h => h) (Or.inl ⟨by rfl, ?_⟩) (by assumption) ?_
    rotate_left
    · (intro w hSw; (try dsimp only at hSw); go_simp; try with_reducible rfl)
    (try simp only [Act.put, List.setIfInBounds_toArray, List.set_cons_zero, List.set_cons_succ])
    refine wpAnyH_take (i := 15) (v := ?_) (List.getElem?_toArray.trans rfl) (by kernel_rfl) (by kernel_rfl) (by kernel_rfl) (fun _ _ _ h => h) (Or.inl ⟨by rfl, ?_⟩) (by assumption) ?_
    rotate_left
    · (intro w hSw; (try dsimp only at hSw); go_simp; try with_reducible rfl)
    (try simp only [Act.put, List.setIfInBounds_toArray, List.set_cons_zero, List.set_cons_succ])
    refine wpAnyH_done (by kernel_rfl) ?_ _
    go_wp2_with fail
    go_ret
    exact ⟨rfl, below_next HB5.out HB7⟩
  · have hc0 : rightC n m = false := by simpa using hc
    refine (Block_no hc0).mono ?_
    rintro x w3 ⟨rfl, hb3⟩
    have HB3 := Aside0.mk (below_next HB2.out hb3)
    obtain ⟨S, HS⟩ : ∃ S, Aside0 (List.replicate 64 (0 : Int) = S) := ⟨_, ⟨rfl⟩⟩
    have hbl : S.length = 64 := by rw [← HS.out]; rfl
    rw [HS.out]
    have HBL := Aside0.mk hbl
    have HZ : Aside0 (Blk (w3.alloc (.cells (nums .u8 (List.replicate 64 0)).toArray 25)) w3.heap.size 25 (nums .u8 (List.replicate 64 0))) := ⟨heap_alloc_new _ _⟩
    have HBA := Aside0.mk (HB3.out.alloc HB3.out.size (.cells (nums .u8 (List.replicate 64 0)).toArray 25))
    have hs2 := hb3.size
    clear hbl
    go_wp2_with (first
      | (refine store_arr rfl 25 (.tmp 9) (.tmp 20) rfl w3.heap.size .u8 S rfl rfl 25 64 _ HZ.out size25 HBL.out (by rw [nums_length]; rfl) ?_; intro w4 hV hg4
         have HV := Aside0.mk hV
         have HB4 := Aside0.mk (HBA.out.grown hg4 HBA.out.size (fun k hk => by cases hk; exact HB3.out.size))
         have HBU := Aside0.mk ((Below.refl w3.heap.size (w3.alloc (.cells (nums .u8 (List.replicate 64 0)).toArray 25))).grown hg4 (by simp) (fun k hk => by cases hk; exact Nat.le_refl _))
         have HB24 := Aside0.mk ((hb3.alloc hb3.size (.cells (nums .u8 (List.replicate 64 0)).toArray 25)).trans (HBU.out.mono hs2))
         have HQ1 := Aside0.mk (R1.out.below HB24.out)
         have HQ2 := Aside0.mk (R2.out.below HB24.out)
         have HQ3 := Aside0.mk (HR0.out.below HB4.out)
         have HQ4 := Aside0.mk (HR0'.out.below HB4.out)
         have s1 := rd_string HQ1.out
         have s2 := rd_string HQ2.out
         have s3 := rd_string HQ3.out
         have s4 := rd_string HQ4.out
         clear hV hg4))
    refine (refRight_c HQ3.out HQ4.out).mono ?_
    rintro x w5 ⟨rfl, ⟨n5, rfl⟩⟩
    rw [hc0]
    clear s1 s2 s3 s4
    have HV5 : Aside0 (Blk (w4.drewN n5) w3.heap.size 25 (nums .u8 S)) := ⟨HV.out⟩
    have hq : ∀ W : World, (binOp .eql 25 (.agg (nums .u8 S).toArray) (.agg #[Value.int .u8 0, Value.int .u8 0, Value.int .u8 0, Value.int .u8 0, Value.int .u8 0, Value.int .u8 0, Value.int .u8 0, Value.int .u8 0, Value.int .u8 0, Value.int .u8 0, Value.int .u8 0, Value.int .u8 0, Value.int .u8 0, Value.int .u8 0, Value.int .u8 0, Value.int .u8 0, Value.int .u8 0, Value.int .u8 0, Value.int .u8 0, Value.int .u8 0, Value.int .u8 0, Value.int .u8 0, Value.int .u8 0, Value.int .u8 0, Value.int .u8 0, Value.int .u8 0, Value.int .u8 0, Value.int .u8 0, Value.int .u8 0, Value.int .u8 0, Value.int .u8 0, Value.int .u8 0, Value.int .u8 0, Value.int .u8 0, Value.int .u8 0, Value.int .u8 0, Value.int .u8 0, Value.int .u8 0, Value.int .u8 0, Value.int .u8 0, Value.int .u8 0, Value.int .u8 0, Value.int .u8 0, Value.int .u8 0, Value.int .u8 0, Value.int .u8 0, Value.int .u8 0, Value.int .u8 0, Value.int .u8 0, Value.int .u8 0, Value.int .u8 0, Value.int .u8 0, Value.int .u8 0, Value.int .u8 0, Value.int .u8 0, Value.int .u8 0, Value.int .u8 0, Value.int .u8 0, Value.int .u8 0, Value.int .u8 0, Value.int .u8 0, Value.int .u8 0, Value.int .u8 0, Value.int .u8 0])).run Try.prog W = .ok (.bool true) W := fun W => by
      have h := eql25 (xs := S) (ys := List.replicate 64 0) HBL.out rfl W
      rw [show eqB S (List.replicate 64 0) = true by rw [HS.out]; exact eqB_self S] at h
      exact h
    go_wp2_with (first
      | (refine load_arr rfl 25 (.tmp 9) rfl w3.heap.size rfl 25 .u8 S 64 5 HV5.out Try.underlying25 size25 HBL.out ?_))
    refine awake19_c.mono ?_
    rintro x w7 ⟨rfl, hb7⟩
    go_wp2_with fail
    go_ret
    exact ⟨rfl, below_next (pw_below_drewN HB4.out _) hb7⟩
end Go.Proofs.Ytkjmjgiklelpiaa.WalkCipherBlocks
