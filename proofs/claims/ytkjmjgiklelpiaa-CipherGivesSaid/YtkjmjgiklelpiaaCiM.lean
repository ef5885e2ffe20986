/- cipher.Block, walked. -/
import Derived.Test.YtkjmjgiklelpiaaApp
import Derived.Test.YtkjmjgiklelpiaaQuart
import Derived.Test.YtkjmjgiklelpiaaPlainCipherBlocks
import Derived.Deep.RegionHeld3
import Derived.Deep.Cut
import Derived.Deep.CutRange
import Derived.Test.YtkjmjgiklelpiaaCiL
import Derived.Test.YtkjmjgiklelpiaaCiK
namespace Go.Proofs.Ytkjmjgiklelpiaa.CiM
open Go.RowKit Go.Proofs.YtkjmjgiklelpiaaW.PrintWords Go.Proofs.Ytkjmjgiklelpiaa.Num Go.Proofs.Ytkjmjgiklelpiaa.WordC Go.Proofs.Ytkjmjgiklelpiaa.Arr Go.Proofs.Ytkjmjgiklelpiaa.App Go.Proofs.Ytkjmjgiklelpiaa.CiC Go.Proofs.Ytkjmjgiklelpiaa.CiB Go.Proofs.Ytkjmjgiklelpiaa.CiD Go.Proofs.Ytkjmjgiklelpiaa.CiL Go.Proofs.Ytkjmjgiklelpiaa.CiK
set_option linter.unusedVariables false
set_option linter.unusedSimpArgs false

theorem g0S_length (k o : List Int) (hk : k.length = 32) (ho : o.length = 12) : (g0S k o).length = 16 := by
  unfold g0S
  rw [List.length_append, List.length_append, List.length_append, ws_length 8 k hk, ws_length 3 o ho]; rfl
set_option maxHeartbeats 8000000 in
set_option maxRecDepth 100000 in
theorem Block_yes {A B : Option Addr} {c d : Nat} {k o : List Int} {n : Int} {w : World} (hk : Rd w A 32 c k) (ho : Rd w B 12 d o) (bk : IsB k) (bo : IsB o) (h0 : 0 ≤ n) (h1 : n < 4294967296) :
    Calls Try.prog 17 #[.slice A 32 c, .slice B 12 d, .int .u32 n] w fun e w' => e = .returned (.tuple #[.agg (nums .u8 (chaS k o n)).toArray, .int .i64 0]) ∧ Below w.heap.size w w' := by
  go_enter Try.func17, Try.ntmps17
  go_wp2_with fail
  generalize hW : w.alloc _ = W0
  have hY : Blk W0 w.heap.size 25 (nums .u8 (List.replicate 64 0)) := by rw [← hW]; exact heap_alloc_new _ _
  have hB : Below w.heap.size w W0 := by rw [← hW]; exact (Below.refl _ w).alloc (Nat.le_refl _) _
  clear hW
  refine (begun_yes (hk.below hB) (ho.below hB) bk bo).mono ?_
  rintro x w1 ⟨rfl, hb1⟩
  have hk32 : k.length = 32 := hk.len
  have ho12 : o.length = 12 := ho.len
  have h16 := g0S_length k o hk32 ho12
  have hset := g0_set k o n (ws_length 8 k hk32)
  have hgw := gS_isW hk32 ho12 bk bo h0 h1
  have hgl := gS_length k o n hk32 ho12
  obtain ⟨G0, HG0⟩ : ∃ G, Aside0 (g0S k o = G) := ⟨_, ⟨rfl⟩⟩
  rw [HG0.out] at h16 hset ⊢
  obtain ⟨G, HG⟩ : ∃ G, Aside0 (gS k o n = G) := ⟨_, ⟨rfl⟩⟩
  rw [HG.out] at hset hgw hgl
  have HY1 := Aside0.mk (hY.below hb1)
  have HB1 := Aside0.mk (hB.trans (hb1.mono hB.size))
  have hs0 : w.heap.size < w1.heap.size := Blk.lt HY1.out
  have H16 := Aside0.mk h16
  have HSET := Aside0.mk hset
  have HGW := Aside0.mk hgw
  have HGL := Aside0.mk hgl
  have HZ : Aside0 (Blk (w1.alloc (.cells (nums .u32 (List.replicate 16 0)).toArray 65)) w1.heap.size 65 (nums .u32 (List.replicate 16 0))) := ⟨heap_alloc_new _ _⟩
  have HYA := Aside0.mk (Blk.alloc HY1.out (.cells (nums .u32 (List.replicate 16 0)).toArray 65))
  have HBA := Aside0.mk (HB1.out.alloc HB1.out.size (.cells (nums .u32 (List.replicate 16 0)).toArray 65))
  clear h16 hset hgw hgl hY hB hb1 hk32 ho12 hk ho
  go_wp2_with (first
    | (refine store_arr rfl 65 (.tmp 8) (.tmp 14) rfl w1.heap.size .u32 G0 rfl rfl 65 16 (nums .u32 (List.replicate 16 0)) HZ.out size65 H16.out (by rw [nums_length]; rfl) ?_; intro w2 hV hg2; have HV := Aside0.mk hV; have HG2 := Aside0.mk hg2; clear hV hg2
       have HBU := Aside0.mk ((Below.refl w1.heap.size (w1.alloc (.cells (nums .u32 (List.replicate 16 0)).toArray 65))).grown HG2.out (by simp) (fun k hk => by cases hk; exact Nat.le_refl _))
       have f12 := blk_num HV.out 12 (by rw [H16.out]; decide)
       have f12' := Blk.frozen HV.out 12
       have HV2 : Aside0 (Blk (w2.setCell ⟨w1.heap.size, 12, none⟩ (.int .u32 n)) w1.heap.size 65 (nums .u32 G)) := ⟨by rw [← HSET.out]; exact blk_put HV.out 12 n⟩
       have HY2 : Aside0 (Blk (w2.setCell ⟨w1.heap.size, 12, none⟩ (.int .u32 n)) w.heap.size 25 (nums .u8 (List.replicate 64 0))) := ⟨Blk.far (blk_under HYA.out HBU.out hs0) (p := ⟨w1.heap.size, 12, none⟩) (by show w.heap.size ≠ w1.heap.size; omega) _⟩
       have HB2 : Aside0 (Below w.heap.size w (w2.setCell ⟨w1.heap.size, 12, none⟩ (.int .u32 n))) := ⟨(HBA.out.trans (HBU.out.mono (by omega))).setCell (p := ⟨w1.heap.size, 12, none⟩) (by show w.heap.size ≤ w1.heap.size; omega) _⟩)
    | (refine load_arr rfl 65 (.tmp 8) rfl w1.heap.size rfl 65 .u32 G 16 23 HV2.out Try.underlying65 size65 HGL.out ?_))
  refine (block_c HGL.out HGW.out).mono ?_
  rintro x w3 ⟨rfl, hb3⟩
  have HY3 := Aside0.mk (HY2.out.below hb3)
  have HB3 := Aside0.mk (HB2.out.trans (hb3.mono HB2.out.size))
  have hbl := blkS_length G
  have hcha : chaS k o n = blkS G := by unfold chaS; rw [HG.out]
  obtain ⟨S, HS⟩ : ∃ S, Aside0 (blkS G = S) := ⟨_, ⟨rfl⟩⟩
  rw [HS.out] at hbl hcha ⊢
  have HBL := Aside0.mk hbl
  have HCHA := Aside0.mk hcha
  clear hbl hcha f12 f12' hb3
  go_wp2_with (first
    | (refine store_arr rfl 25 (.tmp 6) (.tmp 22) rfl w.heap.size .u8 S rfl rfl 25 64 _ HY3.out size25 HBL.out (by rw [nums_length]; rfl) ?_; intro w12 hO12 hg12; have HO12 := Aside0.mk hO12; have HG12 := Aside0.mk hg12; clear hO12 hg12))
  refine bodyPost_ret (v := .tuple #[.agg (nums .u8 S).toArray, .int .i64 0]) ?_ rfl ⟨by rw [HCHA.out], HB3.out.grown HG12.out HB3.out.size (fun k hk => by cases hk; exact Nat.le_refl _)⟩
  exact results_two_row (p := 6) (u := 7) (ty := 25) rfl _ w12 w.heap.size 25 64 5 .u8 S rfl HO12.out Try.underlying25 size25 HBL.out
set_option maxHeartbeats 8000000 in
set_option maxRecDepth 100000 in
theorem Block_no {A B : Option Addr} {n m c d : Nat} {z : Int} {w : World} (h : rightC n m = false) :
    Calls Try.prog 17 #[.slice A n c, .slice B m d, .int .u32 z] w fun e w' => e = .returned (.tuple #[.agg (nums .u8 (List.replicate 64 0)).toArray, .int .i64 1]) ∧ Below w.heap.size w w' := by
  go_enter Try.func17, Try.ntmps17
  go_wp2_with fail
  generalize hW : w.alloc _ = W0
  have hY : Blk W0 w.heap.size 25 (nums .u8 (List.replicate 64 0)) := by rw [← hW]; exact heap_alloc_new _ _
  have hB : Below w.heap.size w W0 := by rw [← hW]; exact (Below.refl _ w).alloc (Nat.le_refl _) _
  clear hW
  refine (begun_no h).mono ?_
  rintro x w1 ⟨rfl, hb1⟩
  obtain ⟨G0, HG0⟩ : ∃ G, Aside0 (fillG c4 = G) := ⟨_, ⟨rfl⟩⟩
  have h16 : G0.length = 16 := by rw [← HG0.out]; rfl
  rw [HG0.out]
  have HY1 := Aside0.mk (hY.below hb1)
  have HB1 := Aside0.mk (hB.trans (hb1.mono hB.size))
  have hs0 : w.heap.size < w1.heap.size := Blk.lt HY1.out
  have H16 := Aside0.mk h16
  have HZ : Aside0 (Blk (w1.alloc (.cells (nums .u32 (List.replicate 16 0)).toArray 65)) w1.heap.size 65 (nums .u32 (List.replicate 16 0))) := ⟨heap_alloc_new _ _⟩
  have HYA := Aside0.mk (Blk.alloc HY1.out (.cells (nums .u32 (List.replicate 16 0)).toArray 65))
  have HBA := Aside0.mk (HB1.out.alloc HB1.out.size (.cells (nums .u32 (List.replicate 16 0)).toArray 65))
  have HL64 : Aside0 ((List.replicate 64 (0 : Int)).length = 64) := ⟨rfl⟩
  clear h16 hY hB hb1
  go_wp2_with (first
    | (refine store_arr rfl 65 (.tmp 8) (.tmp 14) rfl w1.heap.size .u32 G0 rfl rfl 65 16 (nums .u32 (List.replicate 16 0)) HZ.out size65 H16.out (by rw [nums_length]; rfl) ?_; intro w2 hV hg2; have HV := Aside0.mk hV; have HG2 := Aside0.mk hg2; clear hV hg2
       have HBU := Aside0.mk ((Below.refl w1.heap.size (w1.alloc (.cells (nums .u32 (List.replicate 16 0)).toArray 65))).grown HG2.out (by simp) (fun k hk => by cases hk; exact Nat.le_refl _))
       have HY2 : Aside0 (Blk w2 w.heap.size 25 (nums .u8 (List.replicate 64 0))) := ⟨blk_under HYA.out HBU.out hs0⟩
       have HB2 : Aside0 (Below w.heap.size w w2) := ⟨HBA.out.trans (HBU.out.mono (by omega))⟩)
    | (refine store_arr rfl 25 (.tmp 6) (.tmp 18) rfl w.heap.size .u8 (List.replicate 64 0) rfl rfl 25 64 _ HY2.out size25 HL64.out (by rw [nums_length]; rfl) ?_; intro w12 hO12 hg12; have HO12 := Aside0.mk hO12; have HG12 := Aside0.mk hg12; clear hO12 hg12))
  refine bodyPost_ret (v := .tuple #[.agg (nums .u8 (List.replicate 64 0)).toArray, .int .i64 1]) ?_ rfl ⟨rfl, HB2.out.grown HG12.out HB2.out.size (fun k hk => by cases hk; exact Nat.le_refl _)⟩
  exact results_two_row (p := 6) (u := 7) (ty := 25) rfl _ w12 w.heap.size 25 64 5 .u8 (List.replicate 64 0) rfl HO12.out Try.underlying25 size25 HL64.out
end Go.Proofs.Ytkjmjgiklelpiaa.CiM
