/- A tag that is fixed. -/
import Derived.Test.YtmmbonlidcbkcaaDoorMacLaw
namespace Go.Proofs.YtmmbonlidcbkcaaDoor.MacAwake
open Go.RowKit Go.Proofs.YtmmbonlidcbkcaaDoorW.PrintWords Go.Proofs.YtmmbonlidcbkcaaDoor.Num Go.Proofs.YtmmbonlidcbkcaaDoor.Sha Go.Proofs.YtmmbonlidcbkcaaDoor.Hmac Go.Proofs.YtmmbonlidcbkcaaDoor.WordC Go.Proofs.YtmmbonlidcbkcaaDoor.Arr Go.Proofs.YtmmbonlidcbkcaaDoor.App Go.Proofs.YtmmbonlidcbkcaaDoor.DgC Go.Proofs.YtmmbonlidcbkcaaDoor.DgBlock Go.Proofs.YtmmbonlidcbkcaaDoor.DgState Go.Proofs.YtmmbonlidcbkcaaDoor.DgAdd Go.Proofs.YtmmbonlidcbkcaaDoor.DgSum Go.Proofs.YtmmbonlidcbkcaaDoor.DgOf Go.Proofs.YtmmbonlidcbkcaaDoor.DgLaw Go.Proofs.YtmmbonlidcbkcaaDoor.DgWords Go.Proofs.YtmmbonlidcbkcaaDoor.MacC Go.Proofs.YtmmbonlidcbkcaaDoor.DgCopy Go.Proofs.YtmmbonlidcbkcaaDoor.MacNew Go.Proofs.YtmmbonlidcbkcaaDoor.MacTag Go.Proofs.YtmmbonlidcbkcaaDoor.MacLaw Go.Proofs.YtmmbonlidcbkcaaDoor.RefOf
set_option linter.unusedVariables false
set_option linter.unusedSimpArgs false

theorem fox0 : (tagS [107, 101, 121] [84, 104, 101, 32, 113, 117, 105, 99, 107, 32, 98, 114, 111, 119, 110, 32, 102, 111, 120, 32, 106, 117, 109, 112, 115, 32, 111, 118, 101, 114, 32, 116, 104, 101, 32, 108, 97, 122, 121, 32, 100, 111, 103]).getD 0 0 = 247 := by kernel_rfl
theorem fox1 : (tagS [107, 101, 121] [84, 104, 101, 32, 113, 117, 105, 99, 107, 32, 98, 114, 111, 119, 110, 32, 102, 111, 120, 32, 106, 117, 109, 112, 115, 32, 111, 118, 101, 114, 32, 116, 104, 101, 32, 108, 97, 122, 121, 32, 100, 111, 103]).getD 1 0 = 188 := by kernel_rfl
theorem fox31 : (tagS [107, 101, 121] [84, 104, 101, 32, 113, 117, 105, 99, 107, 32, 98, 114, 111, 119, 110, 32, 102, 111, 120, 32, 106, 117, 109, 112, 115, 32, 111, 118, 101, 114, 32, 116, 104, 101, 32, 108, 97, 122, 121, 32, 100, 111, 103]).getD 31 0 = 216 := by kernel_rfl
set_option maxHeartbeats 2000000 in
set_option maxRecDepth 100000 in
theorem awake34_c {w : World} (ht : Tb w) : Calls Tryd.prog 34 #[] w fun e w' => e = .returned (.bool true) ∧ Below w.heap.size w w' := by
  have hl := tagS_length [107, 101, 121] [84, 104, 101, 32, 113, 117, 105, 99, 107, 32, 98, 114, 111, 119, 110, 32, 102, 111, 120, 32, 106, 117, 109, 112, 115, 32, 111, 118, 101, 114, 32, 116, 104, 101, 32, 108, 97, 122, 121, 32, 100, 111, 103]
  have e0 := fox0
  have e1 := fox1
  have e31 := fox31
  obtain ⟨S, HS⟩ : ∃ S, Aside0 (tagS [107, 101, 121] [84, 104, 101, 32, 113, 117, 105, 99, 107, 32, 98, 114, 111, 119, 110, 32, 102, 111, 120, 32, 106, 117, 109, 112, 115, 32, 111, 118, 101, 114, 32, 116, 104, 101, 32, 108, 97, 122, 121, 32, 100, 111, 103] = S) := ⟨_, ⟨rfl⟩⟩
  rw [HS.out] at hl e0 e1 e31
  have HL := Aside0.mk hl
  have E0 := Aside0.mk e0
  have E1 := Aside0.mk e1
  have E31 := Aside0.mk e31
  clear hl e0 e1 e31
  have hb1 : Below w.heap.size w (w.alloc (.cells (nums .u8 [107, 101, 121]).toArray 5 (3, 4))) := (Below.refl _ _).alloc (Nat.le_refl _) _
  have hb2 : Below w.heap.size w ((w.alloc (.cells (nums .u8 [107, 101, 121]).toArray 5 (3, 4))).alloc (.cells (nums .u8 [84, 104, 101, 32, 113, 117, 105, 99, 107, 32, 98, 114, 111, 119, 110, 32, 102, 111, 120, 32, 106, 117, 109, 112, 115, 32, 111, 118, 101, 114, 32, 116, 104, 101, 32, 108, 97, 122, 121, 32, 100, 111, 103]).toArray 5 (43, 44))) := hb1.alloc hb1.size _
  have hr1 := (rd_const w [107, 101, 121] (3, 4) (by simp)).alloc (.cells (nums .u8 [84, 104, 101, 32, 113, 117, 105, 99, 107, 32, 98, 114, 111, 119, 110, 32, 102, 111, 120, 32, 106, 117, 109, 112, 115, 32, 111, 118, 101, 114, 32, 116, 104, 101, 32, 108, 97, 122, 121, 32, 100, 111, 103]).toArray 5 (43, 44))
  have hr2 : Rd ((w.alloc (.cells (nums .u8 [107, 101, 121]).toArray 5 (3, 4))).alloc (.cells (nums .u8 [84, 104, 101, 32, 113, 117, 105, 99, 107, 32, 98, 114, 111, 119, 110, 32, 102, 111, 120, 32, 106, 117, 109, 112, 115, 32, 111, 118, 101, 114, 32, 116, 104, 101, 32, 108, 97, 122, 121, 32, 100, 111, 103]).toArray 5 (43, 44))) (some ⟨w.heap.size + 1, 0, none⟩) 43 43 [84, 104, 101, 32, 113, 117, 105, 99, 107, 32, 98, 114, 111, 119, 110, 32, 102, 111, 120, 32, 106, 117, 109, 112, 115, 32, 111, 118, 101, 114, 32, 116, 104, 101, 32, 108, 97, 122, 121, 32, 100, 111, 103] := by
    have := rd_const (w.alloc (.cells (nums .u8 [107, 101, 121]).toArray 5 (3, 4))) [84, 104, 101, 32, 113, 117, 105, 99, 107, 32, 98, 114, 111, 119, 110, 32, 102, 111, 120, 32, 106, 117, 109, 112, 115, 32, 111, 118, 101, 114, 32, 116, 104, 101, 32, 108, 97, 122, 121, 32, 100, 111, 103] (43, 44) (by simp)
    have e : (w.alloc (.cells (nums .u8 [107, 101, 121]).toArray 5 (3, 4))).heap.size = w.heap.size + 1 := by simp
    rw [e] at this
    exact this
  have hIB : IsB [107, 101, 121] := by intro x hx; simp at hx; omega
  have hIB2 : IsB [84, 104, 101, 32, 113, 117, 105, 99, 107, 32, 98, 114, 111, 119, 110, 32, 102, 111, 120, 32, 106, 117, 109, 112, 115, 32, 111, 118, 101, 114, 32, 116, 104, 101, 32, 108, 97, 122, 121, 32, 100, 111, 103] := by intro x hx; simp at hx; omega
  have hcv := fun (w : World) (C : Array Value) (n c : Nat) => Lib.run_convert_bytes_const (P := Tryd.prog) w 22 5 C n c Tryd.underlying22 Tryd.underlying5
  have hcv2 : ∀ (w : World) (o : Obj) (C : Array Value) (n c : Nat), (convert 22 22 (.slice (some ⟨w.heap.size + 1, 0, none⟩) n c)).run Tryd.prog ((w.alloc o).alloc (.cells C 5)) = .ok (.slice (some ⟨w.heap.size + 1, 0, none⟩) n c) ((w.alloc o).alloc (.cells C 5 (C.size, C.size + 1))) := fun w o C n c => by
    have := hcv (w.alloc o) C n c
    rwa [World.size_alloc] at this
  have ht2 := ht.below hb2
  have HR1 := Aside0.mk hr1
  have HR2 := Aside0.mk hr2
  have HI := Aside0.mk hIB
  have HI2 := Aside0.mk hIB2
  clear hr1 hr2 hIB hIB2
  go_enter Tryd.func34, Tryd.ntmps34
  go_wp2_with fail
  refine (tag38_1 (k := w.heap.size + 1 + 1) (by simp) HR1.out HI.out (by simp) HR2.out HI2.out (by simp) ht2).mono ?_
  rintro x w2 ⟨rfl, hb3⟩
  rw [HS.out]
  have hb := below_next hb2 hb3
  go_wp2_with (first
    | (refine store_arr rfl 27 (.tmp 1) (.tmp 7) rfl w2.heap.size .u8 S rfl rfl 27 32 _ (heap_alloc_new _ _) size27 HL.out rfl ?_; intro w3 hO3 hg3; have c0 : w3.cell? ⟨w2.heap.size, 0, none⟩ = some (.int .u8 247) := (by rw [blk_num hO3 0 (by rw [HL.out]; omega), E0.out]); have c1 : w3.cell? ⟨w2.heap.size, 1, none⟩ = some (.int .u8 188) := (by rw [blk_num hO3 1 (by rw [HL.out]; omega), E1.out]); have c31 : w3.cell? ⟨w2.heap.size, 31, none⟩ = some (.int .u8 216) := (by rw [blk_num hO3 31 (by rw [HL.out]; omega), E31.out]); have hb4 := (hb.alloc hb.size _).grown hg3 (Nat.le_trans hb.size (by simp)) (fun k hk => by cases hk; exact hb.size); clear hO3 hg3))
  go_ret
  exact ⟨rfl, hb4⟩
end Go.Proofs.YtmmbonlidcbkcaaDoor.MacAwake
