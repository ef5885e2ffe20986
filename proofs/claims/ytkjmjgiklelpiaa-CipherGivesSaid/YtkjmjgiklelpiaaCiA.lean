/- awake of law 05, walked. -/
import Derived.Test.YtkjmjgiklelpiaaApp
import Derived.Test.YtkjmjgiklelpiaaQuart
import Derived.Test.YtkjmjgiklelpiaaPlainCipherBlocks
import Derived.Deep.RegionHeld3
import Derived.Deep.Cut
import Derived.Deep.CutRange
import Derived.Test.YtkjmjgiklelpiaaCiM
import Derived.Test.YtkjmjgiklelpiaaCiV
namespace Go.Proofs.Ytkjmjgiklelpiaa.CiA
open Go.RowKit Go.Proofs.YtkjmjgiklelpiaaW.PrintWords Go.Proofs.Ytkjmjgiklelpiaa.Num Go.Proofs.Ytkjmjgiklelpiaa.WordC Go.Proofs.Ytkjmjgiklelpiaa.Arr Go.Proofs.Ytkjmjgiklelpiaa.App Go.Proofs.Ytkjmjgiklelpiaa.CiC Go.Proofs.Ytkjmjgiklelpiaa.CiB Go.Proofs.Ytkjmjgiklelpiaa.CiD Go.Proofs.Ytkjmjgiklelpiaa.CiL Go.Proofs.Ytkjmjgiklelpiaa.CiK Go.Proofs.Ytkjmjgiklelpiaa.CiM Go.Proofs.Ytkjmjgiklelpiaa.CiV
set_option linter.unusedVariables false
set_option linter.unusedSimpArgs false

/-- The key as it is filled. -/
def kT (t : Nat) : List Int := kA.take t ++ List.replicate (32 - t) 0
theorem kT_length (t : Nat) (h : t ≤ 32) : (kT t).length = 32 := by simp [kT, kA]; omega
theorem kT_next (t : Nat) (h : t < 32) : (kT t).set t (t : Int) = kT (t + 1) := by
  have : ∀ t : Fin 32, (kT t.1).set t.1 (t.1 : Int) = kT (t.1 + 1) := by decide +kernel
  exact this ⟨t, h⟩
theorem kA_isB : IsB kA := by intro x hx; simp [kA] at hx; omega
theorem oA_isB : IsB oA := by intro x hx; simp [oA] at hx; omega
set_option maxHeartbeats 8000000 in
set_option maxRecDepth 100000 in
theorem awake19_c {w : World} : Calls Try.prog 19 #[] w fun e w' => e = .returned (.bool true) ∧ Below w.heap.size w w' := by
  have hmk : ∀ W : World, (Instr.makeSlice 22 (.int .i64 32) (.int .i64 32)).run Try.prog W = .ok (.slice (some ⟨W.heap.size, 0, none⟩) 32 32) (W.alloc (.cells (nums .u8 (kT 0)).toArray 5)) := by
    intro W
    have h := print_make (P := Try.prog) 22 5 .u8 1 Try.underlying22 infoB (by omega) 32 (by omega) W
    have e : madeCells #[.int .u8 0] 32 = (nums .u8 (kT 0)).toArray := by kernel_rfl
    rw [e] at h; exact h
  go_enter Try.func19, Try.ntmps19
  go_wp2_with fail
  generalize hW : w.alloc _ = W0
  have hX : Aside0 (Blk W0 w.heap.size 5 (nums .u8 (kT 0))) := ⟨by rw [← hW]; exact heap_alloc_new _ _⟩
  have hB0 : Below w.heap.size w W0 := by rw [← hW]; exact (Below.refl _ w).alloc (Nat.le_refl _) _
  clear hW
  go_loopw [8] (fun i wr => ∃ t : Nat, t ≤ 32 ∧ i = .int .i64 t ∧ Aside0 (Blk wr w.heap.size 5 (nums .u8 (kT t))) ∧ Below w.heap.size w wr) (fun i _ => 32 - (intOf i).toNat)
  case atStart => exact ⟨0, by omega, rfl, hX, hB0⟩
  case round =>
    clear hX hB0
    obtain ⟨t, ht, rfl, hX, hB⟩ := hrel
    by_cases hlt : t < 32
    · have hlt' : (t : Int) < 32 := by omega
      have f0 := blk_num hX.out t (by rw [kT_length _ (by omega)]; exact hlt)
      have f1 := Blk.frozen hX.out t
      go_wp2_with fail
      have ht8 : (t : Int) % 256 = t := by omega
      have hX' : Aside0 (Blk (wr.setCell ⟨w.heap.size, t, none⟩ (.int .u8 (t : Int))) w.heap.size 5 (nums .u8 (kT (t + 1)))) := ⟨by rw [← kT_next t hlt]; exact blk_put hX.out t _⟩
      go_roundw
      case rel => exact ⟨t + 1, by omega, by go_num, hX', hB.setCell (p := ⟨w.heap.size, t, none⟩) (Nat.le_refl _) _⟩
      case measure => simp [intOf]; omega
    · have hge : ¬ (t : Int) < 32 := by omega
      obtain rfl : t = 32 := by omega
      have hK : Rd wr (some ⟨w.heap.size, 0, none⟩) 32 32 kA := rd_of_blk (t := 5) hX.out 0 kA 32 (Nat.le_refl _) (by decide) (fun j hj => by
        rw [Nat.zero_add]; exact nums_get .u8 (kT 32) j (by rw [kT_length 32 (by omega)]; exact hj))
      have HK := Aside0.mk hK
      clear hK hX
      go_wp2_with fail
      have hO : Rd (wr.alloc (.cells (nums .u8 oA).toArray 5)) (some ⟨wr.heap.size, 0, none⟩) 12 12 oA := rd_of_blk (t := 5) (cs := nums .u8 oA) (heap_alloc_new _ _) 0 oA 12 (Nat.le_refl _) (by decide) (fun j hj => by
        rw [Nat.zero_add]; exact nums_get .u8 oA j hj)
      have hBA := hB.alloc hB.size (.cells (nums .u8 oA).toArray 5)
      refine (Block_yes (HK.out.alloc (.cells (nums .u8 oA).toArray 5)) hO kA_isB oA_isB (by omega) (by omega)).mono ?_
      rintro x w1 ⟨rfl, hb1⟩
      rw [bA_eq]
      have HB1 := Aside0.mk (hBA.trans (hb1.mono hBA.size))
      have hbl : bA.length = 64 := rfl
      have HBL := Aside0.mk hbl
      have HZ : Aside0 (Blk (w1.alloc (.cells (nums .u8 (List.replicate 64 0)).toArray 25)) w1.heap.size 25 (nums .u8 (List.replicate 64 0))) := ⟨heap_alloc_new _ _⟩
      have HBA := Aside0.mk (HB1.out.alloc HB1.out.size (.cells (nums .u8 (List.replicate 64 0)).toArray 25))
      have e0 : (nums .u8 bA)[0]? = some (.int .u8 16) := rfl
      have e1 : (nums .u8 bA)[1]? = some (.int .u8 241) := rfl
      have e7 : (nums .u8 bA)[7]? = some (.int .u8 21) := rfl
      have E0 := Aside0.mk e0
      have E1 := Aside0.mk e1
      have E7 := Aside0.mk e7
      clear hbl e0 e1 e7 hb1 hBA hO
      obtain ⟨S, HS⟩ : ∃ S, Aside0 (bA = S) := ⟨_, ⟨rfl⟩⟩
      rw [HS.out] at HBL E0 E1 E7 ⊢
      go_wp2_with (first
        | (refine store_arr rfl 25 (.tmp 3) (.tmp 21) rfl w1.heap.size .u8 S rfl rfl 25 64 _ HZ.out size25 HBL.out (by rw [nums_length]; rfl) ?_; intro w2 hV hg2
           have k0 : w2.cell? ⟨w1.heap.size, 0, none⟩ = some (.int .u8 16) := (Blk.cell hV 0).trans E0.out
           have k1 : w2.cell? ⟨w1.heap.size, 1, none⟩ = some (.int .u8 241) := (Blk.cell hV 1).trans E1.out
           have k7 : w2.cell? ⟨w1.heap.size, 7, none⟩ = some (.int .u8 21) := (Blk.cell hV 7).trans E7.out
           have HB2 := Aside0.mk (HBA.out.grown hg2 HBA.out.size (fun k hk => by cases hk; exact HB1.out.size))
           clear hV hg2))
      go_ret
      exact ⟨rfl, HB2.out⟩
end Go.Proofs.Ytkjmjgiklelpiaa.CiA
