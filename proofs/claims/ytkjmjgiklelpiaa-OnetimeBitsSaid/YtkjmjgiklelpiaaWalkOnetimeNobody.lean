/- OnetimeNobody, walked. -/
import Derived.Test.YtkjmjgiklelpiaaApp
import Derived.Test.YtkjmjgiklelpiaaQuart
import Derived.Test.YtkjmjgiklelpiaaPlainCipherBlocks
import Derived.Deep.RegionHeld3
import Derived.Deep.Cut
import Derived.Deep.CutRange
import Derived.Test.YtkjmjgiklelpiaaOtMa
import Derived.Test.YtkjmjgiklelpiaaOtRef
namespace Go.Proofs.Ytkjmjgiklelpiaa.WalkOnetimeNobody
open Go.RowKit Go.Proofs.YtkjmjgiklelpiaaW.PrintWords Go.Proofs.Ytkjmjgiklelpiaa.Num Go.Proofs.Ytkjmjgiklelpiaa.WordC Go.Proofs.Ytkjmjgiklelpiaa.Arr Go.Proofs.Ytkjmjgiklelpiaa.App Go.Proofs.Ytkjmjgiklelpiaa.CiC Go.Proofs.Ytkjmjgiklelpiaa.CiD Go.Proofs.Ytkjmjgiklelpiaa.OtC Go.Proofs.Ytkjmjgiklelpiaa.OtR Go.Proofs.Ytkjmjgiklelpiaa.OtL Go.Proofs.Ytkjmjgiklelpiaa.OtM Go.Proofs.Ytkjmjgiklelpiaa.OtT Go.Proofs.Ytkjmjgiklelpiaa.OtV Go.Proofs.Ytkjmjgiklelpiaa.OtK Go.Proofs.Ytkjmjgiklelpiaa.OtN Go.Proofs.Ytkjmjgiklelpiaa.OtO Go.Proofs.Ytkjmjgiklelpiaa.OtP Go.Proofs.Ytkjmjgiklelpiaa.OtQ
set_option linter.unusedVariables false
set_option linter.unusedSimpArgs false

def kN : List Int := [0, 0, 0, 0, 0, 0, 0, 0, 0, 0, 0, 0, 0, 0, 0, 0, 7, 0, 0, 0, 0, 0, 0, 0, 0, 0, 0, 0, 0, 0, 0, 0]
theorem kN_isB : IsB kN := by intro x hx; simp [kN] at hx; omega
theorem tN_eq : tagS [0, 0, 0, 0, 0] (ws (kN.drop 16)) = [7, 0, 0, 0, 0, 0, 0, 0, 0, 0, 0, 0, 0, 0, 0, 0] := by decide +kernel
set_option maxHeartbeats 8000000 in
set_option maxRecDepth 100000 in
theorem awake25_c {w : World} : Calls Try.prog 25 #[] w fun e w' => e = .returned (.bool true) ∧ Below w.heap.size w w' := by
  have hmk : ∀ W : World, (Instr.makeSlice 22 (.int .i64 32) (.int .i64 32)).run Try.prog W = .ok (.slice (some ⟨W.heap.size, 0, none⟩) 32 32) (W.alloc (.cells (nums .u8 (List.replicate 32 0)).toArray 5)) := by
    intro W
    have h := print_make (P := Try.prog) 22 5 .u8 1 Try.underlying22 infoB (by omega) 32 (by omega) W
    have e : madeCells #[.int .u8 0] 32 = (nums .u8 (List.replicate 32 0)).toArray := by kernel_rfl
    rw [e] at h; exact h
  have hX : Blk (w.alloc (.cells (nums .u8 (List.replicate 32 0)).toArray 5)) w.heap.size 5 (nums .u8 (List.replicate 32 0)) := heap_alloc_new _ _
  have k16 := blk_num hX 16 (by simp)
  have f16 := Blk.frozen hX 16
  have hX1 : Blk (w.alloc (.cells (nums .u8 kN).toArray 5)) w.heap.size 5 (nums .u8 kN) := heap_alloc_new _ _
  have hB1 : Below w.heap.size w (w.alloc (.cells (nums .u8 kN).toArray 5)) := (Below.refl _ w).alloc (Nat.le_refl _) _
  have hK : Rd (w.alloc (.cells (nums .u8 kN).toArray 5)) (some ⟨w.heap.size, 0, none⟩) 32 32 kN := rd_of_blk hX1 0 kN 32 (Nat.le_refl _) (by decide) (fun j hj => by rw [Nat.zero_add]; exact nums_get .u8 kN j hj)
  have HX := Aside0.mk hX
  have HK := Aside0.mk hK
  have HB1 := Aside0.mk hB1
  clear hX hX1 hK hB1
  go_enter Try.func25, Try.ntmps25
  go_upto_region 3 with (fail)
  generalize hW : w.alloc _ = w1
  have hK1 : Rd w1 (some ⟨w.heap.size, 0, none⟩) 32 32 kN := by rw [← hW]; exact HK.out
  have hB2 : Below w.heap.size w w1 := by rw [← hW]; exact HB1.out
  have HB2 := Aside0.mk hB2
  clear hW k16 f16 hB2
  go_wp2_with fail
  refine (OTag_0 hK1 kN_isB).mono ?_
  rintro x w2 ⟨v, rfl, ho, hb⟩
  rw [tN_eq] at ho
  obtain ⟨A, c, rfl, hr⟩ := rd_of_own ho
  obtain ⟨ad, rfl, hcell⟩ := rd_cells hr (by decide)
  have h0 : w2.cell? ad = some (.int .u8 7) := by
    have := hcell 0 (.int .u8 7) rfl
    simpa [Addr.add] using this
  have HB3 := Aside0.mk (below_next HB2.out hb)
  clear ho hr hb hcell
  go_wp2_with fail
  go_ret
  exact ⟨rfl, HB3.out⟩
theorem own26_c {A : Option Addr} {n c : Nat} {l : List Int} {w : World} (hr : Rd w A n c l) (hn : n ≤ 140737488351232) :
    Calls Try.prog 26 #[.slice A n c] w fun e w' => ∃ v, e = .returned v ∧ Ow w' w.heap.size v l ∧ Below w.heap.size w w' := by
  obtain ⟨rfl, hc, hC⟩ := hr
  refine OtRef.hypogeumlaw06_own.calls A c l l w hC hc ?_
  unfold OtRef.hypogeumlaw06_own.f
  simp only [Option.bind_some]
  rw [if_pos (by simp; omega)]; simp
set_option maxHeartbeats 8000000 in
set_option maxRecDepth 100000 in
theorem walk (A : Option Addr) (n c : Nat) (l : List Int) {w : World} (hr : Rd w A n c l) (hB : IsB l) (hn : n ≤ 140737488351232) :
    Calls Try.prog 11 #[.slice A n c] w fun e w' => e = .returned (.bool true) ∧ Below w.heap.size w w' := by
  go_enter Try.func11, Try.ntmps11
  go_wp2_with fail
  refine (own26_c hr hn).mono ?_
  rintro x w1 ⟨v1, rfl, ho1, hb1⟩
  obtain ⟨A1, c1, rfl, r1⟩ := rd_of_own ho1
  clear ho1 r1
  go_wp2_with fail
  refine Add_nil.mono ?_
  rintro x w2 ⟨rfl, rfl⟩
  go_wp2_with fail
  refine Tag_nil.mono ?_
  rintro x w3 ⟨rfl, rfl⟩
  go_wp2_with fail
  refine awake25_c.mono ?_
  rintro x w4 ⟨rfl, hb4⟩
  go_wp2_with fail
  go_ret
  exact ⟨rfl, below_next hb1 hb4⟩
end Go.Proofs.Ytkjmjgiklelpiaa.WalkOnetimeNobody
