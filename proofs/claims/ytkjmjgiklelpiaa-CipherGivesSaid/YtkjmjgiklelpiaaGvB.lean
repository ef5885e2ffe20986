/- CipherGives. -/
import Derived.Test.YtkjmjgiklelpiaaApp
import Derived.Test.YtkjmjgiklelpiaaQuart
import Derived.Test.YtkjmjgiklelpiaaPlainCipherBlocks
import Derived.Deep.RegionHeld3
import Derived.Deep.Cut
import Derived.Deep.CutRange
import Derived.Test.YtkjmjgiklelpiaaMxC
import Derived.Test.YtkjmjgiklelpiaaCiA
import Derived.Test.YtkjmjgiklelpiaaGvA
namespace Go.Proofs.Ytkjmjgiklelpiaa.GvB
open Go.RowKit Go.Proofs.YtkjmjgiklelpiaaW.PrintWords Go.Proofs.Ytkjmjgiklelpiaa.Num Go.Proofs.Ytkjmjgiklelpiaa.WordC Go.Proofs.Ytkjmjgiklelpiaa.Arr Go.Proofs.Ytkjmjgiklelpiaa.App Go.Proofs.Ytkjmjgiklelpiaa.CiC Go.Proofs.Ytkjmjgiklelpiaa.CiD Go.Proofs.Ytkjmjgiklelpiaa.CiB Go.Proofs.Ytkjmjgiklelpiaa.CiK Go.Proofs.Ytkjmjgiklelpiaa.CiL Go.Proofs.Ytkjmjgiklelpiaa.CiM Go.Proofs.Ytkjmjgiklelpiaa.CiA Go.Proofs.Ytkjmjgiklelpiaa.Rz Go.Proofs.Ytkjmjgiklelpiaa.ItA Go.Proofs.Ytkjmjgiklelpiaa.MxA Go.Proofs.Ytkjmjgiklelpiaa.MxB Go.Proofs.Ytkjmjgiklelpiaa.MxC Go.Proofs.Ytkjmjgiklelpiaa.GvA
set_option linter.unusedVariables false
set_option linter.unusedSimpArgs false

theorem blk_rd64 {w : World} {g : Nat} {S : List Int} (h : Blk w g 25 (nums .u8 S)) (hl : S.length = 64) : Rd w (some ⟨g, 0, none⟩) 64 64 S := by
  have := rd_of_blk h 0 S 64 (by omega) (by omega) (fun j hj => by rw [Nat.zero_add]; exact nums_get .u8 S j hj)
  rwa [hl] at this
theorem slice_arr64 (G : Nat) (W : World) : (Instr.sliceAt 25 (.pointer (some ⟨G, 0, none⟩)) none none none).run Try.prog W = .ok (.slice (some ⟨G, 0, none⟩) 64 64) W := by
  obtain ⟨i, hi, hz⟩ := infoX
  simp [Instr.sliceAt, run_underlying Try.underlying25, Instr.sureAddr, Instr.sliceBounds, asAddr, sizeOf, typeInfo, hi, hz, Addr.add]
/-- What the closure of CipherGives needs of memory: w0 is the world at the law's beginning. -/
structure Gv (w0 W : World) (gk gc gw gF gK gO gM : Nat) (A B : Option Addr) (cA cB : Nat) (m most : Int) (want : Int) (j : Nat) : Prop where
  bel : Below w0.heap.size w0 W
  bk : Blk W gk 4 [.bool true]
  bc : Blk W gc 36 [.int .u64 (j : Int)]
  bw : Blk W gw 36 [.int .u64 want]
  bF : Blk W gF 23 [.int .u32 m]
  bK : Blk W gK 22 [.slice A 32 cA]
  bO : Blk W gO 22 [.slice B 12 cB]
  bM : Blk W gM 5 [.int .u8 most]
theorem Gv.below {w0 W W1 : World} {gk gc gw gF gK gO gM : Nat} {A B : Option Addr} {cA cB : Nat} {m most want : Int} {j : Nat} (h : Gv w0 W gk gc gw gF gK gO gM A B cA cB m most want j) (hb : Below W.heap.size W W1) : Gv w0 W1 gk gc gw gF gK gO gM A B cA cB m most want j :=
  ⟨below_next h.bel hb, Blk.below h.bk hb, Blk.below h.bc hb, Blk.below h.bw hb, Blk.below h.bF hb, Blk.below h.bK hb, Blk.below h.bO hb, Blk.below h.bM hb⟩
/-- What is held while the closure's first statement runs. -/
def hsS (w' : World) (gk gc gw gF gK gO gB : Nat) (A B : Option Addr) (cA cB : Nat) (m want : Int) (j : Nat) (S : List Int) : Prop :=
  w'.cell? ⟨gk, 0, none⟩ = some (.bool true) ∧ w'.cell? ⟨gc, 0, none⟩ = some (.int .u64 (j : Int)) ∧ w'.cell? ⟨gw, 0, none⟩ = some (.int .u64 want) ∧ w'.cell? ⟨gF, 0, none⟩ = some (.int .u32 m) ∧ w'.cell? ⟨gK, 0, none⟩ = some (.slice A 32 cA) ∧ w'.cell? ⟨gO, 0, none⟩ = some (.slice B 12 cB) ∧ (convert 22 9 (.slice (some ⟨gB, 0, none⟩) 64 64)).run Try.prog w' = .ok (.string (strOfNums S)) w'
theorem hs_of {w0 w' : World} {gk gc gw gF gK gO gM gB : Nat} {A B : Option Addr} {cA cB : Nat} {m most want : Int} {j : Nat} {S : List Int} (h : Gv w0 w' gk gc gw gF gK gO gM A B cA cB m most want j) (hs : (convert 22 9 (.slice (some ⟨gB, 0, none⟩) 64 64)).run Try.prog w' = .ok (.string (strOfNums S)) w') : hsS w' gk gc gw gF gK gO gB A B cA cB m want j S :=
  ⟨Blk.cell h.bk 0, Blk.cell h.bc 0, Blk.cell h.bw 0, Blk.cell h.bF 0, Blk.cell h.bK 0, Blk.cell h.bO 0, hs⟩
theorem Gv.set1 {w0 W : World} {gk gc gw gF gK gO gM : Nat} {A B : Option Addr} {cA cB : Nat} {m most want : Int} {j : Nat} (h : Gv w0 W gk gc gw gF gK gO gM A B cA cB m most want j) (hlo : w0.heap.size ≤ gk) (hne : gk ≠ gc ∧ gk ≠ gw ∧ gk ≠ gF ∧ gk ≠ gK ∧ gk ≠ gO ∧ gk ≠ gM ∧ gc ≠ gw ∧ gc ≠ gF ∧ gc ≠ gK ∧ gc ≠ gO ∧ gc ≠ gM) :
    Gv w0 (W.setCell ⟨gk, 0, none⟩ (.bool true)) gk gc gw gF gK gO gM A B cA cB m most want j := by
  obtain ⟨n1, n2, n3, n4, n5, n6, _⟩ := hne
  exact ⟨h.bel.setCell hlo _, Blk.set_ h.bk 0 _, Blk.far h.bc n1.symm _, Blk.far h.bw n2.symm _, Blk.far h.bF n3.symm _, Blk.far h.bK n4.symm _, Blk.far h.bO n5.symm _, Blk.far h.bM n6.symm _⟩
theorem Gv.set2 {w0 W : World} {gk gc gw gF gK gO gM : Nat} {A B : Option Addr} {cA cB : Nat} {m most want : Int} {j : Nat} (h : Gv w0 W gk gc gw gF gK gO gM A B cA cB m most want j) (hlo : w0.heap.size ≤ gc) (hne : gk ≠ gc ∧ gk ≠ gw ∧ gk ≠ gF ∧ gk ≠ gK ∧ gk ≠ gO ∧ gk ≠ gM ∧ gc ≠ gw ∧ gc ≠ gF ∧ gc ≠ gK ∧ gc ≠ gO ∧ gc ≠ gM) :
    Gv w0 (W.setCell ⟨gc, 0, none⟩ (.int .u64 ((j : Int) + 1))) gk gc gw gF gK gO gM A B cA cB m most want (j + 1) := by
  obtain ⟨n1, _, _, _, _, _, n2, n3, n4, n5, n6⟩ := hne
  exact ⟨h.bel.setCell hlo _, Blk.far h.bk n1 _, Blk.set_ h.bc 0 _, Blk.far h.bw n2.symm _, Blk.far h.bF n3.symm _, Blk.far h.bK n4.symm _, Blk.far h.bO n5.symm _, Blk.far h.bM n6.symm _⟩
set_option maxHeartbeats 8000000 in
set_option maxRecDepth 100000 in
theorem clos_c {w0 W : World} {gk gc gw gF gK gO gM : Nat} {A B : Option Addr} {cA cB : Nat} {k o : List Int} {m most want : Int} {j : Nat}
    (h : Gv w0 W gk gc gw gF gK gO gM A B cA cB m most want j) (hrk : Rd w0 A 32 cA k) (hro : Rd w0 B 12 cB o) (bk : IsB k) (bo : IsB o) (h0 : 0 ≤ m) (hm : m + (j : Nat) < 4294967296) (hjw : (j : Int) < want) (hw9 : want ≤ 9) (hm0 : 0 ≤ most) (hm1 : most < 256)
    (hlo : w0.heap.size ≤ gk ∧ w0.heap.size ≤ gc) (hne : gk ≠ gc ∧ gk ≠ gw ∧ gk ≠ gF ∧ gk ≠ gK ∧ gk ≠ gO ∧ gk ≠ gM ∧ gc ≠ gw ∧ gc ≠ gF ∧ gc ≠ gK ∧ gc ≠ gO ∧ gc ≠ gM) :
    Calls Try.prog 22 #[.int .u32 (m + (j : Nat)), .agg (nums .u8 (chaS k o (m + (j : Nat)))).toArray, .pointer (some ⟨gk, 0, none⟩), .pointer (some ⟨gc, 0, none⟩), .pointer (some ⟨gw, 0, none⟩), .pointer (some ⟨gF, 0, none⟩), .pointer (some ⟨gK, 0, none⟩), .pointer (some ⟨gO, 0, none⟩), .pointer (some ⟨gM, 0, none⟩)] W fun e W' =>
      e = .returned (.bool (decide ((j : Int) + 1 ≤ most % 9))) ∧ Gv w0 W' gk gc gw gF gK gO gM A B cA cB m most want (j + 1) ∧ ∀ N b, gk < N → gc < N → gk ≠ b → gc ≠ b → KZ N b W W' := by
  obtain ⟨S, HS⟩ : ∃ S, Aside0 (chaS k o (m + (j : Nat)) = S) := ⟨_, ⟨rfl⟩⟩
  have HBL : Aside0 (S.length = 64) := ⟨by rw [← HS.out]; exact blkS_length _⟩
  rw [HS.out]
  have HG := Aside0.mk h
  have HRK := Aside0.mk hrk
  have HRO := Aside0.mk hro
  have HLO := Aside0.mk hlo
  have HNE := Aside0.mk hne
  have HX0 : Aside0 (Blk (W.alloc (.cells (nums .u8 S).toArray 25)) W.heap.size 25 (nums .u8 S)) := ⟨heap_alloc_new _ _⟩
  have HB0 : Aside0 (Below W.heap.size W (W.alloc (.cells (nums .u8 S).toArray 25))) := ⟨(Below.refl _ W).alloc (Nat.le_refl _) _⟩
  clear h hlo hne hrk hro
  go_enter Try.func22, Try.ntmps22
  go_upto_region 1 with (fail)
  generalize hW : W.alloc _ = W0
  rw [hW] at HX0 HB0
  clear hW
  have HG0 := Aside0.mk (HG.out.below HB0.out)
  have HD : Below W0.heap.size W0 W0.drew := (Below.refl _ W0).drew
  have HBD : Below w0.heap.size w0 W0.drew := below_next HG0.out.bel HD
  have hsl := slice_arr64 W.heap.size
  have str := str_self S
  have e64 : ((j : Int)) % 18446744073709551616 = j := by omega
  have e32 : ((j : Int)) % 4294967296 = j := by omega
  have e32' : (m + (j : Int)) % 4294967296 = m + j := by omega
  have w32 : IntKind.u32.wrap (j : Int) = j := by simp [IntKind.wrap, IntKind.signed, IntKind.bits]; omega
  have w32' : IntKind.u32.wrap (m + (j : Int)) = m + j := by simp [IntKind.wrap, IntKind.signed, IntKind.bits]; omega
  have g1 : decide ((j : Int) < want) = true := decide_eq_true hjw
  have HE : Aside0 (∀ w' : World, Below W0.heap.size W0 w' → hsS w' gk gc gw gF gK gO W.heap.size A B cA cB m want j S) := ⟨fun w' hb => hs_of (HG0.out.below hb) (rd_string (blk_rd64 (Blk.below HX0.out hb) HBL.out))⟩
  refine wp_region_held_drew (S := (fun w' => hsS w' gk gc gw gF gK gO W.heap.size A B cA cB m want j S)) (by kernel_rfl) ?_ (fun hHeld => ?_)
  · exact HE.out _ HD
  refine wpAnyH_take (i := 0) (v := ?_) (List.getElem?_toArray.trans rfl) (by kernel_rfl) (by kernel_rfl) (by kernel_rfl) (fun _ _ _ h => h) (Or.inl ⟨by rfl, ?_⟩) (by assumption) ?_
  rotate_left
  · (intro w hSw; obtain ⟨s1, s2, s3, s4, s5, s6, s7⟩ := hSw; go_simp; try with_reducible rfl)
  (try simp only [Act.put, List.setIfInBounds_toArray, List.set_cons_zero, List.set_cons_succ])
  refine wpAnyH_take (i := 1) (v := ?_) (List.getElem?_toArray.trans rfl) (by kernel_rfl) (by kernel_rfl) (by kernel_rfl) (fun _ _ _ h => h) (Or.inl ⟨by rfl, ?_⟩) (by assumption) ?_
  rotate_left
  · (intro w hSw; obtain ⟨s1, s2, s3, s4, s5, s6, s7⟩ := hSw; go_simp; try with_reducible rfl)
  (try simp only [Act.put, List.setIfInBounds_toArray, List.set_cons_zero, List.set_cons_succ])
  refine wpAnyH_take (i := 2) (v := ?_) (List.getElem?_toArray.trans rfl) (by kernel_rfl) (by kernel_rfl) (by kernel_rfl) (fun _ _ _ h => h) (Or.inl ⟨by rfl, ?_⟩) (by assumption) ?_
  rotate_left
  · (intro w hSw; obtain ⟨s1, s2, s3, s4, s5, s6, s7⟩ := hSw; go_simp; try with_reducible rfl)
  (try simp only [Act.put, List.setIfInBounds_toArray, List.set_cons_zero, List.set_cons_succ])
  refine wpAnyH_take (i := 3) (v := ?_) (List.getElem?_toArray.trans rfl) (by kernel_rfl) (by kernel_rfl) (by kernel_rfl) (fun _ _ _ h => h) (Or.inl ⟨by rfl, ?_⟩) (by assumption) ?_
  rotate_left
  · (intro w hSw; obtain ⟨s1, s2, s3, s4, s5, s6, s7⟩ := hSw; go_simp; try with_reducible rfl)
  (try simp only [Act.put, List.setIfInBounds_toArray, List.set_cons_zero, List.set_cons_succ])
  refine wpAnyH_take (i := 4) (v := ?_) (List.getElem?_toArray.trans rfl) (by kernel_rfl) (by kernel_rfl) (by kernel_rfl) (fun _ _ _ h => h) (Or.inl ⟨by rfl, ?_⟩) (by assumption) ?_
  rotate_left
  · (intro w hSw; obtain ⟨s1, s2, s3, s4, s5, s6, s7⟩ := hSw; go_simp; try with_reducible rfl)
  (try simp only [Act.put, List.setIfInBounds_toArray, List.set_cons_zero, List.set_cons_succ])
  refine wpAnyH_take (i := 5) (v := ?_) (List.getElem?_toArray.trans rfl) (by kernel_rfl) (by kernel_rfl) (by kernel_rfl) (fun _ _ _ h => h) (Or.inl ⟨by rfl, ?_⟩) (by assumption) ?_
  rotate_left
  · (intro w hSw; obtain ⟨s1, s2, s3, s4, s5, s6, s7⟩ := hSw; go_simp; try with_reducible rfl)
  (try simp only [Act.put, List.setIfInBounds_toArray, List.set_cons_zero, List.set_cons_succ])
  refine wpAnyH_take (i := 6) (v := ?_) (List.getElem?_toArray.trans rfl) (by kernel_rfl) (by kernel_rfl) (by kernel_rfl) (fun _ _ _ h => h) (Or.inl ⟨by rfl, ?_⟩) (by assumption) ?_
  rotate_left
  · (intro w hSw; obtain ⟨s1, s2, s3, s4, s5, s6, s7⟩ := hSw; go_simp; try with_reducible rfl)
  (try simp only [Act.put, List.setIfInBounds_toArray, List.set_cons_zero, List.set_cons_succ])
  refine wpAnyH_take (i := 7) (v := ?_) (List.getElem?_toArray.trans rfl) (by kernel_rfl) (by kernel_rfl) (by kernel_rfl) (fun _ _ _ h => h) (Or.inl ⟨by rfl, ?_⟩) (by assumption) ?_
  rotate_left
  · (intro w hSw; obtain ⟨s1, s2, s3, s4, s5, s6, s7⟩ := hSw; go_simp; try with_reducible rfl)
  (try simp only [Act.put, List.setIfInBounds_toArray, List.set_cons_zero, List.set_cons_succ])
  refine wpAnyH_take (i := 8) (v := ?_) (List.getElem?_toArray.trans rfl) (by kernel_rfl) (by kernel_rfl) (by kernel_rfl) (fun _ _ _ h => h) (Or.inl ⟨by rfl, ?_⟩) (by assumption) ?_
  rotate_left
  · (intro w hSw; obtain ⟨s1, s2, s3, s4, s5, s6, s7⟩ := hSw; go_simp; try with_reducible rfl)
  (try simp only [Act.put, List.setIfInBounds_toArray, List.set_cons_zero, List.set_cons_succ])
  refine wpAnyH_take (i := 9) (v := ?_) (List.getElem?_toArray.trans rfl) (by kernel_rfl) (by kernel_rfl) (by kernel_rfl) (fun _ _ _ h => h) (Or.inl ⟨by rfl, ?_⟩) (by assumption) ?_
  rotate_left
  · (intro w hSw; obtain ⟨s1, s2, s3, s4, s5, s6, s7⟩ := hSw; go_simp; try with_reducible rfl)
  (try simp only [Act.put, List.setIfInBounds_toArray, List.set_cons_zero, List.set_cons_succ])
  refine wpAnyH_take (i := 10) (v := ?_) (List.getElem?_toArray.trans rfl) (by kernel_rfl) (by kernel_rfl) (by kernel_rfl) (fun _ _ _ h => h) (Or.inl ⟨by rfl, ?_⟩) (by assumption) ?_
  rotate_left
  · (intro w hSw; obtain ⟨s1, s2, s3, s4, s5, s6, s7⟩ := hSw; go_simp; try with_reducible rfl)
  (try simp only [Act.put, List.setIfInBounds_toArray, List.set_cons_zero, List.set_cons_succ])
  refine wpAnyH_take (i := 11) (v := ?_) (List.getElem?_toArray.trans rfl) (by kernel_rfl) (by kernel_rfl) (by kernel_rfl) (fun _ _ _ h => h) (Or.inl ⟨by rfl, ?_⟩) (by assumption) ?_
  rotate_left
  · (intro w hSw; obtain ⟨s1, s2, s3, s4, s5, s6, s7⟩ := hSw; go_simp; try with_reducible rfl)
  (try simp only [Act.put, List.setIfInBounds_toArray, List.set_cons_zero, List.set_cons_succ])
  refine wpAnyH_take (i := 12) (v := ?_) (List.getElem?_toArray.trans rfl) (by kernel_rfl) (by kernel_rfl) (by kernel_rfl) (fun _ _ _ h => h) (Or.inl ⟨by rfl, ?_⟩) (by assumption) ?_
  rotate_left
  · (intro w hSw; obtain ⟨s1, s2, s3, s4, s5, s6, s7⟩ := hSw; go_simp; try with_reducible rfl)
  (try simp only [Act.put, List.setIfInBounds_toArray, List.set_cons_zero, List.set_cons_succ])
  refine wpAnyH_take (i := 13) (v := ?_) (List.getElem?_toArray.trans rfl) (by kernel_rfl) (by kernel_rfl) (by kernel_rfl) (fun _ _ _ h => h) (Or.inl ⟨by rfl, ?_⟩) (by assumption) ?_
  rotate_left
  · (intro w hSw; obtain ⟨s1, s2, s3, s4, s5, s6, s7⟩ := hSw; go_simp; try with_reducible rfl)
  (try simp only [Act.put, List.setIfInBounds_toArray, List.set_cons_zero, List.set_cons_succ])
  refine wpAnyH_take (i := 14) (v := ?_) (List.getElem?_toArray.trans rfl) (by kernel_rfl) (by kernel_rfl) (by kernel_rfl) (fun _ _ _ h => h) (Or.inl ⟨by rfl, ?_⟩) (by assumption) ?_
  rotate_left
  · (intro w hSw; obtain ⟨s1, s2, s3, s4, s5, s6, s7⟩ := hSw; go_simp; try with_reducible rfl)
  (try simp only [Act.put, List.setIfInBounds_toArray, List.set_cons_zero, List.set_cons_succ])
  refine wpAnyH_take (i := 15) (v := ?_) (List.getElem?_toArray.trans rfl) (by kernel_rfl) (by kernel_rfl) (by kernel_rfl) (fun _ _ _ h => h) (Or.inl ⟨by rfl, ?_⟩) (by assumption) ?_
  rotate_left
  · (intro w hSw; obtain ⟨s1, s2, s3, s4, s5, s6, s7⟩ := hSw; go_simp; try with_reducible rfl)
  (try simp only [Act.put, List.setIfInBounds_toArray, List.set_cons_zero, List.set_cons_succ])
  refine wpAnyH_take (i := 16) (v := ?_) (List.getElem?_toArray.trans rfl) (by kernel_rfl) (by kernel_rfl) (by kernel_rfl) (fun _ _ _ h => h) (Or.inl ⟨by rfl, ?_⟩) (by assumption) ?_
  rotate_left
  · (intro w hSw; obtain ⟨s1, s2, s3, s4, s5, s6, s7⟩ := hSw; go_simp; try with_reducible rfl)
  (try simp only [Act.put, List.setIfInBounds_toArray, List.set_cons_zero, List.set_cons_succ])
  refine wpAnyH_take (i := 17) (v := ?_) (List.getElem?_toArray.trans rfl) (by kernel_rfl) (by kernel_rfl) (by kernel_rfl) (fun _ _ _ h => h) (Or.inl ⟨by rfl, ?_⟩) (by assumption) ?_
  rotate_left
  · (intro w hSw; obtain ⟨s1, s2, s3, s4, s5, s6, s7⟩ := hSw; go_simp; try with_reducible rfl)
  (try simp only [Act.put, List.setIfInBounds_toArray, List.set_cons_zero, List.set_cons_succ])
  refine wpAnyH_take (i := 18) (v := ?_) (List.getElem?_toArray.trans rfl) (by kernel_rfl) (by kernel_rfl) (by kernel_rfl) (fun _ _ _ h => h) (Or.inl ⟨by rfl, ?_⟩) (by assumption) ?_
  rotate_left
  · (intro w hSw; obtain ⟨s1, s2, s3, s4, s5, s6, s7⟩ := hSw; go_simp; try with_reducible rfl)
  (try simp only [Act.put, List.setIfInBounds_toArray, List.set_cons_zero, List.set_cons_succ])
  refine wpAnyH_take (i := 19) (v := ?_) (List.getElem?_toArray.trans rfl) (by kernel_rfl) (by kernel_rfl) (by kernel_rfl) (fun _ _ _ h => h) (Or.inl ⟨by rfl, ?_⟩) (by assumption) ?_
  rotate_left
  · (intro w hSw; obtain ⟨s1, s2, s3, s4, s5, s6, s7⟩ := hSw; go_simp; try with_reducible rfl)
  (try simp only [Act.put, List.setIfInBounds_toArray, List.set_cons_zero, List.set_cons_succ])
  refine wpAnyH_ready (rs := [20]) (by kernel_rfl) (by simp) (AllReadyH.cons (List.getElem?_toArray.trans rfl) (fun Kx hKx => ?_) AllReadyH.nil)
  go_simp
  go_at_call 20
  refine (refBlock_c (HRK.out.below HBD) (HRO.out.below HBD) bk bo (by omega) hm).mono ?_
  rintro x w6 ⟨v6, rfl, ho6, hb6⟩
  rw [HS.out] at ho6
  obtain ⟨A6, c6, rfl, r6⟩ := rd_of_own ho6
  have s9 := rd_string r6
  have HB6 := below_next HD hb6
  clear ho6 r6
  go_wp2_with fail
  refine hKx.out _ _ ?_ (fun hHeld => ?_)
  · exact HE.out _ HB6
  clear hKx Kx
  (try simp only [Act.put, List.setIfInBounds_toArray, List.set_cons_zero, List.set_cons_succ])
  refine wpAnyH_ready (rs := [21]) (by kernel_rfl) (by simp) (AllReadyH.cons (List.getElem?_toArray.trans rfl) (fun Kx hKx => ?_) AllReadyH.nil)
  go_simp
  refine hKx.out _ _ ?_ (fun hHeld => ?_)
  · exact HE.out _ HB6
  clear hKx Kx
  (try simp only [Act.put, List.setIfInBounds_toArray, List.set_cons_zero, List.set_cons_succ])
  refine wpAnyH_take (i := 22) (v := ?_) (List.getElem?_toArray.trans rfl) (by kernel_rfl) (by kernel_rfl) (by kernel_rfl) (fun _ _ _ h => h) (Or.inl ⟨by rfl, ?_⟩) (by assumption) ?_
  rotate_left
  · (intro w hSw; obtain ⟨s1, s2, s3, s4, s5, s6, s7⟩ := hSw; go_simp; try with_reducible rfl)
  (try simp only [Act.put, List.setIfInBounds_toArray, List.set_cons_zero, List.set_cons_succ])
  refine wpAnyH_take (i := 23) (v := ?_) (List.getElem?_toArray.trans rfl) (by kernel_rfl) (by kernel_rfl) (by kernel_rfl) (fun _ _ _ h => h) (Or.inl ⟨by rfl, ?_⟩) (by assumption) ?_
  rotate_left
  · (intro w hSw; obtain ⟨s1, s2, s3, s4, s5, s6, s7⟩ := hSw; go_simp; try with_reducible rfl)
  (try simp only [Act.put, List.setIfInBounds_toArray, List.set_cons_zero, List.set_cons_succ])
  have HG6 := Aside0.mk (HG0.out.below HB6)
  have f6 := Blk.frozen HG6.out.bk 0
  have c6 : w6.cell? ⟨gk, 0, none⟩ = some (.bool true) := Blk.cell HG6.out.bk 0
  have HG7 : Aside0 (Gv w0 (w6.setCell ⟨gk, 0, none⟩ (.bool true)) gk gc gw gF gK gO gM A B cA cB m most want j) := ⟨HG6.out.set1 HLO.out.1 HNE.out⟩
  have HS7 : Aside0 (hsS (w6.setCell ⟨gk, 0, none⟩ (.bool true)) gk gc gw gF gK gO W.heap.size A B cA cB m want j S) := ⟨hs_of HG7.out (rd_string (blk_rd64 (Blk.far (Blk.below HX0.out HB6) (by have := Blk.lt HG.out.bk; show W.heap.size ≠ gk; omega) _) HBL.out))⟩
  refine wpAnyH_ready (rs := [24]) (by kernel_rfl) (by simp) (AllReadyH.cons (List.getElem?_toArray.trans rfl) (fun Kx hKx => ?_) AllReadyH.nil)
  go_simp
  refine hKx.out _ _ ?_ (fun hHeld => ?_)
  · exact HS7.out
  clear hKx Kx
  (try simp only [Act.put, List.setIfInBounds_toArray, List.set_cons_zero, List.set_cons_succ])
  refine wpAnyH_done (by kernel_rfl) ?_ _
  have c7 : (w6.setCell ⟨gk, 0, none⟩ (.bool true)).cell? ⟨gc, 0, none⟩ = some (.int .u64 (j : Int)) := Blk.cell HG7.out.bc 0
  have f7 := Blk.frozen HG7.out.bc 0
  have HK7 : Aside0 (∀ N b, gk < N → gk ≠ b → KZ N b W (w6.setCell ⟨gk, 0, none⟩ (.bool true))) := ⟨fun N b h1 h2 => KZ.setCell ((KZ.refl N b W).next (below_next HB0.out HB6)) h1 h2 0 _⟩
  generalize hW7 : w6.setCell ⟨gk, 0, none⟩ (.bool true) = w7
  rw [hW7] at HG7 c7 f7 HK7
  clear hW7 HS7
  have e8 : ((j : Int) + 1) % 18446744073709551616 = (j : Int) + 1 := by omega
  have HG8 : Aside0 (Gv w0 (w7.setCell ⟨gc, 0, none⟩ (.int .u64 ((j : Int) + 1))) gk gc gw gF gK gO gM A B cA cB m most want (j + 1)) := ⟨HG7.out.set2 HLO.out.2 HNE.out⟩
  have c8 : (w7.setCell ⟨gc, 0, none⟩ (.int .u64 ((j : Int) + 1))).cell? ⟨gc, 0, none⟩ = some (.int .u64 ((j : Int) + 1)) := by have h := Blk.cell HG8.out.bc 0; simpa using h
  have d8 : (w7.setCell ⟨gc, 0, none⟩ (.int .u64 ((j : Int) + 1))).cell? ⟨gM, 0, none⟩ = some (.int .u8 most) := Blk.cell HG8.out.bM 0
  have q8 : IntKind.u64.wrap (most % 9) = most % 9 := by simp [IntKind.wrap, IntKind.signed, IntKind.bits]; omega
  have q9 : most % 9 % 18446744073709551616 = most % 9 := by omega
  go_wp2_with fail
  go_ret
  exact ⟨rfl, HG8.out, fun N b h1 h2 h3 h4 => KZ.setCell (HK7.out N b h1 h3) h2 h4 0 _⟩
end Go.Proofs.Ytkjmjgiklelpiaa.GvB
