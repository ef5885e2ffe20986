/- Arrays of 64 bytes held against each other. -/
import Derived.Test.YtkjmjgiklelpiaaApp
import Derived.Test.YtkjmjgiklelpiaaQuart
import Derived.Test.YtkjmjgiklelpiaaPlainCipherBlocks
import Derived.Deep.RegionHeld3
import Derived.Deep.Cut
import Derived.Deep.CutRange
import Derived.Test.YtkjmjgiklelpiaaCiA
import Derived.ChangeKeysEq
namespace Go.Proofs.Ytkjmjgiklelpiaa.CiE
open Go.RowKit Go.Proofs.YtkjmjgiklelpiaaW.PrintWords Go.Proofs.Ytkjmjgiklelpiaa.Num Go.Proofs.Ytkjmjgiklelpiaa.WordC Go.Proofs.Ytkjmjgiklelpiaa.Arr Go.Proofs.Ytkjmjgiklelpiaa.App
set_option linter.unusedVariables false
set_option linter.unusedSimpArgs false

theorem plain5 : Try.prog.plainKey 5 = true := by kernel_rfl
theorem cells5 : Try.prog.cellsOf 5 = 1 := by kernel_rfl
theorem eqItems_nums (d : Nat) (xs ys : List Int) (W : World) : ∀ is : List Nat, (∀ i ∈ is, i < xs.length ∧ i < ys.length) →
    (Op.eqItems (d + 1) 5 1 (nums .u8 xs).toArray (nums .u8 ys).toArray is).run Try.prog W = .ok (is.all fun i => xs.getD i 0 == ys.getD i 0) W
  | [], _ => by simp [Op.eqItems]
  | i :: is, h => by
    have hi := h i (by simp)
    have p1 : (part 5 (nums .u8 xs).toArray (i * 1)).run Try.prog W = .ok (.int .u8 (xs.getD i 0)) W := run_part_plain W plain5 (by rw [Nat.mul_one]; simpa using nums_get .u8 xs i hi.1)
    have p2 : (part 5 (nums .u8 ys).toArray (i * 1)).run Try.prog W = .ok (.int .u8 (ys.getD i 0)) W := run_part_plain W plain5 (by rw [Nat.mul_one]; simpa using nums_get .u8 ys i hi.2)
    have p3 := run_equalIn_int (P := Try.prog) W d 5 .u8 .u8 (xs.getD i 0) (ys.getD i 0) Try.underlying5
    have ih := eqItems_nums d xs ys W is (fun j hj => h j (by simp [hj]))
    simp only [Op.eqItems, Sem.run_bind, p1, p2, p3, Result.andThen_ok, List.all_cons]
    cases hb : (xs.getD i 0 == ys.getD i 0)
    · simp
    · simpa using ih
theorem all_eqB {xs ys : List Int} {n : Nat} (hx : xs.length = n) (hy : ys.length = n) : ((List.range n).all fun i => xs.getD i 0 == ys.getD i 0) = eqB xs ys := by
  rw [Bool.eq_iff_iff, eqB_iff, List.all_eq_true]
  constructor
  · intro h
    apply List.ext_getElem (by omega)
    intro i h1 h2
    have := h i (List.mem_range.2 (by omega))
    rw [beq_iff_eq, List.getD_eq_getElem?_getD, List.getD_eq_getElem?_getD, List.getElem?_eq_getElem h1, List.getElem?_eq_getElem h2] at this
    simpa using this
  · rintro rfl i _
    simp
theorem eql25 {xs ys : List Int} (hx : xs.length = 64) (hy : ys.length = 64) (W : World) : (binOp .eql 25 (.agg (nums .u8 xs).toArray) (.agg (nums .u8 ys).toArray)).run Try.prog W = .ok (.bool (eqB xs ys)) W := by
  obtain ⟨i0, hi⟩ := info_of_underlying (P := Try.prog) Try.underlying5
  have h := run_equalIn_array (P := Try.prog) W 9999 (nums .u8 xs).toArray (nums .u8 ys).toArray Try.underlying25 hi
  rw [cells5, eqItems_nums 9998 xs ys W _ (fun i hm => by have := List.mem_range.1 hm; omega), all_eqB hx hy] at h
  simp only [binOp]
  simp [Op.equal, Op.maxDepth, h]
end Go.Proofs.Ytkjmjgiklelpiaa.CiE
