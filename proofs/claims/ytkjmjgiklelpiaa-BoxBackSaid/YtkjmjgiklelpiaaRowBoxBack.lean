/- The row of BoxBack: for every input the law returns true and leaves its arguments as they were. No condition. The walk is in YtkjmjgiklelpiaaWalkBoxBack. -/
import Derived.Test.YtkjmjgiklelpiaaRows
import Derived.Test.YtkjmjgiklelpiaaWalkBoxBack
import Derived.WalkKit
import Derived.ProofKit
import Derived.OpenShut
import Derived.ShutString
import Derived.ChangeOld
import Derived.Below
import Derived.SizedLaws
import Derived.Lib.SmallJoins
import Derived.Test.YtkjmjgiklelpiaaWSized
namespace Go.Proofs.Ytkjmjgiklelpiaa.boxBack
open Go.ChangeShapes Go.WideShapes Go.ChangeAt Go.RowKit Go.Proofs.Ytkjmjgiklelpiaa.WordC Go.Proofs.Ytkjmjgiklelpiaa.Num Go.Proofs.YtkjmjgiklelpiaaW Go.Proofs.YtkjmjgiklelpiaaW.PrintWords
open Go.ChangeMaps (open_string shut_string)
set_option linter.unusedVariables false
theorem own : ownKnob Try.prog.godebug = none := by kernel_rfl
theorem laidOut : laidOutB Try.prog = true := by kernel_rfl
def IsRow (k : IntKind) (w : World) (a : Option Addr) (len cap : Nat) (zs : List Int) : Prop :=
  (a = none ∧ len = 0 ∧ cap = 0 ∧ zs = []) ∨
  ∃ x, a = some x ∧ len ≤ cap ∧ cap ≤ maxLen ∧ zs.length = cap ∧ (∀ i, i < zs.length → w.cell? (x.add i) = some (.int k (zs.getD i 0))) ∧ ∀ n ∈ zs, (Lit.int k n).wf = true
set_option maxRecDepth 100000 in
theorem lifted (os : Os) (started : os.Started) (H : Type) (enc : TypeId × Value → H) :
    ReturnsInHanded {} Try.checked os 14 .any (Rows.boxBackSpec.pre6 enc Try.prog Try.f14 Rows.boxBackRow.domain false) (Rows.boxBackSpec.post enc Try.prog Try.f14 false true false false) := by
  refine returnsInHanded_of_change_sized (C := Try.checked) own started (by kernel_rfl) Try.func14
    (ChangeSpec.witness6 (enc := enc) (C := Try.checked) false ⟨#[], #[.agg #[.slice none 0 0, .slice none 0 0, .slice none 0 0, .slice none 0 0], .int .i64 0], []⟩ 8 (by kernel_rfl) (by kernel_rfl) (by kernel_rfl) (by kernel_rfl)) ?_
  intro W base args ds gs before hval0 hW hcnd hsz0 _
  have hsz : (DataW.weightsEach Try.prog (Try.f14.params.toList ++ Rows.boxBackSpec.plain.varTypes Try.prog) (ds ++ gs)).all (· ≤ reachBytes) = true := hsz0
  have hval : ∀ (j : Nat) t v, Try.f14.params[j]? = some t → args[j]? = some v → Value.okWide Try.prog W .any base t v := hval0
  have hW' := hW
  obtain ⟨p, q, hA0, hV, rfl, hfz, hnd⟩ := hW
  have hA : DataW.TrodAll enc Try.prog W 0 (fun _ => true) true Try.f14.params.toList args.toList ds p := hA0
  rw [Try.params14] at hA hval hsz
  obtain ⟨v0, vs0, d0, ds0, p0, q0, hargs, rfl, rfl, h0, r0⟩ := trodAll_cons hA
  obtain ⟨v1, vs1, d1, ds1, p1, q1, rfl, rfl, rfl, h1, r1⟩ := trodAll_cons r0
  obtain ⟨rfl, rfl, rfl⟩ := trodAll_nil r1
  obtain rfl : args = #[v0, v1] := by cases args; simp_all
  obtain ⟨rfl, rfl⟩ := trodVars_none hV
  have k0 := h0
  have lt0 : ∀ x ∈ p0, x.block < W.heap.size := by obtain ⟨m, hm⟩ := k0; exact DataW.trod_lt m _ _ _ hm
  obtain ⟨e0_0, e0_1, e0_2, e0_3, y0_0, y0_1, y0_2, y0_3, mm0, rfl, rfl, rfl, hy0_0, hy0_1, hy0_2, hy0_3⟩ := Joins.open_agg4 Try.underlying58 (by kernel_rfl) (show Try.prog.cellsOf 58 = 4 by kernel_rfl) (hval 0 58 v0 rfl rfl) h0
  have hsz0 : (DataW.weightsEach Try.prog [22, 22, 22, 22, 3] [y0_0.1, y0_1.1, y0_2.1, y0_3.1, d1]).all (· ≤ reachBytes) = true := by simpa [DataW.weightsEach, DataW.weights, Try.underlying58] using hsz
  obtain ⟨a0_0, len0_0, cap0_0, z0_0, rfl, w0_0⟩ : ∃ a l c zs, e0_0 = .slice a l c ∧ IsRow .u8 W a l c zs := by
    rcases open_ints Try.underlying22 Try.underlying5 (by kernel_rfl) hy0_0 with ⟨hcs, _⟩ | ⟨x, l, c, zs, hcs, _, hl, hm, hz, _, hcell, hwz⟩
    · simp at hcs
      exact ⟨none, 0, 0, [], hcs, .inl ⟨rfl, rfl, rfl, rfl⟩⟩
    · simp at hcs
      exact ⟨some x, l, c, zs, hcs, .inr ⟨_, rfl, hl, hm, by simpa using hz, hcell, hwz⟩⟩
  have yy0_0 : len0_0 * 1 ≤ 140737488351232 := PrintWords.sized_ints hsz0 (j := 0) (t := 22) rfl rfl Try.underlying22 Try.underlying5 (by kernel_rfl) (by kernel_rfl) ⟨mm0, hy0_0⟩
  obtain ⟨l0_0, rfl, hr0_0, hm0_0, hw0_0, hc0_0⟩ := ReadsInt.ofRowC w0_0
  have R0_0 : Rd W a0_0 l0_0.length cap0_0 l0_0 := ⟨rfl, hc0_0, Kd.C_of_reads (d := (0 : Int)) (h1 := fun _ => rfl) hr0_0⟩
  obtain ⟨a0_1, len0_1, cap0_1, z0_1, rfl, w0_1⟩ : ∃ a l c zs, e0_1 = .slice a l c ∧ IsRow .u8 W a l c zs := by
    rcases open_ints Try.underlying22 Try.underlying5 (by kernel_rfl) hy0_1 with ⟨hcs, _⟩ | ⟨x, l, c, zs, hcs, _, hl, hm, hz, _, hcell, hwz⟩
    · simp at hcs
      exact ⟨none, 0, 0, [], hcs, .inl ⟨rfl, rfl, rfl, rfl⟩⟩
    · simp at hcs
      exact ⟨some x, l, c, zs, hcs, .inr ⟨_, rfl, hl, hm, by simpa using hz, hcell, hwz⟩⟩
  have yy0_1 : len0_1 * 1 ≤ 140737488351232 := PrintWords.sized_ints hsz0 (j := 1) (t := 22) rfl rfl Try.underlying22 Try.underlying5 (by kernel_rfl) (by kernel_rfl) ⟨mm0, hy0_1⟩
  obtain ⟨l0_1, rfl, hr0_1, hm0_1, hw0_1, hc0_1⟩ := ReadsInt.ofRowC w0_1
  have R0_1 : Rd W a0_1 l0_1.length cap0_1 l0_1 := ⟨rfl, hc0_1, Kd.C_of_reads (d := (0 : Int)) (h1 := fun _ => rfl) hr0_1⟩
  obtain ⟨a0_2, len0_2, cap0_2, z0_2, rfl, w0_2⟩ : ∃ a l c zs, e0_2 = .slice a l c ∧ IsRow .u8 W a l c zs := by
    rcases open_ints Try.underlying22 Try.underlying5 (by kernel_rfl) hy0_2 with ⟨hcs, _⟩ | ⟨x, l, c, zs, hcs, _, hl, hm, hz, _, hcell, hwz⟩
    · simp at hcs
      exact ⟨none, 0, 0, [], hcs, .inl ⟨rfl, rfl, rfl, rfl⟩⟩
    · simp at hcs
      exact ⟨some x, l, c, zs, hcs, .inr ⟨_, rfl, hl, hm, by simpa using hz, hcell, hwz⟩⟩
  have yy0_2 : len0_2 * 1 ≤ 140737488351232 := PrintWords.sized_ints hsz0 (j := 2) (t := 22) rfl rfl Try.underlying22 Try.underlying5 (by kernel_rfl) (by kernel_rfl) ⟨mm0, hy0_2⟩
  obtain ⟨l0_2, rfl, hr0_2, hm0_2, hw0_2, hc0_2⟩ := ReadsInt.ofRowC w0_2
  have R0_2 : Rd W a0_2 l0_2.length cap0_2 l0_2 := ⟨rfl, hc0_2, Kd.C_of_reads (d := (0 : Int)) (h1 := fun _ => rfl) hr0_2⟩
  obtain ⟨a0_3, len0_3, cap0_3, z0_3, rfl, w0_3⟩ : ∃ a l c zs, e0_3 = .slice a l c ∧ IsRow .u8 W a l c zs := by
    rcases open_ints Try.underlying22 Try.underlying5 (by kernel_rfl) hy0_3 with ⟨hcs, _⟩ | ⟨x, l, c, zs, hcs, _, hl, hm, hz, _, hcell, hwz⟩
    · simp at hcs
      exact ⟨none, 0, 0, [], hcs, .inl ⟨rfl, rfl, rfl, rfl⟩⟩
    · simp at hcs
      exact ⟨some x, l, c, zs, hcs, .inr ⟨_, rfl, hl, hm, by simpa using hz, hcell, hwz⟩⟩
  have yy0_3 : len0_3 * 1 ≤ 140737488351232 := PrintWords.sized_ints hsz0 (j := 3) (t := 22) rfl rfl Try.underlying22 Try.underlying5 (by kernel_rfl) (by kernel_rfl) ⟨mm0, hy0_3⟩
  obtain ⟨l0_3, rfl, hr0_3, hm0_3, hw0_3, hc0_3⟩ := ReadsInt.ofRowC w0_3
  have R0_3 : Rd W a0_3 l0_3.length cap0_3 l0_3 := ⟨rfl, hc0_3, Kd.C_of_reads (d := (0 : Int)) (h1 := fun _ => rfl) hr0_3⟩
  obtain ⟨a1, rfl, rfl, rfl, w1⟩ := open_int Try.underlying3 (hval 1 3 v1 rfl rfl) h1
  clear hA0 hval0 hsz0 hsz
  refine (WalkBoxBack.walk a0_0 l0_0.length cap0_0 l0_0 R0_0 (isB_of_wf hw0_0) (by omega) a0_1 l0_1.length cap0_1 l0_1 R0_1 (isB_of_wf hw0_1) (by omega) a0_2 l0_2.length cap0_2 l0_2 R0_2 (isB_of_wf hw0_2) (by omega) a0_3 l0_3.length cap0_3 l0_3 R0_3 (isB_of_wf hw0_3) (by omega) a1 w1 (w := W)).mono fun e W' ⟨he, bel⟩ => ?_
  subst he
  exact ⟨_, rfl, _, _, _, [], _, [], hW', trodAll_mk1 (shut_bool Try.underlying4 _), (trodAll_cons_mk (Below.trod laidOut (by kernel_rfl) (of_decide_eq_true (by kernel_rfl)) k0 bel lt0) (trodAll_cons_mk (shut_int Try.underlying3 w1) trodAll_mk0)), rfl, bel.frame _, fun h => by cases h⟩
theorem over : Rows.boxBackRow.holds Try.pinned (OpenSpec.ofChange Rows.boxBackSpec) :=
  OpenClaim.holds_of_wide 14 Try.f14 rfl rfl rfl rfl rfl rfl rfl ⟨rfl, rfl, rfl, rfl, rfl⟩ rfl rfl rfl rfl rfl (by kernel_rfl) Try.func14 (by kernel_rfl)
    (of_decide_eq_true (by kernel_rfl)) (by unfold Func.isWrapper; first | (rw [if_pos (by decide +kernel)]; kernel_rfl) | (rw [if_neg (by decide +kernel)]; exact ⟨rfl, rfl⟩))
    (fun os started H enc _ => lifted os started H enc)
theorem proved : Rows.BoxBackSaid := over
#print axioms proved
end Go.Proofs.Ytkjmjgiklelpiaa.boxBack
namespace Go.Proofs.Ytkjmjgiklelpiaa
/-- The row, under a short name, for the claim. -/
theorem boxBack_holds : Rows.BoxBackSaid := boxBack.proved
end Go.Proofs.Ytkjmjgiklelpiaa
