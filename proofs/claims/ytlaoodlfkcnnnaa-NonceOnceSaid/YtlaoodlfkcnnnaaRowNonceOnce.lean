/- The row of NonceOnce: for every input the law returns true and leaves its arguments as they were. No condition. The walk is in YtlaoodlfkcnnnaaWalkNonceOnce. -/
import Derived.Test.YtlaoodlfkcnnnaaRows
import Derived.Test.YtlaoodlfkcnnnaaWalkNonceOnce
import Derived.WalkKit
import Derived.ProofKit
import Derived.OpenShut
import Derived.ShutString
import Derived.ChangeOld
import Derived.Below
import Derived.SizedLaws
import Derived.Lib.SmallJoins
import Derived.Test.YtlaoodlfkcnnnaaWSized
namespace Go.Proofs.Ytlaoodlfkcnnnaa.nonceOnce
open Go.ChangeShapes Go.WideShapes Go.ChangeAt Go.RowKit Go.Proofs.Ytlaoodlfkcnnnaa.WordC Go.Proofs.Ytlaoodlfkcnnnaa.Num Go.Proofs.YtlaoodlfkcnnnaaW Go.Proofs.YtlaoodlfkcnnnaaW.PrintWords
open Go.Proofs.Ytlaoodlfkcnnnaa.WalkNonceOnce
open Go.ChangeMaps (open_string shut_string)
set_option linter.unusedVariables false
theorem own : ownKnob Try.prog.godebug = none := by kernel_rfl
theorem laidOut : laidOutB Try.prog = true := by kernel_rfl
def IsRow (k : IntKind) (w : World) (a : Option Addr) (len cap : Nat) (zs : List Int) : Prop :=
  (a = none ∧ len = 0 ∧ cap = 0 ∧ zs = []) ∨
  ∃ x, a = some x ∧ len ≤ cap ∧ cap ≤ maxLen ∧ zs.length = cap ∧ (∀ i, i < zs.length → w.cell? (x.add i) = some (.int k (zs.getD i 0))) ∧ ∀ n ∈ zs, (Lit.int k n).wf = true
set_option maxRecDepth 100000 in
theorem lifted (os : Os) (started : os.Started) (H : Type) (enc : TypeId × Value → H) :
    ReturnsInHanded {} Try.checked os 12 .any (Rows.nonceOnceSpec.pre6 enc Try.prog Try.f12 Rows.nonceOnceRow.domain false) (Rows.nonceOnceSpec.post enc Try.prog Try.f12 false true false false) := by
  refine returnsInHanded_of_change_sized (C := Try.checked) own started (by kernel_rfl) Try.func12
    (ChangeSpec.witness6 (enc := enc) (C := Try.checked) false ⟨#[], #[.agg #[.int .i64 0, .int .i64 0], .slice none 0 0], []⟩ 8 (by kernel_rfl) (by kernel_rfl) (by kernel_rfl) (by kernel_rfl)) ?_
  intro W base args ds gs before hval0 hW hcnd hsz0 _
  have hsz : (DataW.weightsEach Try.prog (Try.f12.params.toList ++ Rows.nonceOnceSpec.plain.varTypes Try.prog) (ds ++ gs)).all (· ≤ reachBytes) = true := hsz0
  have hval : ∀ (j : Nat) t v, Try.f12.params[j]? = some t → args[j]? = some v → Value.okWide Try.prog W .any base t v := hval0
  have hW' := hW
  obtain ⟨p, q, hA0, hV, rfl, hfz, hnd⟩ := hW
  have hA : DataW.TrodAll enc Try.prog W 0 (fun _ => true) true Try.f12.params.toList args.toList ds p := hA0
  rw [Try.params12] at hA hval hsz
  obtain ⟨v0, vs0, d0, ds0, p0, q0, hargs, rfl, rfl, h0, r0⟩ := trodAll_cons hA
  obtain ⟨v1, vs1, d1, ds1, p1, q1, rfl, rfl, rfl, h1, r1⟩ := trodAll_cons r0
  obtain ⟨rfl, rfl, rfl⟩ := trodAll_nil r1
  obtain rfl : args = #[v0, v1] := by cases args; simp_all
  obtain ⟨rfl, rfl⟩ := trodVars_none hV
  have k0 := h0
  have lt0 : ∀ x ∈ p0, x.block < W.heap.size := by obtain ⟨m, hm⟩ := k0; exact DataW.trod_lt m _ _ _ hm
  obtain ⟨c00, c01, y00, y01, m0, rfl, rfl, rfl, hy00, hy01⟩ := Joins.open_agg2 Try.underlying42 (by kernel_rfl) (show Try.prog.cellsOf 42 = 2 by kernel_rfl) (hval 0 42 v0 rfl rfl) h0
  obtain ⟨x00, e00, rfl, w00⟩ := DataW.trod_int Try.underlying3 hy00
  obtain ⟨x01, e01, rfl, w01⟩ := DataW.trod_int Try.underlying3 hy01
  simp at e00 e01
  subst e00 e01
  obtain ⟨a1, len1, cap1, rfl⟩ := okWide_slice Try.underlying57 (hval 1 57 v1 rfl rfl)
  have k1 := h1
  have lt1 : ∀ x ∈ p1, x.block < W.heap.size := by obtain ⟨m, hm⟩ := k1; exact DataW.trod_lt m _ _ _ hm
  have D1 : Dos W a1 len1 := by
    obtain ⟨fuel, hf⟩ := h1
    rcases DataW.trod_slice Try.underlying57 hf with ⟨hcs, _⟩ | ⟨a, l, c, elems, rest, n, _, hcs, _, hb, hl, hm, hlen, hel, _, _⟩
    · simp [Value.cells] at hcs
      obtain ⟨rfl, rfl, rfl⟩ := hcs
      exact ⟨by omega, fun i hi => by omega⟩
    · simp [Value.cells] at hcs
      obtain ⟨rfl, rfl, rfl⟩ := hcs
      have h2 : Try.prog.cellsOf 59 = 2 := by kernel_rfl
      refine ⟨Nat.le_trans hl (Nat.le_trans hm (by decide)), fun i hi => ?_⟩
      have hx := hel i hi
      rw [h2, List.getElem?_eq_getElem (by omega)] at hx
      obtain ⟨cs', hcs', htr⟩ := Option.bind_eq_some_iff.1 hx
      have hcc := (World.cells?_some hcs').2.2
      obtain ⟨y0, y1, m, _, hlc, hy0, hy1⟩ := trod_struct2 Try.underlying59 htr
      have hlc2 : cs'.length = 2 := hlc.trans h2
      obtain ⟨d0, d1, rfl⟩ : ∃ d0 d1, cs' = [d0, d1] := by
        match cs', hlc2 with
        | [d0, d1], _ => exact ⟨d0, d1, rfl⟩
      have e0 : Try.prog.cellsOf 4 = 1 := by kernel_rfl
      have e1 : Try.prog.cellsOf 3 = 1 := by kernel_rfl
      obtain ⟨b, hb0, _⟩ := DataW.trod_bool Try.underlying4 hy0
      obtain ⟨z, hz0, _, hz1⟩ := DataW.trod_int Try.underlying3 hy1
      simp [e0, e1] at hb0 hz0
      subst hb0 hz0
      have hz2 := Num.wf_i64 hz1
      exact ⟨a, b, z, rfl, by simpa [Addr.add] using hcc 0 (by omega), by simpa using hcc 1 (by omega), hz2.1, hz2.2⟩
  clear hA0 hval0 hsz0 hsz
  refine (WalkNonceOnce.walk x00 x01 w00 w01 a1 len1 cap1 D1 (w := W)).mono fun e W' ⟨he, bel⟩ => ?_
  subst he
  exact ⟨_, rfl, _, _, _, [], _, [], hW', trodAll_mk1 (shut_bool Try.underlying4 _), (trodAll_cons_mk (Below.trod laidOut (by kernel_rfl) (of_decide_eq_true (by kernel_rfl)) k0 bel lt0) (trodAll_cons_mk (Below.trod laidOut (by kernel_rfl) (of_decide_eq_true (by kernel_rfl)) k1 bel lt1) trodAll_mk0)), rfl, bel.frame _, fun h => by cases h⟩
theorem over : Rows.nonceOnceRow.holds Try.pinned (OpenSpec.ofChange Rows.nonceOnceSpec) :=
  OpenClaim.holds_of_wide 12 Try.f12 rfl rfl rfl rfl rfl rfl rfl ⟨rfl, rfl, rfl, rfl, rfl⟩ rfl rfl rfl rfl rfl (by kernel_rfl) Try.func12 (by kernel_rfl)
    (of_decide_eq_true (by kernel_rfl)) (by unfold Func.isWrapper; first | (rw [if_pos (by decide +kernel)]; kernel_rfl) | (rw [if_neg (by decide +kernel)]; exact ⟨rfl, rfl⟩))
    (fun os started H enc _ => lifted os started H enc)
theorem proved : Rows.NonceOnceSaid := over
#print axioms proved
end Go.Proofs.Ytlaoodlfkcnnnaa.nonceOnce
namespace Go.Proofs.Ytlaoodlfkcnnnaa
/-- The row, under a short name, for the claim. -/
theorem nonceOnce_holds : Rows.NonceOnceSaid := nonceOnce.proved
end Go.Proofs.Ytlaoodlfkcnnnaa
