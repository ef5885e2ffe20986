/- The row of StretchKeys: for every input the law returns true and leaves its arguments as they were. No condition. The walk is in YtmmbonlidcbkcaaDoorWalkStretchKeys. -/
import Derived.Test.YtmmbonlidcbkcaaDoorRows
import Derived.Test.YtmmbonlidcbkcaaDoorWalkStretchKeys
import Derived.WalkKit
import Derived.ProofKit
import Derived.OpenShut
import Derived.ShutString
import Derived.ChangeOld
import Derived.Below
import Derived.SizedLaws
import Derived.LaidMore
import Derived.LaidHandle
import Derived.Stop.Joined
import Derived.Test.YtmmbonlidcbkcaaDoorLaid
import Derived.Test.YtmmbonlidcbkcaaDoorJF
import Derived.Test.YtmmbonlidcbkcaaDoorTie
import Derived.Test.YtmmbonlidcbkcaaDoorCards
import Derived.Lib.SmallJoins
import Derived.Test.YtmmbonlidcbkcaaDoorWSized
namespace Go.Proofs.YtmmbonlidcbkcaaDoor.stretchKeys
open Go.ChangeShapes Go.WideShapes Go.ChangeAt Go.RowKit Go.Proofs.YtmmbonlidcbkcaaDoor.WordC Go.Proofs.YtmmbonlidcbkcaaDoor.Num Go.Proofs.YtmmbonlidcbkcaaDoorW Go.Proofs.YtmmbonlidcbkcaaDoorW.PrintWords
open Go.ChangeMaps (open_string shut_string)
set_option linter.unusedVariables false
theorem own : ownKnob Tryd.prog.godebug = none := by kernel_rfl
theorem laidOut : laidOutB Tryd.prog = true := by kernel_rfl
def IsRow (k : IntKind) (w : World) (a : Option Addr) (len cap : Nat) (zs : List Int) : Prop :=
  (a = none ∧ len = 0 ∧ cap = 0 ∧ zs = []) ∨
  ∃ x, a = some x ∧ len ≤ cap ∧ cap ≤ maxLen ∧ zs.length = cap ∧ (∀ i, i < zs.length → w.cell? (x.add i) = some (.int k (zs.getD i 0))) ∧ ∀ n ∈ zs, (Lit.int k n).wf = true
set_option maxRecDepth 100000 in
theorem lifted (os : Os) (started : os.Started) (H : Type) (enc : TypeId × Value → H) :
    ReturnsInHanded {} Tryd.checked os 15 .any (fun w args => (Rows.stretchKeysSpec.pre enc Tryd.prog Tryd.f15 [] false w args ∧ laidMetH Tryd.prog Laid.laid1 w) ∧ sizedMet enc Tryd.prog Tryd.f15 (OpenSpec.ofChange Rows.stretchKeysSpec) false w args) (Rows.stretchKeysSpec.post enc Tryd.prog Tryd.f15 false true false false) := by
  refine returnsInHanded_of_change_and (C := Tryd.checked) (X := fun w _ => laidMetH Tryd.prog Laid.laid1 w) (fun _ _ _ hh h => h.of_heap hh) own started (by kernel_rfl) Tryd.func15
    (ChangeSpec.witness_shaped (enc := enc) (C := Tryd.checked) (os := os) (X := fun w _ => laidMetH Tryd.prog Laid.laid1 w) false (World.doorLaid Tryd.prog 400 os) #[.agg #[.slice none 0 0, .slice none 0 0, .int .i64 0, .int .i64 0]] 8 rfl (World.shaped_of_RefB (by kernel_rfl) (by kernel_rfl)) (by kernel_rfl) (by kernel_rfl) (by kernel_rfl) (Laid.door_met os _)) ?_
  intro W base args ds gs before hval0 hW hcnd hsz0 hL _
  have ht := Laid.tb_of_laid hL
  have hsz : (DataW.weightsEach Tryd.prog (Tryd.f15.params.toList ++ Rows.stretchKeysSpec.plain.varTypes Tryd.prog) (ds ++ gs)).all (· ≤ reachBytes) = true := hsz0
  have hval : ∀ (j : Nat) t v, Tryd.f15.params[j]? = some t → args[j]? = some v → Value.okWide Tryd.prog W .any base t v := hval0
  have hW' := hW
  obtain ⟨p, q, hA0, hV, rfl, hfz, hnd⟩ := hW
  have hA : DataW.TrodAll enc Tryd.prog W 0 (fun _ => true) true Tryd.f15.params.toList args.toList ds p := hA0
  rw [Tryd.params15] at hA hval hsz
  obtain ⟨v0, vs0, d0, ds0, p0, q0, hargs, rfl, rfl, h0, r0⟩ := trodAll_cons hA
  obtain ⟨rfl, rfl, rfl⟩ := trodAll_nil r0
  obtain rfl : args = #[v0] := by cases args; simp_all
  obtain ⟨rfl, rfl⟩ := trodVars_none hV
  have k0 := h0
  have lt0 : ∀ x ∈ p0, x.block < W.heap.size := by obtain ⟨m, hm⟩ := k0; exact DataW.trod_lt m _ _ _ hm
  obtain ⟨e0_0, e0_1, e0_2, e0_3, y0_0, y0_1, y0_2, y0_3, mm0, rfl, rfl, rfl, hy0_0, hy0_1, hy0_2, hy0_3⟩ := Joins.open_agg4 Tryd.underlying50 (by kernel_rfl) (show Tryd.prog.cellsOf 50 = 4 by kernel_rfl) (hval 0 50 v0 rfl rfl) h0
  obtain ⟨a0_0, len0_0, cap0_0, z0_0, rfl, w0_0⟩ : ∃ a l c zs, e0_0 = .slice a l c ∧ IsRow .u8 W a l c zs := by
    rcases open_ints Tryd.underlying22 Tryd.underlying5 (by kernel_rfl) hy0_0 with ⟨hcs, _⟩ | ⟨x, l, c, zs, hcs, _, hl, hm, hz, _, hcell, hwz⟩
    · simp at hcs
      exact ⟨none, 0, 0, [], hcs, .inl ⟨rfl, rfl, rfl, rfl⟩⟩
    · simp at hcs
      exact ⟨some x, l, c, zs, hcs, .inr ⟨_, rfl, hl, hm, by simpa using hz, hcell, hwz⟩⟩
  obtain ⟨l0_0, rfl, hr0_0, hm0_0, hw0_0, hc0_0⟩ := ReadsInt.ofRowC w0_0
  have R0_0 : Rd W a0_0 l0_0.length cap0_0 l0_0 := ⟨rfl, hc0_0, Kd.C_of_reads (d := (0 : Int)) (h1 := fun _ => rfl) hr0_0⟩
  obtain ⟨a0_1, len0_1, cap0_1, z0_1, rfl, w0_1⟩ : ∃ a l c zs, e0_1 = .slice a l c ∧ IsRow .u8 W a l c zs := by
    rcases open_ints Tryd.underlying22 Tryd.underlying5 (by kernel_rfl) hy0_1 with ⟨hcs, _⟩ | ⟨x, l, c, zs, hcs, _, hl, hm, hz, _, hcell, hwz⟩
    · simp at hcs
      exact ⟨none, 0, 0, [], hcs, .inl ⟨rfl, rfl, rfl, rfl⟩⟩
    · simp at hcs
      exact ⟨some x, l, c, zs, hcs, .inr ⟨_, rfl, hl, hm, by simpa using hz, hcell, hwz⟩⟩
  obtain ⟨l0_1, rfl, hr0_1, hm0_1, hw0_1, hc0_1⟩ := ReadsInt.ofRowC w0_1
  have R0_1 : Rd W a0_1 l0_1.length cap0_1 l0_1 := ⟨rfl, hc0_1, Kd.C_of_reads (d := (0 : Int)) (h1 := fun _ => rfl) hr0_1⟩
  obtain ⟨a0_2, x0_2, rfl, w0_2⟩ := DataW.trod_int Tryd.underlying3 hy0_2
  simp at x0_2
  subst x0_2
  obtain ⟨a0_3, x0_3, rfl, w0_3⟩ := DataW.trod_int Tryd.underlying3 hy0_3
  simp at x0_3
  subst x0_3
  clear hA0 hval0 hsz0 hsz hL
  refine (WalkStretchKeys.walk a0_0 l0_0.length cap0_0 l0_0 R0_0 (isB_of_wf hw0_0) a0_1 l0_1.length cap0_1 l0_1 R0_1 (isB_of_wf hw0_1) a0_2 w0_2 a0_3 w0_3 ht (w := W)).mono fun e W' ⟨he, bel⟩ => ?_
  subst he
  exact ⟨_, rfl, _, _, _, [], _, [], hW', trodAll_mk1 (shut_bool Tryd.underlying4 _), (trodAll_cons_mk (Below.trod laidOut (by kernel_rfl) (of_decide_eq_true (by kernel_rfl)) k0 bel lt0) trodAll_mk0), rfl, bel.frame _, fun h => by cases h⟩
set_option maxHeartbeats 20000000
theorem facts : joinedFacts Tryd.pinned.checked.prog 15 Tryd.f15 Rows.stretchKeysSpec Rows.stretchKeysRow = true := by
  unfold joinedFacts
  simp only [Bool.and_eq_true]
  repeat' apply And.intro
  all_goals first
    | with_reducible exact JF.mayEnter
    | with_reducible exact JF.stopsHeard
    | (rw [JF.lifts]; as_aux_lemma => kernel_rfl)
    | (rw [JF.plainKeys]; as_aux_lemma => kernel_rfl)
    | as_aux_lemma => kernel_rfl
theorem named_ : Tryd.pinned.checked.prog.funcNamed Rows.stretchKeysRow.func = some 15 := by kernel_rfl
theorem over : Rows.stretchKeysRow.holds Tryd.pinned (OpenSpec.ofChange Rows.stretchKeysSpec) :=
  OpenClaim.holds_of_wide 15 Tryd.f15 rfl rfl rfl rfl rfl rfl rfl ⟨rfl, rfl, rfl, rfl, rfl⟩ rfl rfl rfl rfl rfl named_ Tryd.func15 facts
    (of_decide_eq_true (by as_aux_lemma => kernel_rfl)) (by as_aux_lemma => unfold Func.isWrapper; first | (rw [if_pos (by decide +kernel)]; kernel_rfl) | (rw [if_neg (by decide +kernel)]; exact ⟨rfl, rfl⟩))
    (fun os started H enc _ => lifted os started H enc)
theorem proved : Rows.StretchKeysSaid := over
#print axioms proved
end Go.Proofs.YtmmbonlidcbkcaaDoor.stretchKeys
namespace Go.Proofs.YtmmbonlidcbkcaaDoor
set_option maxHeartbeats 20000000
/-- The row, under a short name, for the claim. -/
theorem stretchKeys_holds : Rows.StretchKeysCardSaid :=
  Claim7.holds_tied_plain_at .later [] [.data] true (true, "1fca77e34e1356affbc74aea2b111a1fe6fe937d67beafae5d247f9e7911ab6c") false
    stretchKeys.proved (fun _ h => by cases h) (by as_aux_lemma => kernel_rfl) (fun _ h => by cases h) stretchKeys_row_tie rfl ⟨rfl, rfl⟩ (by as_aux_lemma => kernel_rfl) rfl
    (fun f fn hf hfn => by
      obtain rfl : f = 15 := Option.some.inj ((show Tryd.prog.funcNamed "hypogeum/hypogeumlaw04.StretchKeys" = some 15 from stretchKeys.named_).symm.trans hf) |>.symm
      obtain rfl : fn = Tryd.f15 := (Option.some.inj (Tryd.func15.symm.trans hfn)).symm
      exact ⟨(by as_aux_lemma => kernel_rfl), fun j t ht => by
        rw [Tryd.params15] at ht
        have hm : t ∈ [50] := by simpa using Array.mem_of_getElem? ht
        have hall : ([50].all fun u => !Tryd.prog.wantsStandIn u) = true := (by as_aux_lemma => kernel_rfl)
        exact (show Tryd.prog.wantsStandIn t = false by simpa using List.all_eq_true.1 hall t hm)⟩)
    (by as_aux_lemma => kernel_rfl)
#print axioms stretchKeys_holds
end Go.Proofs.YtmmbonlidcbkcaaDoor
