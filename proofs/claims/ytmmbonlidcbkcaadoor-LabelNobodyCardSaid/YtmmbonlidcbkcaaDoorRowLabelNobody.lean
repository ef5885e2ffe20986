/- The row of LabelNobody: for every input the law returns true and leaves its arguments as they were. No condition. The walk is in YtmmbonlidcbkcaaDoorWalkLabelNobody. -/
import Derived.Test.YtmmbonlidcbkcaaDoorRows
import Derived.Test.YtmmbonlidcbkcaaDoorWalkLabelNobody
import Derived.WalkKit
import Derived.ProofKit
import Derived.OpenShut
import Derived.ShutString
import Derived.ChangeOld
import Derived.Below
import Derived.SizedLaws
import Derived.LaidMore
import Derived.LaidHandle
import Derived.Stop.Joined
import Derived.Test.YtmmbonlidcbkcaaDoorLaid
import Derived.Test.YtmmbonlidcbkcaaDoorJF
import Derived.Test.YtmmbonlidcbkcaaDoorTie
import Derived.Test.YtmmbonlidcbkcaaDoorCards
import Derived.Lib.SmallJoins
import Derived.Test.YtmmbonlidcbkcaaDoorWSized
namespace Go.Proofs.YtmmbonlidcbkcaaDoor.labelNobody
open Go.ChangeShapes Go.WideShapes Go.ChangeAt Go.RowKit Go.Proofs.YtmmbonlidcbkcaaDoor.WordC Go.Proofs.YtmmbonlidcbkcaaDoor.Num Go.Proofs.YtmmbonlidcbkcaaDoorW Go.Proofs.YtmmbonlidcbkcaaDoorW.PrintWords
open Go.ChangeMaps (open_string shut_string)
set_option linter.unusedVariables false
theorem own : ownKnob Tryd.prog.godebug = none := by kernel_rfl
theorem laidOut : laidOutB Tryd.prog = true := by kernel_rfl
def IsRow (k : IntKind) (w : World) (a : Option Addr) (len cap : Nat) (zs : List Int) : Prop :=
  (a = none ∧ len = 0 ∧ cap = 0 ∧ zs = []) ∨
  ∃ x, a = some x ∧ len ≤ cap ∧ cap ≤ maxLen ∧ zs.length = cap ∧ (∀ i, i < zs.length → w.cell? (x.add i) = some (.int k (zs.getD i 0))) ∧ ∀ n ∈ zs, (Lit.int k n).wf = true
set_option maxRecDepth 100000 in
theorem lifted (os : Os) (started : os.Started) (H : Type) (enc : TypeId × Value → H) :
    ReturnsInHanded {} Tryd.checked os 22 .any (fun w args => (Rows.labelNobodySpec.pre enc Tryd.prog Tryd.f22 [] false w args ∧ laidMetH Tryd.prog Laid.laid1 w) ∧ sizedMet enc Tryd.prog Tryd.f22 (OpenSpec.ofChange Rows.labelNobodySpec) false w args) (Rows.labelNobodySpec.post enc Tryd.prog Tryd.f22 false true false false) := by
  refine returnsInHanded_of_change_and (C := Tryd.checked) (X := fun w _ => laidMetH Tryd.prog Laid.laid1 w) (fun _ _ _ hh h => h.of_heap hh) own started (by kernel_rfl) Tryd.func22
    (ChangeSpec.witness_shaped (enc := enc) (C := Tryd.checked) (os := os) (X := fun w _ => laidMetH Tryd.prog Laid.laid1 w) false (World.doorLaid Tryd.prog 400 os) #[.agg #[.bool false, .int .i64 0, .slice none 0 0, .string ⟨#[]⟩]] 8 rfl (World.shaped_of_RefB (by kernel_rfl) (by kernel_rfl)) (by kernel_rfl) (by kernel_rfl) (by kernel_rfl) (Laid.door_met os _)) ?_
  intro W base args ds gs before hval0 hW hcnd hsz0 hL _
  have ht := Laid.tb_of_laid hL
  have hsz : (DataW.weightsEach Tryd.prog (Tryd.f22.params.toList ++ Rows.labelNobodySpec.plain.varTypes Tryd.prog) (ds ++ gs)).all (· ≤ reachBytes) = true := hsz0
  have hval : ∀ (j : Nat) t v, Tryd.f22.params[j]? = some t → args[j]? = some v → Value.okWide Tryd.prog W .any base t v := hval0
  have hW' := hW
  obtain ⟨p, q, hA0, hV, rfl, hfz, hnd⟩ := hW
  have hA : DataW.TrodAll enc Tryd.prog W 0 (fun _ => true) true Tryd.f22.params.toList args.toList ds p := hA0
  rw [Tryd.params22] at hA hval hsz
  obtain ⟨v0, vs0, d0, ds0, p0, q0, hargs, rfl, rfl, h0, r0⟩ := trodAll_cons hA
  obtain ⟨rfl, rfl, rfl⟩ := trodAll_nil r0
  obtain rfl : args = #[v0] := by cases args; simp_all
  obtain ⟨rfl, rfl⟩ := trodVars_none hV
  have k0 := h0
  have lt0 : ∀ x ∈ p0, x.block < W.heap.size := by obtain ⟨m, hm⟩ := k0; exact DataW.trod_lt m _ _ _ hm
  obtain ⟨e0_0, e0_1, e0_2, e0_3, y0_0, y0_1, y0_2, y0_3, mm0, rfl, rfl, rfl, hy0_0, hy0_1, hy0_2, hy0_3⟩ := Joins.open_agg4 Tryd.underlying72 (by kernel_rfl) (show Tryd.prog.cellsOf 72 = 4 by kernel_rfl) (hval 0 72 v0 rfl rfl) h0
  have hsz0 : (DataW.weightsEach Tryd.prog [4, 3, 22, 9] [y0_0.1, y0_1.1, y0_2.1, y0_3.1]).all (· ≤ reachBytes) = true := by simpa [DataW.weightsEach, DataW.weights, Tryd.underlying72] using hsz
  obtain ⟨a0_0, x0_0, rfl⟩ := DataW.trod_bool Tryd.underlying4 hy0_0
  simp at x0_0
  subst x0_0
  obtain ⟨a0_1, x0_1, rfl, w0_1⟩ := DataW.trod_int Tryd.underlying3 hy0_1
  simp at x0_1
  subst x0_1
  obtain ⟨a0_2, len0_2, cap0_2, z0_2, rfl, w0_2⟩ : ∃ a l c zs, e0_2 = .slice a l c ∧ IsRow .u8 W a l c zs := by
    rcases open_ints Tryd.underlying22 Tryd.underlying5 (by kernel_rfl) hy0_2 with ⟨hcs, _⟩ | ⟨x, l, c, zs, hcs, _, hl, hm, hz, _, hcell, hwz⟩
    · simp at hcs
      exact ⟨none, 0, 0, [], hcs, .inl ⟨rfl, rfl, rfl, rfl⟩⟩
    · simp at hcs
      exact ⟨some x, l, c, zs, hcs, .inr ⟨_, rfl, hl, hm, by simpa using hz, hcell, hwz⟩⟩
  have yy0_2 : len0_2 * 1 ≤ 140737488351232 := PrintWords.sized_ints hsz0 (j := 2) (t := 22) rfl rfl Tryd.underlying22 Tryd.underlying5 (by kernel_rfl) (by kernel_rfl) ⟨mm0, hy0_2⟩
  obtain ⟨l0_2, rfl, hr0_2, hm0_2, hw0_2, hc0_2⟩ := ReadsInt.ofRowC w0_2
  have R0_2 : Rd W a0_2 l0_2.length cap0_2 l0_2 := ⟨rfl, hc0_2, Kd.C_of_reads (d := (0 : Int)) (h1 := fun _ => rfl) hr0_2⟩
  obtain ⟨a0_3, x0_3, rfl, w0_3⟩ := DataW.trod_string Tryd.underlying9 hy0_3
  simp at x0_3
  subst x0_3
  clear hA0 hval0 hsz0 hsz hL
  refine (WalkLabelNobody.walk a0_0 a0_1 w0_1 a0_2 l0_2.length cap0_2 l0_2 R0_2 (isB_of_wf hw0_2) (by omega) a0_3 w0_3 ht (w := W)).mono fun e W' ⟨he, bel⟩ => ?_
  subst he
  exact ⟨_, rfl, _, _, _, [], _, [], hW', trodAll_mk1 (shut_bool Tryd.underlying4 _), (trodAll_cons_mk (Below.trod laidOut (by kernel_rfl) (of_decide_eq_true (by kernel_rfl)) k0 bel lt0) trodAll_mk0), rfl, bel.frame _, fun h => by cases h⟩
set_option maxHeartbeats 20000000
theorem facts : joinedFacts Tryd.pinned.checked.prog 22 Tryd.f22 Rows.labelNobodySpec Rows.labelNobodyRow = true := by
  unfold joinedFacts
  simp only [Bool.and_eq_true]
  repeat' apply And.intro
  all_goals first
    | with_reducible exact JF.mayEnter
    | with_reducible exact JF.stopsHeard
    | (rw [JF.lifts]; as_aux_lemma => kernel_rfl)
    | (rw [JF.plainKeys]; as_aux_lemma => kernel_rfl)
    | as_aux_lemma => kernel_rfl
theorem named_ : Tryd.pinned.checked.prog.funcNamed Rows.labelNobodyRow.func = some 22 := by kernel_rfl
theorem over : Rows.labelNobodyRow.holds Tryd.pinned (OpenSpec.ofChange Rows.labelNobodySpec) :=
  OpenClaim.holds_of_wide 22 Tryd.f22 rfl rfl rfl rfl rfl rfl rfl ⟨rfl, rfl, rfl, rfl, rfl⟩ rfl rfl rfl rfl rfl named_ Tryd.func22 facts
    (of_decide_eq_true (by as_aux_lemma => kernel_rfl)) (by as_aux_lemma => unfold Func.isWrapper; first | (rw [if_pos (by decide +kernel)]; kernel_rfl) | (rw [if_neg (by decide +kernel)]; exact ⟨rfl, rfl⟩))
    (fun os started H enc _ => lifted os started H enc)
theorem proved : Rows.LabelNobodySaid := over
#print axioms proved
end Go.Proofs.YtmmbonlidcbkcaaDoor.labelNobody
namespace Go.Proofs.YtmmbonlidcbkcaaDoor
set_option maxHeartbeats 20000000
/-- The row, under a short name, for the claim. -/
theorem labelNobody_holds : Rows.LabelNobodyCardSaid :=
  Claim7.holds_tied_plain_at .later [] [.data] true (true, "1fca77e34e1356affbc74aea2b111a1fe6fe937d67beafae5d247f9e7911ab6c") false
    labelNobody.proved (fun _ h => by cases h) (by as_aux_lemma => kernel_rfl) (fun _ h => by cases h) labelNobody_row_tie rfl ⟨rfl, rfl⟩ (by as_aux_lemma => kernel_rfl) rfl
    (fun f fn hf hfn => by
      obtain rfl : f = 22 := Option.some.inj ((show Tryd.prog.funcNamed "hypogeum/hypogeumlaw09.LabelNobody" = some 22 from labelNobody.named_).symm.trans hf) |>.symm
      obtain rfl : fn = Tryd.f22 := (Option.some.inj (Tryd.func22.symm.trans hfn)).symm
      exact ⟨(by as_aux_lemma => kernel_rfl), fun j t ht => by
        rw [Tryd.params22] at ht
        have hm : t ∈ [72] := by simpa using Array.mem_of_getElem? ht
        have hall : ([72].all fun u => !Tryd.prog.wantsStandIn u) = true := (by as_aux_lemma => kernel_rfl)
        exact (show Tryd.prog.wantsStandIn t = false by simpa using List.all_eq_true.1 hall t hm)⟩)
    (by as_aux_lemma => kernel_rfl)
#print axioms labelNobody_holds
end Go.Proofs.YtmmbonlidcbkcaaDoor
