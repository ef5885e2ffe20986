/- LabelRings: the steps, opened. -/
import Derived.Test.YtmmbonlidcbkcaaDoorMacA
import Derived.Deep.RegionHeld3
import Derived.Deep.MidRow
import Derived.Deep.Cut
import Derived.Test.YtmmbonlidcbkcaaDoorLbQ
import Derived.Test.YtmmbonlidcbkcaaDoorWalkLabelRings
import Derived.SizedLaws
import Derived.Lib.SmallJoins
import Derived.ChangeSlices
import Derived.OpenShut
import Derived.ShutString
import Derived.ProofKit
namespace Go.Proofs.YtmmbonlidcbkcaaDoor.LrO
open Go.RowKit Go.Proofs.YtmmbonlidcbkcaaDoorW.PrintWords Go.Proofs.YtmmbonlidcbkcaaDoor.Num Go.Proofs.YtmmbonlidcbkcaaDoor.Sha Go.Proofs.YtmmbonlidcbkcaaDoor.Hmac Go.Proofs.YtmmbonlidcbkcaaDoor.WordC Go.Proofs.YtmmbonlidcbkcaaDoor.Arr Go.Proofs.YtmmbonlidcbkcaaDoor.App Go.Proofs.YtmmbonlidcbkcaaDoor.DgC Go.Proofs.YtmmbonlidcbkcaaDoor.DgBlock Go.Proofs.YtmmbonlidcbkcaaDoor.DgState Go.Proofs.YtmmbonlidcbkcaaDoor.DgAdd Go.Proofs.YtmmbonlidcbkcaaDoor.DgSum Go.Proofs.YtmmbonlidcbkcaaDoor.DgOf Go.Proofs.YtmmbonlidcbkcaaDoor.DgCopy Go.Proofs.YtmmbonlidcbkcaaDoor.DgLaw Go.Proofs.YtmmbonlidcbkcaaDoor.DgWords Go.Proofs.YtmmbonlidcbkcaaDoor.DgParts Go.Proofs.YtmmbonlidcbkcaaDoor.RefOf Go.Proofs.YtmmbonlidcbkcaaDoor.MacC Go.Proofs.YtmmbonlidcbkcaaDoor.MacTag Go.Proofs.YtmmbonlidcbkcaaDoor.MacLaw Go.Proofs.YtmmbonlidcbkcaaDoor.MacAwake Go.Proofs.YtmmbonlidcbkcaaDoor.MacHold Go.Proofs.YtmmbonlidcbkcaaDoor.MacNew Go.Proofs.YtmmbonlidcbkcaaDoor.MacRef Go.Proofs.YtmmbonlidcbkcaaDoor.MacNil Go.Proofs.YtmmbonlidcbkcaaDoor.MacMany Go.Proofs.YtmmbonlidcbkcaaDoor.LbC Go.Proofs.YtmmbonlidcbkcaaDoor.LbR Go.Proofs.YtmmbonlidcbkcaaDoor.LbA Go.Proofs.YtmmbonlidcbkcaaDoor.LbQ
set_option linter.unusedVariables false
set_option linter.unusedSimpArgs false

open Go.ChangeShapes Go.WideShapes Go.ChangeAt Go.Proofs.YtmmbonlidcbkcaaDoor.WalkLabelRings
open Go.ChangeMaps (open_string shut_string)
theorem weights_all {H : Type} {P : Program} {e : TypeId} : ∀ {ds : List (DataW H)} {d : DataW H} {n : Nat}, d ∈ ds → n ∈ d.weights P e → n ∈ DataW.weightsAll P e ds
  | [], _, _, h, _ => by cases h
  | x :: ds, d, n, h, hn => by
    simp only [DataW.weightsAll, List.mem_append]
    rcases List.mem_cons.1 h with rfl | h
    · exact .inl hn
    · exact .inr (weights_all h hn)
theorem four_of {α : Type} {l : List α} (h : l.length = 4) : ∃ a b c d, l = [a, b, c, d] := by
  match l, h with
  | [a, b, c, d], _ => exact ⟨a, b, c, d, rfl⟩
theorem ad_k (ad : Addr) {j : Nat} (h : 0 < j) : ad.add j = ⟨ad.block, ad.off + j, none⟩ := by
  unfold Addr.add; split
  · omega
  · rfl
def IsRowL (k : IntKind) (w : World) (a : Option Addr) (len cap : Nat) (zs : List Int) : Prop :=
  (a = none ∧ len = 0 ∧ cap = 0 ∧ zs = []) ∨
  ∃ x, a = some x ∧ len ≤ cap ∧ cap ≤ maxLen ∧ zs.length = cap ∧ (∀ i, i < zs.length → w.cell? (x.add i) = some (.int k (zs.getD i 0))) ∧ ∀ n ∈ zs, (Lit.int k n).wf = true
set_option maxRecDepth 100000 in
theorem bytes_open {H : Type} {enc : TypeId × Value → H} {W : World} {base fuel : Nat} {held : Bool} {v : Value} {y : DataW H × List MemPlace} (hy : DataW.trod enc Tryd.prog W base (fun _ => true) held fuel 22 [v] = some y) (hw : ∀ n ∈ y.1.weights Tryd.prog 22, n ≤ reachBytes) :
    ∃ B m d l, v = .slice B m d ∧ Rd W B m d l ∧ IsB l ∧ m ≤ 140737488351232 := by
  rcases open_ints Tryd.underlying22 Tryd.underlying5 (by kernel_rfl) hy with ⟨hcs, _⟩ | ⟨x, l, c, zs, hcs, _, hl, hm, hz, hx, hcell, hwz⟩
  · simp at hcs
    exact ⟨none, 0, 0, [], hcs, ⟨rfl, Nat.le_refl _, Kd.C_nil _ W⟩, (fun x hx => by cases hx), by omega⟩
  · simp at hcs
    have hz' : zs.length = c := by simpa using hz
    have hb5 : Tryd.prog.bytesOf 5 = 1 := by kernel_rfl
    have hle : zs.length ≤ reachBytes := by
      have h1 := hw (((lits (H := H) .u8 (zs.take l)).length + (lits (H := H) .u8 (zs.drop l)).length) * Tryd.prog.bytesOf 5) (by rw [hx]; simp [DataW.weights, Tryd.underlying22])
      rw [hb5] at h1
      have h2 : (lits (H := H) .u8 (zs.take l)).length + (lits (H := H) .u8 (zs.drop l)).length = zs.length := by simp [lits]; omega
      omega
    have hR : IsRowL .u8 W (some x) l c zs := .inr ⟨x, rfl, hl, hm, hz', hcell, hwz⟩
    obtain ⟨l', rfl, hr, hm', hw', hc'⟩ := ReadsInt.ofRowC hR
    refine ⟨some x, l'.length, c, l', hcs, ⟨rfl, hc', Kd.C_of_reads (d := (0 : Int)) (h1 := fun _ => rfl) hr⟩, isB_of_wf hw', ?_⟩
    unfold reachBytes at hle
    omega
set_option maxHeartbeats 1000000 in
set_option maxRecDepth 100000 in
theorem dos4_open {H : Type} {enc : TypeId × Value → H} {W : World} {base : Nat} {held : Bool} {a : Option Addr} {len cap : Nat} {d : DataW H} {ps : List MemPlace} (hw : ∀ n ∈ d.weights Tryd.prog 65, n ≤ reachBytes) (h : DataW.Trod enc Tryd.prog W base (fun _ => true) held 65 (.slice a len cap) d ps) : Dos4 W a len := by
  obtain ⟨fuel, hf⟩ := h
  rcases DataW.trod_slice Tryd.underlying65 hf with ⟨hcs, _⟩ | ⟨a', l, c, elems, rest, n, _, hcs, hx, hb, hl, hm, hlen, hel, _, _⟩
  · simp [Value.cells] at hcs
    obtain ⟨rfl, rfl, rfl⟩ := hcs
    exact ⟨by omega, fun i hi => by omega⟩
  · simp [Value.cells] at hcs
    obtain ⟨rfl, rfl, rfl⟩ := hcs
    obtain ⟨hd, _⟩ := Prod.mk.inj hx
    subst hd
    have h4 : Tryd.prog.cellsOf 72 = 4 := by kernel_rfl
    refine ⟨Nat.le_trans hl (Nat.le_trans hm (by decide)), fun i hi => ?_⟩
    have hxi := hel i hi
    rw [h4, List.getElem?_eq_getElem (by omega)] at hxi
    obtain ⟨cs', hcs', htr⟩ := Option.bind_eq_some_iff.1 hxi
    have hcc := (World.cells?_some hcs').2.2
    obtain ⟨y0, y1, y2, y3, m, heq, hlc, hy0, hy1, hy2, hy3⟩ := Joins.trod_struct4 Tryd.underlying72 htr
    obtain ⟨d0, d1, d2, d3, rfl⟩ := four_of (hlc.trans h4)
    have e4 : Tryd.prog.cellsOf 4 = 1 := by kernel_rfl
    have e3 : Tryd.prog.cellsOf 3 = 1 := by kernel_rfl
    have e22 : Tryd.prog.cellsOf 22 = 1 := by kernel_rfl
    have e9 : Tryd.prog.cellsOf 9 = 1 := by kernel_rfl
    have hw2 : ∀ n ∈ y2.1.weights Tryd.prog 22, n ≤ reachBytes := fun n hn => hw n (by
      simp only [DataW.weights, Tryd.underlying65]
      refine List.mem_cons_of_mem _ (List.mem_append_left _ (weights_all (d := elems[i].1) (List.mem_map.2 ⟨_, List.getElem_mem _, rfl⟩) ?_))
      rw [heq]
      simp only [DataW.weights, Tryd.underlying72, DataW.weightsEach, List.map_cons, List.map_nil, List.mem_append]
      simp [DataW.weightsEach, hn])
    obtain ⟨b, hb0, _⟩ := DataW.trod_bool Tryd.underlying4 hy0
    obtain ⟨z, hz0, _, hz1⟩ := DataW.trod_int Tryd.underlying3 hy1
    simp [e4, e3, e22] at hb0 hz0 hy2 hy3
    obtain ⟨B, mm, dd, ll, rfl, hr, hI, hmm⟩ := bytes_open hy2 hw2
    obtain ⟨s, hs0, _, hs1⟩ := DataW.trod_string Tryd.underlying9 hy3
    simp [e9] at hs0
    subst hb0 hz0 hs0
    exact ⟨a', b, z, B, mm, dd, s, rfl, by simpa [Addr.add] using hcc 0 (by omega), by have h := hcc 1 (by omega); rw [ad_k _ (by omega)] at h; simpa using h, by have h := hcc 2 (by omega); rw [ad_k _ (by omega)] at h; simpa using h, by have h := hcc 3 (by omega); rw [ad_k _ (by omega)] at h; simpa using h, hz1, hs1, ll, hr, hI, hmm⟩
end Go.Proofs.YtmmbonlidcbkcaaDoor.LrO
