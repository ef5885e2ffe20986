/- label: a ring, walked. -/
import Derived.Test.YtmmbonlidcbkcaaDoorMacA
import Derived.Deep.RegionHeld3
import Derived.Deep.MidRow
import Derived.Deep.Cut
import Derived.Test.YtmmbonlidcbkcaaDoorLbC
import Derived.Maps.OwnSet
import Derived.Maps.OwnOps
import Derived.Maps.Views
import Derived.Lib.SliceRun
import Derived.Carry
namespace Go.Proofs.YtmmbonlidcbkcaaDoor.LbR
open Go.RowKit Go.Proofs.YtmmbonlidcbkcaaDoorW.PrintWords Go.Proofs.YtmmbonlidcbkcaaDoor.Num Go.Proofs.YtmmbonlidcbkcaaDoor.Sha Go.Proofs.YtmmbonlidcbkcaaDoor.Hmac Go.Proofs.YtmmbonlidcbkcaaDoor.WordC Go.Proofs.YtmmbonlidcbkcaaDoor.Arr Go.Proofs.YtmmbonlidcbkcaaDoor.App Go.Proofs.YtmmbonlidcbkcaaDoor.DgC Go.Proofs.YtmmbonlidcbkcaaDoor.DgBlock Go.Proofs.YtmmbonlidcbkcaaDoor.DgState Go.Proofs.YtmmbonlidcbkcaaDoor.DgAdd Go.Proofs.YtmmbonlidcbkcaaDoor.DgSum Go.Proofs.YtmmbonlidcbkcaaDoor.DgOf Go.Proofs.YtmmbonlidcbkcaaDoor.DgCopy Go.Proofs.YtmmbonlidcbkcaaDoor.DgLaw Go.Proofs.YtmmbonlidcbkcaaDoor.DgWords Go.Proofs.YtmmbonlidcbkcaaDoor.DgParts Go.Proofs.YtmmbonlidcbkcaaDoor.RefOf Go.Proofs.YtmmbonlidcbkcaaDoor.MacC Go.Proofs.YtmmbonlidcbkcaaDoor.MacTag Go.Proofs.YtmmbonlidcbkcaaDoor.MacLaw Go.Proofs.YtmmbonlidcbkcaaDoor.MacAwake Go.Proofs.YtmmbonlidcbkcaaDoor.MacHold Go.Proofs.YtmmbonlidcbkcaaDoor.MacNew Go.Proofs.YtmmbonlidcbkcaaDoor.MacRef Go.Proofs.YtmmbonlidcbkcaaDoor.MacNil Go.Proofs.YtmmbonlidcbkcaaDoor.MacMany Go.Proofs.YtmmbonlidcbkcaaDoor.LbC
set_option linter.unusedVariables false
set_option linter.unusedSimpArgs false

open Go.Proofs.YtmmbonlidcbkcaaDoor.PLabelRings (S107 k107 k107_open k107_mk k107_openM k107_mkM)
/-- An epoch's master. -/
def findM (M : List S107) (e : Int) : Option (List Int) := (M.find? (fun p => p.f0 == e)).map (·.f1)
theorem findM_nil (e : Int) : findM [] e = none := rfl
theorem findM_snoc (M : List S107) (x : S107) (e : Int) : findM (M ++ [x]) e = (findM M e).or (if x.f0 = e then some x.f1 else none) := by
  unfold findM
  rw [List.find?_append]
  cases h : M.find? (fun p => p.f0 == e) with
  | some y => simp
  | none =>
    by_cases hx : x.f0 = e
    · simp [hx]
    · simp [hx]
/-- How an element of the map reads: as itself. -/
def R0 (v : Value) : Option (DataW Value × List MemPlace) := some (.held v, [])
theorem R0_inj {v x : Value} {ps : List MemPlace} (h : R0 v = some (.held x, ps)) : v = x := by
  unfold R0 at h
  simp at h
  exact h.1
theorem keyed3 : Maps.Keyed Tryd.prog 3 := Maps.int_keyed Tryd.underlying3
theorem wf64 {e : Int} (h0 : -9223372036854775808 ≤ e) (h1 : e ≤ 9223372036854775807) : (Lit.int .i64 e).wf = true := by
  simp [Lit.wf, IntKind.min, IntKind.max, IntKind.signed, IntKind.bits]; omega
theorem key3 {e : Int} (h0 : -9223372036854775808 ≤ e) (h1 : e ≤ 9223372036854775807) : keyOf Tryd.prog 3 (.int .i64 e) = some (.int .i64 e) := Maps.keyOf_int_mk Tryd.underlying3 (wf64 h0 h1)
theorem zero22 (w : World) : (zeroValue 22).run Tryd.prog w = .ok (.slice none 0 0) w := by kernel_rfl
theorem ow_ge {w : World} {base : Nat} {u : Value} {xs : List Int} (h : Ow w base u xs) : ∀ k, u.ownBlock = some k → base ≤ k := fun k hk => by
  obtain ⟨inner, hi⟩ := Kd.R_own h
  exact own_base hi k hk
/-- A ring, as it lies. -/
structure Rg (w : World) (base : Nat) (ok : Nat → Prop) (rb : Nat) (M : List S107) : Prop where
  le : base ≤ rb
  all : ∀ x ∈ M, x.f1.length = 32 ∧ IsB x.f1 ∧ 1 ≤ x.f0 ∧ x.f0 ≤ 64
  st : ∃ mb D, base ≤ mb ∧ Blk w rb 103 [.map (some mb)] ∧ w.ownsMap Tryd.prog 3 R0 mb M.length D ∧ (∀ e : Int, Maps.has D (.int .i64 e) = (findM M e).isSome) ∧
    ∀ (e : Int) (key : List Int), findM M e = some key → ∃ A c, (∀ z, D.atKey (.int .i64 e) z = .held (.slice A 32 c)) ∧ Ow w base (.slice A 32 c) key ∧ ∀ k, (Value.slice A 32 c).ownBlock = some k → ok k
theorem findM_mem {M : List S107} {e : Int} {key : List Int} (h : findM M e = some key) : ∃ x ∈ M, x.f1 = key ∧ x.f0 = e := by
  unfold findM at h
  obtain ⟨x, hx, rfl⟩ := Option.map_eq_some_iff.1 h
  exact ⟨x, List.mem_of_find?_eq_some hx, rfl, by simpa using List.find?_some hx⟩
theorem Rg.move {w w1 : World} {base rb : Nat} {ok : Nat → Prop} {M : List S107} (h : Rg w base ok rb M) (hb : Below w.heap.size w w1) : Rg w1 base ok rb M := by
  obtain ⟨hle, hall, mb, D, h0, h1, h2, h3, h4⟩ := h
  refine ⟨hle, hall, mb, D, h0, Blk.below h1 hb, ?_, h3, fun e key hk => ?_⟩
  · obtain ⟨es, clock, hbk, F, hs, hD⟩ := h2
    exact ⟨es, clock, (hb.block mb (Array.getElem?_eq_some_iff.1 hbk).1).trans hbk, F, hs, hD⟩
  · obtain ⟨A, c, e1, e2, e3⟩ := h4 e key hk
    exact ⟨A, c, e1, Kd.R_below e2 hb, e3⟩
theorem Rg.imp {w : World} {base rb : Nat} {ok ok' : Nat → Prop} {M : List S107} (h : Rg w base ok rb M) (hok : ∀ k, k < w.heap.size → ok k → ok' k) : Rg w base ok' rb M := by
  obtain ⟨hle, hall, mb, D, h0, h1, h2, h3, h4⟩ := h
  refine ⟨hle, hall, mb, D, h0, h1, h2, h3, fun e key hk => ?_⟩
  obtain ⟨A, c, e1, e2, e3⟩ := h4 e key hk
  exact ⟨A, c, e1, e2, fun k hk => hok k (ow_lt e2 k hk) (e3 k hk)⟩
/-- Another row of bytes, none of the ring's, was written. -/
theorem Rg.over {w w1 : World} {base rb t0 : Nat} {ok : Nat → Prop} {M : List S107} {row : Option Nat} (h : Rg w base ok rb M) (h103 : 103 ≠ t0) (ht : ∀ k, row = some k → ∃ cells, w.heap[k]? = some (.cells cells t0 (0, 0))) (hok : ∀ k, ok k → some k ≠ row) (hg : w.grownBy w1 row) : Rg w1 base ok rb M := by
  obtain ⟨hle, hall, mb, D, h0, h1, h2, h3, h4⟩ := h
  refine ⟨hle, hall, mb, D, h0, blk_grow h1 hg (fun e => ?_), ?_, h3, fun e key hk => ?_⟩
  · obtain ⟨cells, hc⟩ := ht rb e.symm
    have hg' := hc.symm.trans h1
    injection hg' with hg'; injection hg' with _ hg'
    exact h103 hg'.symm
  · refine h2.kept hg (fun e => ?_)
    obtain ⟨cells, hc⟩ := ht mb e.symm
    obtain ⟨es, clock, hbk, _⟩ := h2
    have hg' := hc.symm.trans hbk
    injection hg' with hg'; injection hg'
  · obtain ⟨A, c, e1, e2, e3⟩ := h4 e key hk
    exact ⟨A, c, e1, Kd.R_grown2 e2 rfl hg (fun k hk e => hok k (e3 k e.symm) hk.symm), e3⟩
theorem look_some {w : World} {base rb : Nat} {ok : Nat → Prop} {M : List S107} {e : Int} {key : List Int} (h : Rg w base ok rb M) (h0 : -9223372036854775808 ≤ e) (h1 : e ≤ 9223372036854775807) (hf : findM M e = some key) :
    ∃ mb A c, Blk w rb 103 [.map (some mb)] ∧ (Instr.lookup 101 (.map (some mb)) (.int .i64 e) true).run Tryd.prog w = .ok (.tuple #[.slice A 32 c, .bool true]) w ∧ (Instr.lookup 101 (.map (some mb)) (.int .i64 e) false).run Tryd.prog w = .ok (.slice A 32 c) w ∧ Rd w A 32 c key ∧ IsB key := by
  obtain ⟨x, hx, rfl, _⟩ := findM_mem hf
  obtain ⟨hl, hI, _⟩ := h.all x hx
  obtain ⟨hle, hall, mb, D, hm0, hb, hown, hhas, hent⟩ := h
  obtain ⟨A, c, hat, hO, _⟩ := hent e _ hf
  obtain ⟨v, ps, hrun, hv⟩ := hown.look_ok keyed3 Tryd.underlying101 (zero22 w) (zd := .held (.slice none 0 0)) (zp := []) rfl (key3 h0 h1)
  obtain ⟨v2, ps2, hrun2, hv2⟩ := hown.lookup keyed3 Tryd.underlying101 (zero22 w) (zd := .held (.slice none 0 0)) (zp := []) rfl (key3 h0 h1)
  rw [hat] at hv hv2
  have e1 : v = .slice A 32 c := R0_inj hv
  have e2 : v2 = .slice A 32 c := R0_inj hv2
  subst e1 e2
  have hh : Maps.has D (.int .i64 e) = true := by rw [hhas e, hf]; rfl
  rw [hh] at hrun
  have hr := Kd.R_reads' hO
  refine ⟨mb, A, c, hb, hrun, hrun2, ⟨hl, hr.2.1, ?_⟩, hI⟩
  have := hr.2.2
  rwa [hl] at this
theorem look_none {w : World} {base rb : Nat} {ok : Nat → Prop} {M : List S107} {e : Int} (h : Rg w base ok rb M) (h0 : -9223372036854775808 ≤ e) (h1 : e ≤ 9223372036854775807) (hf : findM M e = none) :
    ∃ mb, Blk w rb 103 [.map (some mb)] ∧ (Instr.lookup 101 (.map (some mb)) (.int .i64 e) true).run Tryd.prog w = .ok (.tuple #[.slice none 0 0, .bool false]) w ∧ (Instr.lookup 101 (.map (some mb)) (.int .i64 e) false).run Tryd.prog w = .ok (.slice none 0 0) w := by
  obtain ⟨hle, hall, mb, D, hm0, hb, hown, hhas, hent⟩ := h
  have hh : Maps.has D (.int .i64 e) = false := by rw [hhas e, hf]; rfl
  obtain ⟨v, ps, hrun, hv⟩ := hown.look_ok keyed3 Tryd.underlying101 (zero22 w) (zd := .held (.slice none 0 0)) (zp := []) rfl (key3 h0 h1)
  obtain ⟨v2, ps2, hrun2, hv2⟩ := hown.lookup keyed3 Tryd.underlying101 (zero22 w) (zd := .held (.slice none 0 0)) (zp := []) rfl (key3 h0 h1)
  rw [Maps.atKey_of_not_has hh] at hv hv2
  have e1 : v = .slice none 0 0 := R0_inj hv
  have e2 : v2 = .slice none 0 0 := R0_inj hv2
  subst e1 e2
  rw [hh] at hrun
  exact ⟨mb, hb, hrun, hrun2⟩
set_option maxHeartbeats 1000000 in
set_option maxRecDepth 100000 in
theorem New54_c {w : World} : Calls Tryd.prog 54 #[] w fun e w' => ∃ rb, e = .returned (.pointer (some ⟨rb, 0, none⟩)) ∧ Rg w' w.heap.size (fun _ => True) rb [] ∧ Below w.heap.size w w' := by
  have hmm := fun w => @run_makeMap Tryd.prog 101 w
  go_enter Tryd.func54, Tryd.ntmps54
  go_wp2
  go_ret
  refine ⟨_, rfl, ⟨by simp, (fun x hx => by cases hx), w.heap.size, .map [], Nat.le_refl _, (by have h := heap_alloc_new (w.alloc (.map #[] 0)) (.cells #[.map (some w.heap.size)] 103); rw [World.size_alloc] at h; exact h), (World.ownsMap_made w Tryd.prog 3 R0).alloc _, fun e => rfl, (fun e key h => by cases h)⟩, ((Below.refl _ w).alloc (Nat.le_refl _) _).alloc (by simp) _⟩
set_option maxHeartbeats 1000000 in
set_option maxRecDepth 100000 in
theorem Clone80_nil {w : World} : Calls Tryd.prog 80 #[.slice none 0 0] w fun e w' => e = .returned (.slice none 0 0) ∧ w' = w := by
  have h1 := fun w => Lib.run_eql_slice_nil (P := Tryd.prog) w 22 5 none 0 0 0 0 Tryd.underlying22
  go_enter Tryd.func80, Tryd.ntmps80
  go_wp2
  go_ret
  exact ⟨rfl, rfl⟩
set_option maxHeartbeats 1000000 in
set_option maxRecDepth 100000 in
theorem Clone80_c {A : Option Addr} {n c : Nat} {l : List Int} {w : World} (hr : Rd w A n c l) (hp : 0 < n) (hn : n ≤ 140737488351232) :
    Calls Tryd.prog 80 #[.slice A n c] w fun e w' => ∃ v, e = .returned v ∧ Ow w' w.heap.size v l ∧ Below w.heap.size w w' := by
  obtain ⟨ad, rfl, _⟩ := rd_cells hr hp
  have hrA := hr.alloc (.cells #[] 5)
  have hbE : Below w.heap.size w (w.alloc (.cells #[] 5)) := (Below.refl _ _).alloc (Nat.le_refl _) _
  have h1 := fun w => Lib.run_eql_slice_nil (P := Tryd.prog) w 22 5 (some ad) n c 0 0 Tryd.underlying22
  go_enter Tryd.func80, Tryd.ntmps80
  go_wp2_with (first
    | (at_builtin; refine append_ow (w0 := w) w.heap.size rfl (.tmp 5) (.tmp 6) rfl (.slice (some ⟨w.heap.size, 0, none⟩) 0 0) [] l (some ad) n c rfl rfl (ow_empty w _ (Nat.le_refl _)) hrA hbE (by simp) (by simp; omega) ?_; intro v1 w1 ho1 hb1 hx1 hy1; clear hx1 hy1; rw [List.nil_append] at ho1; have HO := Aside0.mk ho1; clear ho1))
  go_ret
  exact ⟨_, rfl, HO.out, hb1⟩
theorem ow_map {w w1 : World} {b mb : Nat} {u : Value} {xs : List Int} (h : Ow w b u xs) (hm : ∃ es cl, w.heap[mb]? = some (.map es cl)) (hg : w.grownBy w1 (some mb)) : Ow w1 b u xs :=
  Kd.R_grown2 h rfl hg (fun k hk e => by
    injection hk with hk
    subst hk
    obtain ⟨cells, hc⟩ := Kd.R_typed h mb e.symm
    obtain ⟨es, cl, hm⟩ := hm
    rw [hc] at hm
    injection hm with hm; injection hm)
theorem ow_cells {w w1 : World} {b : Nat} {u : Value} {xs : List Int} (h : Ow w b u xs) (hc : ∀ (k : Nat) (cells : Array Value) (t : Nat) (fr : Nat × Nat), w.heap[k]? = some (.cells cells t fr) → w1.heap[k]? = some (.cells cells t fr)) : Ow w1 b u xs :=
  Kd.R_mono (Kd.R_step (Kd.R_tight rfl h) (fun k hk hlt => by
    obtain ⟨cells, hk'⟩ := Kd.R_typed h k hk.symm
    rw [hc k cells 5 (0, 0) hk', hk'])) (fun _ _ => trivial)
theorem isKey3 (e : Int) : WideAt.IsKeyLit (.int .i64 e) := by
  first | trivial | exact ⟨_, _, rfl⟩ | simp [WideAt.IsKeyLit]
theorem lit_ne {e e' : Int} (h : e' ≠ e) : (Lit.int .i64 e') ≠ (Lit.int .i64 e) := by
  intro x; injection x with _ x; exact h x
set_option maxHeartbeats 1000000 in
set_option maxRecDepth 100000 in
theorem Put57_nil {A : Option Addr} {n c : Nat} {e : Int} {w : World} :
    Calls Tryd.prog 57 #[.pointer none, .int .i64 e, .slice A n c] w fun x w' => x = .returned (.int .i64 1) ∧ w' = w := by
  go_enter Tryd.func57, Tryd.ntmps57
  go_wp2
  go_ret
  exact ⟨rfl, rfl⟩
set_option maxHeartbeats 1000000 in
set_option maxRecDepth 100000 in
theorem Put57_bad {A : Option Addr} {n c rb : Nat} {e : Int} {w : World} (h : e < 1 ∨ 64 < e ∨ n ≠ 32) :
    Calls Tryd.prog 57 #[.pointer (some ⟨rb, 0, none⟩), .int .i64 e, .slice A n c] w fun x w' => x = .returned (.int .i64 1) ∧ w' = w := by
  by_cases h1 : e < 1
  · clear h
    go_enter Tryd.func57, Tryd.ntmps57
    go_wp2
    go_ret
    exact ⟨rfl, rfl⟩
  · by_cases h2 : 64 < e
    · clear h
      go_enter Tryd.func57, Tryd.ntmps57
      go_wp2
      go_ret
      exact ⟨rfl, rfl⟩
    · have hn : n ≠ 32 := by omega
      have hq : ((n : Int) == 32) = false := by simp; omega
      have hq2 : ((n : Int) != 32) = true := by simp; omega
      have hne : ¬ (n : Int) = 32 := by omega
      clear h hn
      go_enter Tryd.func57, Tryd.ntmps57
      go_wp2
      go_ret
      exact ⟨rfl, rfl⟩
set_option maxHeartbeats 1000000 in
set_option maxRecDepth 100000 in
theorem Put57_there {A : Option Addr} {c rb base : Nat} {ok : Nat → Prop} {M : List S107} {e : Int} {key : List Int} {w : World} (hR : Rg w base ok rb M) (h1 : 1 ≤ e) (h2 : e ≤ 64) (hf : findM M e = some key) :
    Calls Tryd.prog 57 #[.pointer (some ⟨rb, 0, none⟩), .int .i64 e, .slice A 32 c] w fun x w' => x = .returned (.int .i64 19) ∧ w' = w := by
  obtain ⟨mb, A1, c1, hb, hrun, _, _⟩ := look_some hR (by omega) (by omega) hf
  have c0 : w.cell? ⟨rb, 0, none⟩ = some (.map (some mb)) := Blk.cell hb 0
  clear hb hf
  go_enter Tryd.func57, Tryd.ntmps57
  go_wp2
  go_ret
  exact ⟨rfl, rfl⟩
set_option maxHeartbeats 4000000 in
set_option maxRecDepth 100000 in
theorem Put57_new {A : Option Addr} {c rb base : Nat} {ok : Nat → Prop} {M : List S107} {e : Int} {l : List Int} {w : World} (hR : Rg w base ok rb M) (h1 : 1 ≤ e) (h2 : e ≤ 64) (hf : findM M e = none) (hr : Rd w A 32 c l) (hB : IsB l) (hm : M.length ≤ 1000) (hbase : base ≤ w.heap.size) :
    Calls Tryd.prog 57 #[.pointer (some ⟨rb, 0, none⟩), .int .i64 e, .slice A 32 c] w fun x w' => x = .returned (.int .i64 0) ∧ Rg w' base (fun k => ok k ∨ w.heap.size ≤ k) rb (M ++ [⟨e, l⟩]) ∧ (∀ w0 B, Below B w0 w → B ≤ base → Below B w0 w') ∧ ∀ (k : Nat) (cells : Array Value) (t : Nat) (fr : Nat × Nat), w.heap[k]? = some (.cells cells t fr) → w'.heap[k]? = some (.cells cells t fr) := by
  obtain ⟨mb, hb, hrun, _⟩ := look_none hR (by omega) (by omega) hf
  obtain ⟨hle, hall, mb', D, hm0, hb', hown, hhas, hent⟩ := hR
  obtain rfl : mb' = mb := by
    have := hb'.symm.trans hb
    injection this with this; injection this with this
    have := congrArg (fun a => a[0]?) this
    simpa using this
  have c0 : w.cell? ⟨rb, 0, none⟩ = some (.map (some mb')) := Blk.cell hb 0
  have c0d : w.drew.cell? ⟨rb, 0, none⟩ = some (.map (some mb')) := c0
  have hL := hr.len
  have HX := Aside0.mk (And.intro hf (And.intro hown (And.intro hhas hent)))
  have HB := Aside0.mk hb
  clear hb hb' hown hhas hent hf
  go_enter Tryd.func57, Tryd.ntmps57
  go_wp2_with fail
  refine wp_region_held_drew (S := fun w' => w'.cell? ⟨rb, 0, none⟩ = some (.map (some mb'))) (by kernel_rfl) ?_ (fun hHeld => ?_)
  · exact c0d
  refine wpAnyH_take (i := 0) (v := ?_) (List.getElem?_toArray.trans rfl) (by kernel_rfl) (by kernel_rfl) (by kernel_rfl) (fun _ _ _ h => h) (Or.inl ⟨by rfl, ?_⟩) (by assumption) ?_
  rotate_left
  · (intro w hSw; (try dsimp only at hSw); go_simp; try with_reducible rfl)
  (try simp only [Act.put, List.setIfInBounds_toArray, List.set_cons_zero, List.set_cons_succ])
  refine wpAnyH_take (i := 1) (v := ?_) (List.getElem?_toArray.trans rfl) (by kernel_rfl) (by kernel_rfl) (by kernel_rfl) (fun _ _ _ h => h) (Or.inl ⟨by rfl, ?_⟩) (by assumption) ?_
  rotate_left
  · (intro w hSw; (try dsimp only at hSw); go_simp; try with_reducible rfl)
  (try simp only [Act.put, List.setIfInBounds_toArray, List.set_cons_zero, List.set_cons_succ])
  refine wpAnyH_take (i := 2) (v := ?_) (List.getElem?_toArray.trans rfl) (by kernel_rfl) (by kernel_rfl) (by kernel_rfl) (fun _ _ _ h => h) (Or.inl ⟨by rfl, ?_⟩) (by assumption) ?_
  rotate_left
  · (intro w hSw; (try dsimp only at hSw); go_simp; try with_reducible rfl)
  (try simp only [Act.put, List.setIfInBounds_toArray, List.set_cons_zero, List.set_cons_succ])
  refine wpAnyH_take (i := 3) (v := ?_) (List.getElem?_toArray.trans rfl) (by kernel_rfl) (by kernel_rfl) (by kernel_rfl) (fun _ _ _ h => h) (Or.inl ⟨by rfl, ?_⟩) (by assumption) ?_
  rotate_left
  · (intro w hSw; (try dsimp only at hSw); go_simp; try with_reducible rfl)
  (try simp only [Act.put, List.setIfInBounds_toArray, List.set_cons_zero, List.set_cons_succ])
  refine wpAnyH_take (i := 4) (v := ?_) (List.getElem?_toArray.trans rfl) (by kernel_rfl) (by kernel_rfl) (by kernel_rfl) (fun _ _ _ h => h) (Or.inl ⟨by rfl, ?_⟩) (by assumption) ?_
  rotate_left
  · (intro w hSw; (try dsimp only at hSw); go_simp; try with_reducible rfl)
  (try simp only [Act.put, List.setIfInBounds_toArray, List.set_cons_zero, List.set_cons_succ])
  refine wpAnyH_take (i := 5) (v := ?_) (List.getElem?_toArray.trans rfl) (by kernel_rfl) (by kernel_rfl) (by kernel_rfl) (fun _ _ _ h => h) (Or.inl ⟨by rfl, ?_⟩) (by assumption) ?_
  rotate_left
  · (intro w hSw; (try dsimp only at hSw); go_simp; try with_reducible rfl)
  (try simp only [Act.put, List.setIfInBounds_toArray, List.set_cons_zero, List.set_cons_succ])
  refine wpAnyH_ready (rs := [6]) (by kernel_rfl) (by simp) (AllReadyH.cons (List.getElem?_toArray.trans rfl) (fun Kx hKx => ?_) AllReadyH.nil)
  go_simp
  refine (Clone80_c hr.drew (by omega) (by omega)).mono ?_
  rintro x w1 ⟨v1, rfl, ho1, hb1⟩
  obtain ⟨A1, c1, rfl, r1⟩ := rd_of_own ho1
  rw [hL] at ho1 r1 ⊢
  have hown1 : w1.ownsMap Tryd.prog 3 R0 mb' M.length D := by
    obtain ⟨es, clock, hbk, F, hs, hD⟩ := HX.out.2.1
    exact ⟨es, clock, (hb1.block mb' (Array.getElem?_eq_some_iff.1 hbk).1).trans hbk, F, hs, hD⟩
  obtain ⟨w2, hup, hown2, hg2⟩ := hown1.update keyed3 Tryd.underlying101 (by unfold maxLen; omega) (key3 (e := e) (by omega) (by omega)) (show R0 (.slice A1 32 c1) = some (.held (.slice A1 32 c1), []) from rfl)
  have hrbm : some rb ≠ some mb' := fun e => by
    injection e with e
    subst e
    obtain ⟨es, cl, hbk, _⟩ := hown1
    have := (Blk.below (w := w.drew) HB.out hb1).symm.trans hbk
    injection this with this; injection this
  go_wp2_with fail
  refine hKx.out _ _ ?_ (fun hHeld => ?_)
  · exact Blk.cell (Blk.below (w := w.drew) HB.out hb1) 0
  clear hKx Kx
  (try simp only [Act.put, List.setIfInBounds_toArray, List.set_cons_zero, List.set_cons_succ])
  refine wpAnyH_ready (rs := [7]) (by kernel_rfl) (by simp) (AllReadyH.cons (List.getElem?_toArray.trans rfl) (fun Kx hKx => ?_) AllReadyH.nil)
  go_simp
  refine hKx.out _ _ ?_ (fun hHeld2 => ?_)
  · exact hg2.cell hHeld hrbm
  clear hKx Kx
  (try simp only [Act.put, List.setIfInBounds_toArray, List.set_cons_zero, List.set_cons_succ])
  refine wpAnyH_done (by kernel_rfl) ?_ _
  have HOWN := Aside0.mk (And.intro hown1 (And.intro hown2 hup))
  clear hown1 hown2 hup
  go_wp2_with fail
  go_ret
  obtain ⟨hf, hown, hhas, hent⟩ := HX.out
  obtain ⟨hown1, hown2, _⟩ := HOWN.out
  have hmap : ∃ es cl, w1.heap[mb']? = some (.map es cl) := by
    obtain ⟨es, cl, hbk, _⟩ := hown1
    exact ⟨es, cl, hbk⟩
  have hD := hown.isMap
  have hbw : Below w.heap.size w w1 := below_next (Below.drew (Below.refl _ w)) hb1
  refine ⟨rfl, ⟨hle, ?_, mb', _, hm0, ?_, by rw [List.length_append]; exact hown2, ?_, ?_⟩, ?_, ?_⟩
  · intro x hx
    rcases List.mem_append.1 hx with hx | hx
    · exact hall x hx
    · rw [List.mem_singleton.1 hx]; exact ⟨hL, hB, h1, h2⟩
  · refine blk_grow (Blk.below HB.out hbw) hg2 (fun e => ?_)
    injection e with e
    subst e
    obtain ⟨es, cl, hbk⟩ := hmap
    have := (Blk.below HB.out hbw).symm.trans hbk
    injection this with this; injection this
  · intro e'
    rw [findM_snoc]
    by_cases he : e' = e
    · subst he
      rw [Maps.has_put_same hD (isKey3 _), hf]
      simp
    · rw [Maps.has_put_other (lit_ne he), hhas e']
      have : (if e = e' then some l else none) = none := if_neg (fun x => he x.symm)
      simp [this]
  · intro e' key hk
    rw [findM_snoc] at hk
    by_cases he : e' = e
    · subst he
      rw [hf] at hk
      simp at hk
      subst hk
      refine ⟨A1, c1, fun z => Maps.atKey_put_same hD (isKey3 _) _ z, ow_map (Kd.R_lower ho1 hbase) hmap hg2, fun k hk => ?_⟩
      have := ow_ge ho1 k hk
      exact .inr this
    · have h0 : (if e = e' then some l else none) = none := if_neg (fun x => he x.symm)
      simp only [h0, Option.or_none] at hk
      obtain ⟨A2, c2, e1, e2, e3⟩ := hent e' key hk
      exact ⟨A2, c2, fun z => by rw [Maps.atKey_put_other (lit_ne he)]; exact e1 z, ow_map (Kd.R_below e2 hbw) hmap hg2, fun k hk => .inl (e3 k hk)⟩
  · intro w0 B hB0 hBb
    have h3 := hB0.trans (hbw.mono (by omega))
    exact h3.grown hg2 (by have := h3.size; have := hbw.size; omega) (fun k hk => by injection hk with hk; subst hk; omega)
  · intro k cells t fr hk
    have hlt : k < w.heap.size := (Array.getElem?_eq_some_iff.1 hk).1
    have hk1 : w1.heap[k]? = some (.cells cells t fr) := (hbw.block k hlt).trans hk
    exact (hg2.block k (Array.getElem?_eq_some_iff.1 hk1).1 (fun e => by
      injection e with e
      subst e
      obtain ⟨es, cl, hbk⟩ := hmap
      rw [hbk] at hk1
      injection hk1 with hk1; injection hk1)).trans hk1
/-- Of which epochs, below j, there are masters. -/
def epochsTo (M : List S107) (j : Nat) : List Int := ((List.range j).filter fun i : Nat => (findM M (i : Int)).isSome).map fun i : Nat => (i : Int)
def epochsS (M : List S107) : List Int := epochsTo M 65
theorem epochsTo_some {M : List S107} {j : Nat} (h : (findM M (j : Int)).isSome = true) : epochsTo M (j + 1) = epochsTo M j ++ [(j : Int)] := by
  unfold epochsTo; rw [List.range_succ, List.filter_append, List.map_append]; simp [h]
theorem epochsTo_none {M : List S107} {j : Nat} (h : (findM M (j : Int)).isSome = false) : epochsTo M (j + 1) = epochsTo M j := by
  unfold epochsTo; rw [List.range_succ, List.filter_append, List.map_append]; simp [h]
theorem epochsTo_le (M : List S107) (j : Nat) : (epochsTo M j).length ≤ j := by
  unfold epochsTo; rw [List.length_map]; exact Nat.le_trans (List.length_filter_le _ _) (by simp)
/-- Whole numbers in a slice of the call's own. -/
abbrev OwI (w : World) (base : Nat) (v : Value) (l : List Int) : Prop := Kd.R (Kd.int .i64) 3 w base (fun _ => True) v l
theorem infoI : (Tryd.prog.info? 3).map (fun i => (i.zero, i.size, i.bytes)) = some (some (.int .i64 0), 1, 8) := by kernel_rfl
theorem one_int (W : World) (x : Int) : Kd.C (Kd.int .i64) (W.alloc (.cells #[.int .i64 x] 3)) (some ⟨W.heap.size, 0, none⟩) 1 [x] :=
  Kd.C_of_reads (enc := Value.int .i64) (d := (0 : Int)) (h1 := fun _ => rfl) ⟨rfl, by omega, fun hp => ⟨_, rfl, fun j hj => by
    obtain rfl : j = 0 := by omega
    rw [add_plain, cell_of_row _ _ 0 _ 3 (0, 0) (heap_alloc_new _ _)]; rfl⟩⟩
theorem append_owI {ops : Array Oper} {rest : List Oper} {o : Oper} {a : Act} {Q : Exit → Act → World → Prop} {w0 W : World} (base : Nat) (hgd : o.guard = none) (s x : Operand)
    (ho : o.op = .call { callee := .builtin .append, args := #[s, x], argTypes := #[77, 77] })
    (v : Value) (xs ys : List Int) (A : Option Addr) (m c : Nat) (hs : a.eval s = v) (hx : a.eval x = .slice A m c)
    (HO : OwI W base v xs) (HR : Kd.C (Kd.int .i64) W A m ys) (HB : Below base w0 W) (hbase : base ≤ W.heap.size) (hl : xs.length + m ≤ 1000000)
    (h : ∀ v1 w1, OwI w1 base v1 (xs ++ ys) → Below base w0 w1 → wpList Tryd.prog ops Q rest (a.put o.dst v1) w1) :
    wpList Tryd.prog ops Q (o :: rest) a W :=
  Kd.R_append_rows (Kd.int .i64) (w0 := w0) base hgd s x 77 3 (.int .i64 0) 8 ho Tryd.underlying77 infoI rfl (by decide) (by omega) v xs ys A m c (fun _ => True) (fun _ => False) hs hx HO HR (fun _ _ h => h) (fun _ h => h.elim) (fun _ _ => trivial) HB hbase (by omega) (fun v1 w1 h1 h2 _ _ => h v1 w1 h1 h2)
set_option maxHeartbeats 1000000 in
set_option maxRecDepth 100000 in
theorem Epochs59_nil {w : World} : Calls Tryd.prog 59 #[.pointer none] w fun e w' => e = .returned (.slice none 0 0) ∧ w' = w := by
  go_enter Tryd.func59, Tryd.ntmps59
  go_wp2
  go_ret
  exact ⟨rfl, rfl⟩
set_option maxHeartbeats 4000000 in
set_option maxRecDepth 100000 in
theorem Epochs59_c {rb base : Nat} {ok : Nat → Prop} {M : List S107} {w : World} (hR : Rg w base ok rb M) :
    Calls Tryd.prog 59 #[.pointer (some ⟨rb, 0, none⟩)] w fun e w' => ∃ v, e = .returned v ∧ OwI w' w.heap.size v (epochsS M) ∧ Below w.heap.size w w' := by
  have H0 : Aside0 (OwI w w.heap.size (.slice none 0 0) (epochsTo M 0)) := ⟨Kd.R_nil _ _ _ _ _⟩
  have HR := Aside0.mk hR
  clear hR
  go_enter Tryd.func59, Tryd.ntmps59
  go_wp2_with fail
  go_loopw [9, 3] (fun i v wr => ∃ (j : Nat) (u : Value), j ≤ 65 ∧ i = .int .i64 j ∧ u = v ∧ Aside0 (OwI wr w.heap.size u (epochsTo M j)) ∧ Below w.heap.size w wr) (fun i _ _ => 65 - (intOf i).toNat)
  case atStart => exact ⟨0, _, by omega, rfl, rfl, H0, Below.refl _ _⟩
  case round =>
    clear H0
    obtain ⟨j, u, hj, rfl, rfl, hV, hb⟩ := hrel
    by_cases hlt : j < 65
    · have hlt' : (j : Int) < 65 := by omega
      have hR := HR.out.move hb
      have hle := epochsTo_le M j
      cases hf : findM M (j : Int) with
      | some key =>
        have HN := Aside0.mk (epochsTo_some (M := M) (j := j) (by rw [hf]; rfl))
        obtain ⟨mb, A1, c1, hbk, hrun, _, _⟩ := look_some hR (by omega) (by omega) hf
        have c0 : wr.cell? ⟨rb, 0, none⟩ = some (.map (some mb)) := Blk.cell hbk 0
        clear hf hbk hR
        go_wp2_with (first
          | (at_builtin; refine append_owI (w0 := w) w.heap.size rfl (.tmp 22) (.tmp 24) rfl u (epochsTo M j) [(j : Int)] (some ⟨wr.heap.size, 0, none⟩) 1 1 rfl rfl (Kd.R_alloc hV.out _) (one_int wr j) (hb.alloc hb.size _) (Nat.le_trans hb.size (by simp)) (by omega) ?_; intro v7 w7 ho7 hb7; rw [← HN.out] at ho7; have HO7 := Aside0.mk ho7; clear ho7))
        go_roundw
        case rel => exact ⟨j + 1, v7, by omega, by go_num, rfl, HO7, hb7⟩
        case measure => simp [intOf]; omega
      | none =>
        have HN := Aside0.mk (epochsTo_none (M := M) (j := j) (by rw [hf]; rfl))
        obtain ⟨mb, hbk, hrun, _⟩ := look_none hR (by omega) (by omega) hf
        have c0 : wr.cell? ⟨rb, 0, none⟩ = some (.map (some mb)) := Blk.cell hbk 0
        clear hf hbk hR
        go_wp2_with fail
        go_roundw
        case rel => exact ⟨j + 1, u, by omega, by go_num, rfl, ⟨by rw [HN.out]; exact hV.out⟩, hb⟩
        case measure => simp [intOf]; omega
    · have hge : ¬ (j : Int) < 65 := by omega
      obtain rfl : j = 65 := by omega
      have hV' : Aside0 (OwI wr w.heap.size u (epochsS M)) := ⟨hV.out⟩
      clear hV
      go_wp2_with fail
      go_ret
      exact ⟨_, rfl, hV'.out, hb⟩
/-- The greatest of them. -/
def lastS (M : List S107) : Int := (epochsS M).getD ((epochsS M).length - 1) 0
set_option maxHeartbeats 1000000 in
set_option maxRecDepth 100000 in
theorem Last61_nil {w : World} : Calls Tryd.prog 61 #[.pointer none] w fun e w' => e = .returned (.int .i64 0) ∧ w' = w := by
  go_enter Tryd.func61, Tryd.ntmps61
  go_wp2_with fail
  refine Epochs59_nil.mono ?_
  rintro x w1 ⟨rfl, rfl⟩
  go_wp2_with fail
  go_ret
  exact ⟨rfl, rfl⟩
set_option maxHeartbeats 2000000 in
set_option maxRecDepth 100000 in
theorem Last61_c {rb base : Nat} {ok : Nat → Prop} {M : List S107} {w : World} (hR : Rg w base ok rb M) :
    Calls Tryd.prog 61 #[.pointer (some ⟨rb, 0, none⟩)] w fun e w' => e = .returned (.int .i64 (lastS M)) ∧ Below w.heap.size w w' := by
  have HL : Aside0 ((epochsS M).getD ((epochsS M).length - 1) 0 = lastS M) := ⟨rfl⟩
  have hle := epochsTo_le M 65
  have hle' : (epochsS M).length ≤ 65 := hle
  go_enter Tryd.func61, Tryd.ntmps61
  go_wp2_with fail
  refine (Epochs59_c hR).mono ?_
  rintro x w1 ⟨v1, rfl, ho1, hb1⟩
  obtain ⟨A, c, rfl, hc, hC⟩ := Kd.R_reads ho1
  obtain ⟨L, HLL⟩ : ∃ L, Aside0 (epochsS M = L) := ⟨_, ⟨rfl⟩⟩
  rw [HLL.out] at hC hc hle' HL ⊢
  obtain ⟨N, HN⟩ : ∃ N, Aside0 (L.length = N) := ⟨_, ⟨rfl⟩⟩
  rw [HN.out] at hC hc hle' HL ⊢
  by_cases h0 : N = 0
  · have hz : ((N : Int) == 0) = true := by simp; omega
    have hz2 : (N : Int) = 0 := by omega
    have hn0 : L.getD (N - 1) 0 = 0 := by
      have := HN.out
      have hnil : L = [] := List.eq_nil_of_length_eq_zero (by omega)
      rw [hnil]; simp
    rw [hn0] at HL
    have HL' := HL
    clear ho1 hC hn0
    subst h0
    go_wp2_with fail
    go_ret
    exact ⟨by rw [← HL'.out]; rfl, hb1⟩
  · have hz : ((N : Int) == 0) = false := by simp; omega
    have hz2 : ¬ (N : Int) = 0 := by omega
    have hN1 : 1 ≤ (N : Int) := by omega
    have hN2 : (N : Int) ≤ 65 := by omega
    obtain ⟨ad, cs, e, hl, hK, hcell⟩ := Kd.C_get hC (0 : Int) (((N - 1 : Nat)) : Int) (by omega) (by omega)
    subst e
    have hK' : cs = [.int .i64 (L.getD (N - 1) 0)] := hK
    subst hK'
    have hcl := hcell 0 _ rfl
    have e1 : (((N - 1 : Nat)) : Int).toNat * (Kd.int .i64).sz + 0 = N - 1 := by
      show (((N - 1 : Nat)) : Int).toNat * 1 + 0 = N - 1
      omega
    rw [e1, HL.out] at hcl
    have q1 : ((N : Int) - 1).toNat = N - 1 := by omega
    have q2 : 0 ≤ (N : Int) - 1 := by omega
    clear ho1 hC hcell hK hl e1 h0
    go_wp2_with fail
    go_ret
    exact ⟨rfl, hb1⟩
set_option maxHeartbeats 1000000 in
set_option maxRecDepth 100000 in
theorem Master63_nil {e : Int} {w : World} : Calls Tryd.prog 63 #[.pointer none, .int .i64 e] w fun x w' => x = .returned (.slice none 0 0) ∧ w' = w := by
  go_enter Tryd.func63, Tryd.ntmps63
  go_wp2
  go_ret
  exact ⟨rfl, rfl⟩
set_option maxHeartbeats 1000000 in
set_option maxRecDepth 100000 in
theorem Master63_none {rb base : Nat} {ok : Nat → Prop} {M : List S107} {e : Int} {w : World} (hR : Rg w base ok rb M) (h0 : -9223372036854775808 ≤ e) (h1 : e ≤ 9223372036854775807) (hf : findM M e = none) :
    Calls Tryd.prog 63 #[.pointer (some ⟨rb, 0, none⟩), .int .i64 e] w fun x w' => x = .returned (.slice none 0 0) ∧ w' = w := by
  obtain ⟨mb, hb, _, hrun⟩ := look_none hR h0 h1 hf
  have c0 : w.cell? ⟨rb, 0, none⟩ = some (.map (some mb)) := Blk.cell hb 0
  clear hb hf h0 h1
  go_enter Tryd.func63, Tryd.ntmps63
  go_wp2_with fail
  refine Clone80_nil.mono ?_
  rintro x w1 ⟨rfl, rfl⟩
  go_wp2_with fail
  go_ret
  exact ⟨rfl, rfl⟩
set_option maxHeartbeats 1000000 in
set_option maxRecDepth 100000 in
theorem Master63_some {rb base : Nat} {ok : Nat → Prop} {M : List S107} {e : Int} {key : List Int} {w : World} (hR : Rg w base ok rb M) (h0 : -9223372036854775808 ≤ e) (h1 : e ≤ 9223372036854775807) (hf : findM M e = some key) :
    Calls Tryd.prog 63 #[.pointer (some ⟨rb, 0, none⟩), .int .i64 e] w fun x w' => ∃ A c, x = .returned (.slice A 32 c) ∧ Rd w' A 32 c key ∧ Below w.heap.size w w' := by
  obtain ⟨mb, A, c, hb, _, hrun, hrd, _⟩ := look_some hR h0 h1 hf
  have c0 : w.cell? ⟨rb, 0, none⟩ = some (.map (some mb)) := Blk.cell hb 0
  have hl := hrd.len
  clear hb hf h0 h1
  go_enter Tryd.func63, Tryd.ntmps63
  go_wp2_with fail
  refine (Clone80_c hrd (by omega) (by omega)).mono ?_
  rintro x w1 ⟨v1, rfl, ho1, hb1⟩
  obtain ⟨A1, c1, rfl, r1⟩ := rd_of_own ho1
  rw [hl] at r1 ⊢
  have R1 := Aside0.mk r1
  clear ho1 r1 hl
  go_wp2_with fail
  go_ret
  exact ⟨A1, c1, rfl, R1.out, hb1⟩
set_option maxHeartbeats 1000000 in
set_option maxRecDepth 100000 in
theorem Key55_arg {p : Option Addr} {s : ByteArray} {e : Int} {w : World} (h : rightL s e = false) :
    Calls Tryd.prog 55 #[.pointer p, .string s, .int .i64 e] w fun x w' => x = .returned (.tuple #[.slice none 0 0, .int .i64 1]) ∧ Below w.heap.size w w' := by
  have HR := Aside0.mk h
  clear h
  go_enter Tryd.func55, Tryd.ntmps55
  go_wp2_with fail
  refine right76_c.mono ?_
  rintro x w1 ⟨rfl, hb1⟩
  rw [HR.out]
  go_wp2_with fail
  go_ret2
  exact ⟨rfl, hb1⟩
set_option maxHeartbeats 1000000 in
set_option maxRecDepth 100000 in
theorem Key55_nil {s : ByteArray} {e : Int} {w : World} (h : rightL s e = true) :
    Calls Tryd.prog 55 #[.pointer none, .string s, .int .i64 e] w fun x w' => x = .returned (.tuple #[.slice none 0 0, .int .i64 24]) ∧ Below w.heap.size w w' := by
  have HR := Aside0.mk h
  clear h
  go_enter Tryd.func55, Tryd.ntmps55
  go_wp2_with fail
  refine right76_c.mono ?_
  rintro x w1 ⟨rfl, hb1⟩
  rw [HR.out]
  go_wp2_with fail
  go_ret2
  exact ⟨rfl, hb1⟩
set_option maxHeartbeats 1000000 in
set_option maxRecDepth 100000 in
theorem Key55_none {rb base : Nat} {ok : Nat → Prop} {M : List S107} {s : ByteArray} {e : Int} {w : World} (hR : Rg w base ok rb M) (h : rightL s e = true) (hf : findM M e = none) :
    Calls Tryd.prog 55 #[.pointer (some ⟨rb, 0, none⟩), .string s, .int .i64 e] w fun x w' => x = .returned (.tuple #[.slice none 0 0, .int .i64 24]) ∧ Below w.heap.size w w' := by
  obtain ⟨_, _, he1, he2, _⟩ := rightL_iff.1 h
  have HR := Aside0.mk h
  have HRG := Aside0.mk hR
  have HF := Aside0.mk hf
  clear h hR hf
  go_enter Tryd.func55, Tryd.ntmps55
  go_wp2_with fail
  refine right76_c.mono ?_
  rintro x w1 ⟨rfl, hb1⟩
  rw [HR.out]
  obtain ⟨mb, hb, hrun, _⟩ := look_none (HRG.out.move hb1) (by omega) (by omega) HF.out
  have c0 : w1.cell? ⟨rb, 0, none⟩ = some (.map (some mb)) := Blk.cell hb 0
  clear hb
  go_wp2_with fail
  go_ret2
  exact ⟨rfl, hb1⟩
set_option maxHeartbeats 1000000 in
set_option maxRecDepth 100000 in
theorem Key55_some {rb base : Nat} {ok : Nat → Prop} {M : List S107} {s : ByteArray} {e : Int} {key : List Int} {w : World} (hR : Rg w base ok rb M) (h : rightL s e = true) (hf : findM M e = some key) (ht : Tb w) :
    Calls Tryd.prog 55 #[.pointer (some ⟨rb, 0, none⟩), .string s, .int .i64 e] w fun x w' => ∃ g, x = .returned (.tuple #[.slice (some ⟨g, 0, none⟩) 32 32, .int .i64 0]) ∧ Blk w' g 27 (nums .u8 (tagS key (textS s e))) ∧ w.heap.size ≤ g ∧ Below w.heap.size w w' := by
  obtain ⟨_, _, he1, he2, _⟩ := rightL_iff.1 h
  have HR := Aside0.mk h
  have HRG := Aside0.mk hR
  have HF := Aside0.mk hf
  clear h hR hf
  go_enter Tryd.func55, Tryd.ntmps55
  go_wp2_with fail
  refine right76_c.mono ?_
  rintro x w1 ⟨rfl, hb1⟩
  rw [HR.out]
  obtain ⟨mb, A, c, hb, hrun, _, hrd, hI⟩ := look_some (HRG.out.move hb1) (by omega) (by omega) HF.out
  have c0 : w1.cell? ⟨rb, 0, none⟩ = some (.map (some mb)) := Blk.cell hb 0
  clear hb
  go_wp2_with fail
  refine (Key49_yes hrd hI HR.out (ht.below hb1)).mono ?_
  rintro x w2 ⟨g, rfl, hO, hg, hb2⟩
  have HO := Aside0.mk hO
  clear hO
  go_wp2_with fail
  go_ret2
  exact ⟨g, rfl, HO.out, Nat.le_trans hb1.size hg, below_next hb1 hb2⟩
end Go.Proofs.YtmmbonlidcbkcaaDoor.LbR
