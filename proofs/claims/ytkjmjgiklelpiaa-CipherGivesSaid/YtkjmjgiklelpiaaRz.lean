/- A range over a function whose state lies in cells of its own: the law. -/
import Derived.Test.YtkjmjgiklelpiaaApp
import Derived.Test.YtkjmjgiklelpiaaQuart
import Derived.Test.YtkjmjgiklelpiaaPlainCipherBlocks
import Derived.Deep.RegionHeld3
import Derived.Deep.Cut
import Derived.Deep.CutRange
import Derived.RangeFuncNested
import Derived.RangeFuncCalls
import Derived.RangeFuncLeaves
import Derived.Shelf.Abstract
namespace Go.Proofs.Ytkjmjgiklelpiaa.Rz
open Go.RowKit Go.Proofs.YtkjmjgiklelpiaaW.PrintWords Go.Proofs.Ytkjmjgiklelpiaa.Num Go.Proofs.Ytkjmjgiklelpiaa.WordC Go.Proofs.Ytkjmjgiklelpiaa.Arr Go.Proofs.Ytkjmjgiklelpiaa.App
set_option linter.unusedVariables false
set_option linter.unusedSimpArgs false

/-- Blocks at or above N, and block b, lie as they lay. -/
structure KZ (N b : Nat) (W W' : World) : Prop where
  size : W.heap.size ≤ W'.heap.size
  same : ∀ k, k < W.heap.size → (N ≤ k ∨ k = b) → W'.heap[k]? = W.heap[k]?
theorem KZ.refl (N b : Nat) (W : World) : KZ N b W W := ⟨Nat.le_refl _, fun _ _ _ => rfl⟩
theorem KZ.trans {N b : Nat} {A B C : World} (h : KZ N b A B) (k : KZ N b B C) : KZ N b A C := ⟨Nat.le_trans h.size k.size, fun i hi hn => (k.same i (Nat.lt_of_lt_of_le hi h.size) hn).trans (h.same i hi hn)⟩
theorem KZ.setCell {N b : Nat} {A B : World} (h : KZ N b A B) {g : Nat} (hg : g < N) (hb : g ≠ b) (i : Nat) (u : Value) : KZ N b A (B.setCell ⟨g, i, none⟩ u) :=
  ⟨by simpa [World.setCell] using h.size, fun k hk hn => (Below.heap_setCell B _ u k (by rintro rfl; rcases hn with h | h <;> simp_all <;> omega)).trans (h.same k hk hn)⟩
theorem KZ.next {N b : Nat} {A B C : World} (h : KZ N b A B) (k : Below B.heap.size B C) : KZ N b A C :=
  ⟨Nat.le_trans h.size k.size, fun i hi hn => (k.block i (Nat.lt_of_lt_of_le hi h.size)).trans (h.same i hi hn)⟩
theorem KZ.drew {N b : Nat} {A B : World} (h : KZ N b A B) : KZ N b A B.drew := ⟨h.size, h.same⟩
theorem below_put {N l : Nat} {W : World} (o : Obj) (h : N ≤ l) : Below N W (W.putObj l o) := ⟨rfl, rfl, rfl, by simp, fun k hk => World.putObj_heap_other (by omega)⟩
/-- An iterator that gives N values, one behind another, to whatever loop; its own blocks may be written between two rounds. -/
def SeqZ (n : Nat) (P : Program) (g : Nat) (lb : Array Value) (encs : Nat → Array Value) (b N : Nat) (w : World) : Prop :=
  ∀ (l : Nat) (J Jx : Nat → World → Prop) (W : World), Below w.heap.size w W → (∀ s A B, J s A → Below W.heap.size A B → J s B) → (∀ s A B, Jx s A → Below W.heap.size A B → Jx s B) →
    (∀ j W1, J j W1 → j < N → YieldAt Fence.wide (n - 1) P l (encs j) W1 fun e W' =>
      (e = .returned (.bool true) ∧ J (j + 1) W' ∧ KZ W.heap.size b W1 W') ∨ (e = .returned (.bool false) ∧ Jx (j + 1) W')) →
    J 0 W →
    CallsIn Fence.wide n P g (#[.func (.yield l) #[] #[]] ++ lb) W fun e W' => (∃ v, e = .returned v) ∧ (J N W' ∨ ∃ j, j < N ∧ Jx (j + 1) W')
def postZ (N b : Nat) (I : Nat → World → Prop) (Ix : Code → Nat → World → Prop) (j : Nat) (W : World) : Exit → Act → World → Prop
  | .normal, _, W' => KZ N b W W' ∧ I j W'
  | .ret, _, W' => KZ N b W W' ∧ Ix .ret j W'
  | .exit id, _, W' => KZ N b W W' ∧ Ix (.exit id) j W'
  | .goto t, _, W' => KZ N b W W' ∧ Ix (.goto t) j W'
  | .panic _, _, _ => False
  | .outgrown, _, _ => False
theorem range_z {P : Program} {n : Nat} {g : Operand} {ps : Array Tmp} {assign body : Code} {Q : Exit → Act → World → Prop} {a : Act} {w : World}
    {gf : Nat} {lb : Array Value} (hg : a.eval g = .func (.func gf) #[] lb) (eg : ∀ args w, (callFunc gf args).run P w = .ok (.enter gf args) w)
    {encs : Nat → Array Value} {b N : Nat} (hb : b < w.heap.size) (hseq : SeqZ (n - 1) P gf lb encs b N w) (hps : ∀ x, (encs x).size = ps.size)
    (I : Nat → World → Prop) (Ix : Code → Nat → World → Prop) (hI : ∀ s A B, I s A → Below w.heap.size A B → I s B) (hIx : ∀ c s A B, Ix c s A → Below w.heap.size A B → Ix c s B) (h0 : I 0 w)
    (Ax : Nat → Act → World → Prop) (hAx : ∀ x a' W l r o, Ax x a' W → W.heap[l]? = some (.loop r) → Ax x a' (W.putObj l o))
    (hassign : ∀ (l j : Nat) (W : World) (K : Act → World → Prop), I j W → w.heap.size ≤ W.heap.size → (∀ a' W', KZ w.heap.size b W W' → I j W' → Ax j a' W' → K a' W') →
      assign.wpIn (Fence.wide.inRound l) (n - 1 - 1) P (Exit.then K (fun _ _ _ => False)) { tmps := (ps.zip (encs j)).foldl (fun t (p, v) => t.setIfInBounds p v) a.tmps, defers := [] } W)
    (hbody : ∀ (l j : Nat) (a' : Act) (W : World), I j W → Ax j a' W → j < N → w.heap.size ≤ W.heap.size → body.wpIn (Fence.wide.inRound l) (n - 1 - 1) P (postZ w.heap.size b I Ix (j + 1) W) a' W)
    (hdone : ∀ (D : Nat) (W : World), w.heap.size ≤ D → I N W → W.heap[D]? = some (.deferred (some [])) → Q .normal { a with defers := { target := .collected D, args := #[] } :: a.defers } W)
    (hstop : ∀ (D : Nat) (c : Code) (j : Nat) (W : World), w.heap.size ≤ D → j < N → Ix c (j + 1) W → W.heap[D]? = some (.deferred (some [])) → c.wpIn Fence.wide n P Q { a with defers := { target := .collected D, args := #[] } :: a.defers } W) :
    (Code.rangeFunc g ps assign body).wpIn Fence.wide n P Q a w := by
  refine wpIn_rangeFunc ?_
  intro fn hfn
  obtain ⟨rec, hrec⟩ : ∃ rec : LoopState → Option Code → Loop, rec = fun st pe => { state := st, pending := pe, fn, tmps := a.tmps, params := ps, assign, body, defers := w.heap.size } := ⟨_, rfl⟩
  obtain ⟨W1, hW1⟩ : ∃ W1, (w.alloc (.deferred (some []))).alloc (.loop (rec .ready none)) = W1 := ⟨_, rfl⟩
  have hL1 : W1.heap[w.heap.size + 1]? = some (.loop (rec .ready none)) := by
    rw [← hW1]; have := World.alloc_heap_new (w.alloc (.deferred (some []))) (.loop (rec .ready none)); rwa [World.size_alloc] at this
  have hK1 : W1.heap[w.heap.size]? = some (.deferred (some [])) := by
    rw [← hW1]; exact (Below.heap_alloc _ _ _ (by simp)).trans (World.alloc_heap_new w _)
  have hB1 : Below w.heap.size w W1 := by rw [← hW1]; exact ((Below.refl _ w).alloc (Nat.le_refl _) _).alloc (by simp) _
  have hS1 : W1.heap.size = w.heap.size + 2 := by rw [← hW1]; simp
  refine ⟨w.heap.size + 1, [{ target := .collected w.heap.size, args := #[] }], W1, { target := .fn (.func gf) lb, args := #[.func (.yield (w.heap.size + 1)) #[] #[]] }, W1, gf,
    #[.func (.yield (w.heap.size + 1)) #[] #[]] ++ lb, W1, ?_, ?_, ?_, ?_, (fun h => by cases h), ?_⟩
  · rw [← hW1, hrec]; exact run_enterLoop_outer _ _ _ _ _
  · simp only [resolve, hg]
    simp [go_sem]
  · intro f' _; trivial
  · simp [invoke, go_sem, eg]
  · refine (hseq (w.heap.size + 1)
      (fun j W => I j W ∧ W.heap[w.heap.size + 1]? = some (.loop (rec .ready none)) ∧ W.heap[w.heap.size]? = some (.deferred (some [])))
      (fun j W => ∃ c, Ix c j W ∧ W.heap[w.heap.size + 1]? = some (.loop (rec .done (some c))) ∧ W.heap[w.heap.size]? = some (.deferred (some [])))
      W1 hB1
      (fun s A B hs hk => ⟨hI s A B hs.1 (hk.mono (by omega)), (hk.block _ (by omega)).trans hs.2.1, (hk.block _ (by omega)).trans hs.2.2⟩)
      (fun s A B hs hk => by
        obtain ⟨c, h1, h2, h3⟩ := hs
        exact ⟨c, hIx c s A B h1 (hk.mono (by omega)), (hk.block _ (by omega)).trans h2, (hk.block _ (by omega)).trans h3⟩)
      ?_ ⟨hI _ _ _ h0 hB1, hL1, hK1⟩).mono ?_
    · rintro j W ⟨hi, hl, hk⟩ hlen
      have hlt : w.heap.size + 1 < W.heap.size := (Array.getElem?_eq_some_iff.1 hl).1
      have hy := run_yield (P := P) (args := encs j) hl (by rw [hrec]; exact hps j)
      rw [hrec] at hy
      refine ⟨fn, _, assign, body, hy, roundIn_of_wpIn hfn (hassign _ j W _ hi (by omega) ?_)⟩
      clear hy
      intro a' Wa hka hia hax
      have hla := (hka.same _ hlt (.inl (by omega))).trans hl
      have hka2 := (hka.same _ (by omega) (.inl (Nat.le_refl _))).trans hk
      have hlta : w.heap.size + 1 < Wa.heap.size := (Array.getElem?_eq_some_iff.1 hla).1
      refine ⟨_, run_beginRound hla (by rw [hrec]), ?_⟩
      obtain ⟨Wb, hWb⟩ : ∃ Wb, Wa.putObj (w.heap.size + 1) (.loop { rec .ready none with state := .busy }) = Wb := ⟨_, rfl⟩
      have hl2 : Wb.heap[w.heap.size + 1]? = some (.loop { rec .ready none with state := .busy }) := by rw [← hWb]; exact World.putObj_heap_same hlta
      have hk2 : Wb.heap[w.heap.size]? = some (.deferred (some [])) := by rw [← hWb]; exact (World.putObj_heap_other (by omega)).trans hka2
      have hbb : Below w.heap.size Wa Wb := by rw [← hWb]; exact below_put _ (by omega)
      have hax2 : Ax j a' Wb := by rw [← hWb]; exact hAx _ _ _ _ _ _ hax hla
      have hsb : Wb.heap.size = Wa.heap.size := by rw [← hWb]; simp
      have hkb : KZ W1.heap.size b Wa Wb := ⟨by omega, fun k hk hn => by rw [← hWb]; exact World.putObj_heap_other (by omega)⟩
      have hka3 : KZ W1.heap.size b W Wa := ⟨hka.size, fun k hk hn => hka.same k hk (hn.imp (fun h => by omega) id)⟩
      rw [hWb]
      clear hWb
      refine wpIn_mono (hbody _ j a' Wb (hI _ _ _ hia hbb) hax2 hlen (by omega)) ?_
      have fin : ∀ (jump : Option Code) (W3 : World), KZ w.heap.size b Wb W3 →
          (Instr.endRound (w.heap.size + 1) jump).run P W3 = .ok (.bool jump.isNone) (W3.putObj (w.heap.size + 1) (.loop (rec (if jump.isNone then .ready else .done) jump))) ∧
          (W3.putObj (w.heap.size + 1) (.loop (rec (if jump.isNone then .ready else .done) jump))).heap[w.heap.size + 1]? = some (.loop (rec (if jump.isNone then .ready else .done) jump)) ∧
          (W3.putObj (w.heap.size + 1) (.loop (rec (if jump.isNone then .ready else .done) jump))).heap[w.heap.size]? = some (.deferred (some [])) := fun jump W3 hk3 => by
        have hl3 := (hk3.same _ (by omega) (.inl (by omega))).trans hl2
        have := run_endRound (P := P) jump hl3
        rw [hrec] at this ⊢
        exact ⟨this, World.putObj_heap_same (Array.getElem?_eq_some_iff.1 hl3).1, (World.putObj_heap_other (by omega)).trans ((hk3.same _ (by omega) (.inl (Nat.le_refl _))).trans hk2)⟩
      rintro e a3 W3 hp
      cases e with
      | normal =>
        obtain ⟨hk3, hi3⟩ := hp
        obtain ⟨hr, hl4, hk4⟩ := fin none W3 hk3
        refine ⟨_, _, hr, .inl ⟨rfl, ⟨hI _ _ _ hi3 (below_put _ (by omega)), hl4, hk4⟩, ?_⟩⟩
        have h3 : KZ W1.heap.size b Wb W3 := ⟨hk3.size, fun k hk hn => hk3.same k hk (hn.imp (fun h => by omega) id)⟩
        have h4 : KZ W1.heap.size b W3 (W3.putObj (w.heap.size + 1) (.loop (rec (if (none : Option Code).isNone then .ready else .done) none))) := ⟨by simp, fun k hk hn => World.putObj_heap_other (by omega)⟩
        exact hka3.trans (hkb.trans (h3.trans h4))
      | ret =>
        obtain ⟨hk3, hi3⟩ := hp
        obtain ⟨hr, hl4, hk4⟩ := fin (some .ret) W3 hk3
        exact ⟨_, _, hr, .inr ⟨rfl, .ret, hIx _ _ _ _ hi3 (below_put _ (by omega)), hl4, hk4⟩⟩
      | exit id =>
        obtain ⟨hk3, hi3⟩ := hp
        obtain ⟨hr, hl4, hk4⟩ := fin (some (.exit id)) W3 hk3
        exact ⟨_, _, hr, .inr ⟨rfl, .exit id, hIx _ _ _ _ hi3 (below_put _ (by omega)), hl4, hk4⟩⟩
      | goto t =>
        obtain ⟨hk3, hi3⟩ := hp
        obtain ⟨hr, hl4, hk4⟩ := fin (some (.goto t)) W3 hk3
        exact ⟨_, _, hr, .inr ⟨rfl, .goto t, hIx _ _ _ _ hi3 (below_put _ (by omega)), hl4, hk4⟩⟩
      | panic ch => exact hp.elim
      | outgrown => exact hp.elim
    · rintro e W2 ⟨⟨v, rfl⟩, (⟨hi, hl, hk⟩ | ⟨j, hj, c, hi, hl, hk⟩)⟩
      · exact ⟨none, _, by have := run_endLoop (P := P) hl (by rw [hrec]; simp); rw [hrec] at this; exact this, hdone _ _ (Nat.le_refl _) (hI _ _ _ hi (below_put _ (by omega))) ((World.putObj_heap_other (by omega)).trans hk)⟩
      · exact ⟨some c, _, by have := run_endLoop (P := P) hl (by rw [hrec]; simp); rw [hrec] at this; exact this, hstop _ c j _ (Nat.le_refl _) hj (hIx _ _ _ _ hi (below_put _ (by omega))) ((World.putObj_heap_other (by omega)).trans hk)⟩
end Go.Proofs.Ytkjmjgiklelpiaa.Rz
