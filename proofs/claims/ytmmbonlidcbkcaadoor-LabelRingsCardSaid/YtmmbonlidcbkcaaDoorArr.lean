/- Words for arrays that lie in blocks of their own, and for slices over them. -/
import Derived.Test.YtmmbonlidcbkcaaDoorRd
import Derived.Laws.CopyOwn
import Derived.Laws.Rows
import Derived.Laws.Tables
namespace Go.Proofs.YtmmbonlidcbkcaaDoor.Arr
open Go.RowKit Go.Proofs.YtmmbonlidcbkcaaDoorW.PrintWords Go.Proofs.YtmmbonlidcbkcaaDoor.Num Go.Proofs.YtmmbonlidcbkcaaDoor.WordC
set_option linter.unusedVariables false

/-- The cells that a slice of bytes reads. -/
theorem rd_cells {w : World} {A : Option Addr} {n c : Nat} {l : List Int} (h : Rd w A n c l) (hp : 0 < n) : ∃ ad, A = some ad ∧ ∀ j v, (nums .u8 l)[j]? = some v → w.cell? (ad.add j) = some v := by
  obtain ⟨ad, e, hc⟩ := (Kd.reads_of_C (enc := Value.int .u8) (d := (0 : Int)) (h1 := fun _ => rfl) h.cells).2.2 hp
  refine ⟨ad, e, fun j v hj => ?_⟩
  have hl := h.len
  have hjl : j < l.length := by
    have := (List.getElem?_eq_some_iff.1 hj).1
    simpa [nums_length] using this
  rw [hc j (by omega)]
  simp only [nums, List.getElem?_map, List.getElem?_eq_getElem hjl, Option.map_some, Option.some.injEq] at hj
  rw [← hj, List.getD_eq_getElem?_getD, List.getElem?_eq_getElem hjl]; rfl
/-- Block g is just these cells, of type t, none of them frozen. -/
abbrev Blk (w : World) (g t : Nat) (cs : List Value) : Prop := w.heap[g]? = some (.cells cs.toArray t (0, 0))
theorem Blk.lt {w : World} {g t : Nat} {cs : List Value} (h : Blk w g t cs) : g < w.heap.size := (Array.getElem?_eq_some_iff.1 h).1
theorem Blk.below {w w1 : World} {g t : Nat} {cs : List Value} (h : Blk w g t cs) (hb : Below w.heap.size w w1) : Blk w1 g t cs := (hb.block g (Blk.lt h)).trans h
theorem Blk.cell {w : World} {g t : Nat} {cs : List Value} (h : Blk w g t cs) (i : Nat) : w.cell? ⟨g, i, none⟩ = cs[i]? := by
  rw [cell_of_row w g i cs.toArray t (0, 0) h]; simp
theorem Blk.frozen {w : World} {g t : Nat} {cs : List Value} (h : Blk w g t cs) (i : Nat) : w.frozen? ⟨g, i, none⟩ = false := frozen_of_row w g i cs.toArray t h
theorem Blk.set_ {w : World} {g t : Nat} {cs : List Value} (h : Blk w g t cs) (i : Nat) (u : Value) : Blk (w.setCell ⟨g, i, none⟩ u) g t (cs.set i u) := by
  have := heap_setCell_same w g i cs.toArray t u h
  simpa using this
theorem Blk.far {w : World} {g t : Nat} {cs : List Value} (h : Blk w g t cs) {p : Addr} (hp : g ≠ p.block) (u : Value) : Blk (w.setCell p u) g t cs := (Below.heap_setCell w p u g hp).trans h
theorem Blk.alloc {w : World} {g t : Nat} {cs : List Value} (h : Blk w g t cs) (o : Obj) : Blk (w.alloc o) g t cs := (Below.heap_alloc w o g (Blk.lt h)).trans h
theorem nums_get (k : IntKind) (l : List Int) (i : Nat) (h : i < l.length) : (nums k l)[i]? = some (.int k (l.getD i 0)) := by
  simp [nums, List.getElem?_eq_getElem h, List.getD_eq_getElem?_getD]
theorem nums_set (k : IntKind) (l : List Int) (i : Nat) (x : Int) : (nums k l).set i (.int k x) = nums k (l.set i x) := by simp [nums, List.map_set]
theorem nums_one (k : IntKind) (l : List Int) : ∀ v ∈ nums k l, v.oneCell' = true := by
  intro v hv
  obtain ⟨x, _, rfl⟩ := List.mem_map.1 hv
  rfl
/-- Bytes in the middle of a block, read as a slice. -/
theorem rd_of_blk {w : World} {g t : Nat} {cs : List Value} (h : Blk w g t cs) (off : Nat) (l : List Int) (c : Nat) (hc : l.length ≤ c) (hm : l.length ≤ 9223372036854775807)
    (hl : ∀ j, j < l.length → cs[off + j]? = some (.int .u8 (l.getD j 0))) : Rd w (some ⟨g, off, none⟩) l.length c l := by
  refine ⟨rfl, hc, Kd.C_of_reads (enc := Value.int .u8) (d := (0 : Int)) (h1 := fun _ => rfl) ⟨rfl, hm, fun hp => ⟨_, rfl, fun j hj => ?_⟩⟩⟩
  have e : (⟨g, off, none⟩ : Addr).add j = ⟨g, off + j, none⟩ := by
    unfold Addr.add; split <;> simp_all
  rw [e, Blk.cell h, hl j hj]
/-- A copy into a block: only that block has changed. -/
theorem step_copy_blk {P : Program} {ops : Array Oper} {o : Oper} {a : Act} {w : World} {K : Act → World → Prop} {Q : Exit → Act → World → Prop} {E : Prop} (hgd : o.guard = none) (d s : Operand) (dT sT : TypeId)
    (ho : o.op = .call { callee := .builtin .copy, args := #[d, s], argTypes := #[dT, sT] }) (elem : TypeId) (hu : P.underlying dT = some (.slice elem)) (hsz : (P.info? elem).map (·.size) = some 1)
    (g off dLen dCap : Nat) (sp : Option Addr) (sLen sCap : Nat) (hd : a.eval d = .slice (some ⟨g, off, none⟩) dLen dCap) (hs : a.eval s = .slice sp sLen sCap)
    (cur : List Value) (t : Nat) (hg : Blk w g t cur) (l : List Int) (hr : Rd w sp sLen sCap l) (hn : sLen ≤ dLen) (hfit : off + sLen ≤ cur.length)
    (h : ∀ w', Blk w' g t (cur.take off ++ nums .u8 l ++ cur.drop (off + sLen)) → w.grownBy w' (some g) → K (a.put o.dst (.int .i64 sLen)) w') :
    if Region.wanted o (yielded ops a.tmps) = true then Oper.wp P o a w K Q else E := by
  have hw : Region.wanted o (yielded ops a.tmps) = true := by simp [Region.wanted, hgd]
  rw [if_pos hw]
  have hl := hr.len
  have hn' : (nums .u8 l).length = Nat.min sLen dLen := by
    rw [nums_length, hl]; exact (Nat.min_eq_left hn).symm
  rcases Nat.eq_zero_or_pos sLen with h0 | hp
  · have hrun := run_copy_none (P := P) w dT sT o.type elem (some ⟨g, off, none⟩) sp dLen dCap sLen sCap hu hsz (by rw [h0]; simp)
    unfold Oper.wp
    simp [execOp, ho, resolve, invoke, builtin, hd, hs, hrun, Result.andThen]
    have hlz : l = [] := List.eq_nil_of_length_eq_zero (by omega)
    have := h w (by rw [hlz, h0]; simpa [nums] using hg) (World.grownBy.refl w _)
    rw [h0] at this
    exact this
  · obtain ⟨ad, rfl, hsrc⟩ := rd_cells hr hp
    have hrun := run_copy_row (P := P) w dT sT o.type elem g off dLen dCap ad sLen sCap cur.toArray t (nums .u8 l) hu hsz hg hn' hsrc (by rw [nums_length, hl]; simpa using hfit) (nums_one _ _)
    unfold Oper.wp
    simp [execOp, ho, resolve, invoke, builtin, hd, hs, hrun, Result.andThen]
    have h1 := h (w.setRow g (cur.take off ++ nums .u8 l ++ cur.drop (off + sLen)).toArray) (setRow_heap w g _ _ t _ hg)
      ⟨rfl, rfl, rfl, by simp [World.setRow], fun k hk hne => setRow_other w g k _ (fun e => hne (by rw [e]))⟩
    simp only [nums_length, hl, goInt]
    simp only [List.append_assoc] at h1 ⊢
    exact h1
theorem rd_take {w : World} {A : Option Addr} {n c : Nat} {l : List Int} (h : Rd w A n c l) {m : Nat} (hm : m ≤ n) : Rd w A m c (l.take m) := by
  obtain ⟨rfl, hc, hC⟩ := h
  have := Kd.C_take hC hm
  have hl : (l.take m).length = m := by simp; omega
  rw [hl] at this
  exact ⟨hl, by omega, this⟩
theorem rd_drop {w : World} {A : Option Addr} {n c : Nat} {l : List Int} (h : Rd w A n c l) {m : Nat} (hm : m ≤ n) : Rd w (if c = m then A else A.map (·.add (m * 1))) (n - m) (c - m) (l.drop m) := by
  obtain ⟨rfl, hc, hC⟩ := h
  have := Kd.C_drop hC hm hc
  have hl : (l.drop m).length = l.length - m := by simp
  rw [hl] at this
  exact ⟨hl, by omega, this⟩
theorem infoX : ∃ i, Tryd.prog.info? 5 = some i ∧ i.size = 1 := by
  obtain ⟨i, h, hz⟩ := Option.map_eq_some_iff.1 (show (Tryd.prog.info? 5).map (·.size) = some 1 by kernel_rfl)
  exact ⟨i, h, hz⟩
/-- b[lo:hi] -/
theorem rd_slice {w : World} {A : Option Addr} {n c : Nat} {l : List Int} (h : Rd w A n c l) (lo hi : Nat) {x y : Int} (hx : x = lo) (hy : y = hi) (h1 : lo ≤ hi) (h2 : hi ≤ n) :
    ∃ A' c', (∀ W : World, (Instr.slice 22 (.slice A n c) (some (.int .i64 x)) (some (.int .i64 y)) none).run Tryd.prog W = .ok (.slice A' (hi - lo) c') W) ∧ Rd w A' (hi - lo) c' ((l.take hi).drop lo) := by
  subst hx hy
  obtain ⟨i, hi0, hsz⟩ := infoX
  have hcut := cut_mid (P := Tryd.prog) 22 5 .i64 .i64 Tryd.underlying22 hi0 1 hsz A n c (lo : Int) (hi : Int) (by omega) (by omega) (by omega) h.cap
  simp only [Int.toNat_natCast] at hcut
  exact ⟨_, _, hcut, rd_drop (rd_take h h2) h1⟩
/-- b[:hi] -/
theorem rd_slice_to {w : World} {A : Option Addr} {n c : Nat} {l : List Int} (h : Rd w A n c l) (hi : Nat) {y : Int} (hy : y = hi) (h2 : hi ≤ n) :
    (∀ W : World, (Instr.slice 22 (.slice A n c) none (some (.int .i64 y)) none).run Tryd.prog W = .ok (.slice A hi c) W) ∧ Rd w A hi c (l.take hi) := by
  subst hy
  obtain ⟨i, hi0, hsz⟩ := infoX
  have hcut := cut_to (P := Tryd.prog) 22 5 .i64 Tryd.underlying22 hi0 A n c (hi : Int) (by omega) (by omega) h.cap
  simp only [Int.toNat_natCast] at hcut
  exact ⟨hcut, rd_take h h2⟩
/-- b[lo:] -/
theorem rd_slice_from {w : World} {A : Option Addr} {n c : Nat} {l : List Int} (h : Rd w A n c l) (lo : Nat) {x : Int} (hx : x = lo) (h2 : lo ≤ n) :
    ∃ A' c', (∀ W : World, (Instr.slice 22 (.slice A n c) (some (.int .i64 x)) none none).run Tryd.prog W = .ok (.slice A' (n - lo) c') W) ∧ Rd w A' (n - lo) c' (l.drop lo) := by
  subst hx
  obtain ⟨i, hi0, hsz⟩ := infoX
  have hcut := cut_from (P := Tryd.prog) 22 5 .i64 Tryd.underlying22 hi0 1 hsz A n c (lo : Int) (by omega) (by omega)
  simp only [Int.toNat_natCast] at hcut
  exact ⟨_, _, hcut, rd_drop h h2⟩
theorem size_nums (k : IntKind) (l : List Int) : (nums k l).toArray.size = l.length := by simp [nums]
theorem all_nums (k : IntKind) (l : List Int) : (nums k l).toArray.all (·.oneCell') = true :=
  Array.all_eq_true_iff_forall_mem.2 (fun v hv => nums_one k l v (by simpa using hv))
/-- A whole array of numbers read out of its block, and laid into another. -/
theorem load_arr {P : Program} {ops : Array Oper} {rest : List Oper} {o : Oper} {a : Act} {w : World} {Q : Exit → Act → World → Prop} (hgd : o.guard = none) (ty : TypeId) (x : Operand) (ho : o.op = .load ty x)
    (g : Nat) (hx : a.eval x = .pointer (some ⟨g, 0, none⟩)) (t : TypeId) (k : IntKind) (l : List Int) (n e : Nat) (hg : Blk w g t (nums k l))
    (hu : P.underlying ty = some (.array n e)) (hi : (P.info? ty).map (·.size) = some n) (hl : l.length = n)
    (h : wpList P ops Q rest (a.put o.dst (.agg (nums k l).toArray)) w) : wpList P ops Q (o :: rest) a w :=
  wpList_load_row hgd ty x ho g hx t _ (0, 0) _ hg hu rfl (by rw [size_nums, hl]; exact hi) h
theorem store_arr {P : Program} {ops : Array Oper} {rest : List Oper} {o : Oper} {a : Act} {w : World} {Q : Exit → Act → World → Prop} (hgd : o.guard = none) (ty : TypeId) (x y : Operand) (ho : o.op = .store ty x y)
    (g : Nat) (k : IntKind) (l : List Int) (hx : a.eval x = .pointer (some ⟨g, 0, none⟩)) (hy : a.eval y = .agg (nums k l).toArray)
    (t n : Nat) (old : List Value) (hg : Blk w g t old) (hi : (P.info? ty).map (·.size) = some n) (hl : l.length = n) (hold : old.length = n)
    (h : ∀ w', Blk w' g t (nums k l) → w.grownBy w' (some g) → wpList P ops Q rest (a.put o.dst undef) w') : wpList P ops Q (o :: rest) a w :=
  wpList_store_row hgd ty x y ho g _ hx hy t old.toArray hg (by rw [size_nums, hl]; exact hi) (by rw [size_nums, hl]; simpa using hold) (all_nums k l)
    (h _ (setRow_heap w g _ _ t _ hg) ⟨rfl, rfl, rfl, by simp [World.setRow], fun j hj hne => setRow_other w g j _ (fun e => hne (by rw [e]))⟩)
theorem results_arr {P : Program} {fn : Func} {p : Tmp} {ty : TypeId} (h : fn.results = #[.cell p ty]) (tmps : Array Value) (w : World) (g t n e : Nat) (k : IntKind) (l : List Int)
    (hp : tmps.getD p undef = .pointer (some ⟨g, 0, none⟩)) (hg : Blk w g t (nums k l)) (hu : P.underlying ty = some (.array n e)) (hi : (P.info? ty).map (·.size) = some n) (hl : l.length = n) :
    (results fn tmps).run P w = .ok (.agg (nums k l).toArray) w :=
  results_cell_row h tmps w g t _ (0, 0) _ hp hg hu rfl (by rw [size_nums, hl]; exact hi)
end Go.Proofs.YtmmbonlidcbkcaaDoor.Arr
