/- The digest's State in memory: its words, what is left over, how many bytes in all; what a call that adds to it does to the world. -/
import Derived.Test.YtmmbonlidcbkcaaDoorDgBlock
namespace Go.Proofs.YtmmbonlidcbkcaaDoor.DgState
open Go.RowKit Go.Proofs.YtmmbonlidcbkcaaDoorW.PrintWords Go.Proofs.YtmmbonlidcbkcaaDoor.Num Go.Proofs.YtmmbonlidcbkcaaDoor.Sha Go.Proofs.YtmmbonlidcbkcaaDoor.WordC Go.Proofs.YtmmbonlidcbkcaaDoor.Arr Go.Proofs.YtmmbonlidcbkcaaDoor.App Go.Proofs.YtmmbonlidcbkcaaDoor.DgC Go.Proofs.YtmmbonlidcbkcaaDoor.DgWords Go.Proofs.YtmmbonlidcbkcaaDoor.DgBlock
set_option linter.unusedVariables false
set_option linter.unusedSimpArgs false

/-- Bytes of one's own that may begin inside their block. -/
abbrev Qw (w : World) (base : Nat) (v : Value) (xs : List Int) : Prop := QRow w base 5 1 v xs.length (nums .u8 xs)
theorem Qw.rd {w : World} {base : Nat} {v : Value} {xs : List Int} (h : Qw w base v xs) : ∃ A c, v = .slice A xs.length c ∧ Rd w A xs.length c xs := by
  obtain ⟨A, c, rfl, hc⟩ := q_slice h
  refine ⟨A, c, rfl, rfl, hc, Kd.C_of_reads (d := (0 : Int)) (h1 := fun _ => rfl) ⟨rfl, q_max h, fun hp => ?_⟩⟩
  obtain ⟨ad, rfl, hcell⟩ := q_cells h hp
  exact ⟨ad, rfl, fun j hj => hcell j _ (nums_get .u8 xs j hj)⟩
theorem Qw.below {w w1 : World} {base : Nat} {v : Value} {xs : List Int} (h : Qw w base v xs) (hb : Below w.heap.size w w1) : Qw w1 base v xs := q_move h (fun k hk => hb.block k (q_lt h k hk))
theorem Qw.nil (w : World) (base : Nat) : Qw w base (.slice none 0 0) [] := q_of_own (own_nil w base 5 1)
theorem Qw.of_ow {w : World} {base : Nat} {v : Value} {xs : List Int} (h : Ow w base v xs) : Qw w base v xs := q_of_own (Kd.own_of_R h)
theorem Qw.far {w : World} {base g : Nat} {v : Value} {xs : List Int} (h : Qw w base v xs) {t : Nat} {cs : List Value} (hg : Blk w g t cs) (ht : t ≠ 5) (i : Nat) (u : Value) : Qw (w.setCell ⟨g, i, none⟩ u) base v xs :=
  q_move h (fun k hk => Below.heap_setCell w _ u k (by
    rintro rfl
    obtain ⟨_, cells, hc⟩ := q_typed h _ hk
    have hg' := hc.symm.trans hg
    injection hg' with hg'; injection hg' with _ hg'
    exact ht hg'.symm))
theorem Qw.keep {w w1 : World} {base g : Nat} {v : Value} {xs : List Int} (h : Qw w base v xs) {t : Nat} {cs : List Value} (hg : Blk w g t cs) (ht : t ≠ 5) (hk : KeepBut w w1 g none) : Qw w1 base v xs :=
  q_move h (fun k hv => hk.2 k (q_lt h k hv) (by
    rintro rfl
    obtain ⟨_, cells, hc⟩ := q_typed h _ hv
    have hg' := hc.symm.trans hg
    injection hg' with hg'; injection hg' with _ hg'
    exact ht hg'.symm) (by simp))
theorem Qw.ne {w : World} {base g : Nat} {v : Value} {xs : List Int} (h : Qw w base v xs) {t : Nat} {cs : List Value} (hg : Blk w g t cs) (ht : t ≠ 5) : some g ≠ v.ownBlock := by
  intro he
  obtain ⟨_, cells, hc⟩ := q_typed h g he.symm
  have hg' := hc.symm.trans hg
  injection hg' with hg'; injection hg' with _ hg'
  exact ht hg'.symm
theorem Qw.drop {w : World} {base : Nat} {A : Option Addr} {n c : Nat} {xs : List Int} (h : Qw w base (.slice A n c) xs) (k : Nat) (hk : k ≤ xs.length) (hn : n = xs.length) :
    Qw w base (.slice (if c = k then A else A.map (·.add (k * 1))) (n - k) (c - k)) (xs.drop k) := by
  subst hn
  have := q_drop h hk
  unfold Qw
  rw [List.length_drop]
  have e : nums .u8 (xs.drop k) = (nums .u8 xs).drop (k * 1) := by simp [nums]
  rw [e]; exact this
/-- A slice of bytes lies in no block that has no byte. -/
theorem rd_apart {w : World} {A : Option Addr} {n c g t : Nat} {l : List Int} {cs : List Value} (h : Rd w A n c l) (hg : Blk w g t cs) (hno : ∀ (i : Nat) (x : Int), cs[i]? ≠ some (Value.int .u8 x)) : ∀ ad, A = some ad → 0 < n → ad.block ≠ g := by
  rintro ad rfl hp rfl
  obtain ⟨ad', e, hc⟩ := rd_cells h hp
  injection e with e
  subst e
  have hl := h.len
  have h0 := hc 0 _ (nums_get .u8 l 0 (by omega))
  have e0 : ad.add 0 = ad := by simp [Addr.add]
  rw [e0] at h0
  have hg' : w.heap[ad.block]? = some (.cells cs.toArray t (0, 0)) := hg
  simp only [World.cell?, hg'] at h0
  split at h0
  · cases h0
  · exact hno ad.off _ (by simpa using h0)
theorem rd_far {w : World} {A : Option Addr} {n c g t : Nat} {l : List Int} {cs : List Value} (h : Rd w A n c l) (hg : Blk w g t cs) (hno : ∀ (i : Nat) (x : Int), cs[i]? ≠ some (Value.int .u8 x)) (i : Nat) (u : Value) : Rd (w.setCell ⟨g, i, none⟩ u) A n c l :=
  ⟨h.len, h.cap, Kd.C_foot_ne (fun h => h) h.cells (rd_apart h hg hno) _ ((KeepBut.refl w g none).set_ i u)⟩
theorem Qw.rd' {w : World} {base : Nat} {A : Option Addr} {n c : Nat} {xs : List Int} (h : Qw w base (.slice A n c) xs) : Rd w A n c xs := by
  obtain ⟨A', c', e, hr⟩ := h.rd
  injection e with e1 e2 e3
  subst e1 e2 e3
  exact hr
/-- xs[k:], of a row of one's own -/
theorem qw_cut {w : World} {base : Nat} {A : Option Addr} {n c : Nat} {xs : List Int} (h : Qw w base (.slice A n c) xs) (k : Nat) {x : Int} (hx : x = k) (hk : k ≤ n) :
    ∃ A' c', (∀ W : World, (Instr.slice 22 (.slice A n c) (some (.int .i64 x)) none none).run Tryd.prog W = .ok (.slice A' (n - k) c') W) ∧ (∀ W : World, Qw W base (.slice A n c) xs → Qw W base (.slice A' (n - k) c') (xs.drop k)) ∧ (Value.slice A' (n - k) c').ownBlock = (Value.slice A n c).ownBlock := by
  subst hx
  have hr := Qw.rd' h
  obtain ⟨i, hi0, hsz⟩ := infoX
  have hcut := cut_from (P := Tryd.prog) 22 5 .i64 Tryd.underlying22 hi0 1 hsz A n c (k : Int) (by omega) (by omega)
  simp only [Int.toNat_natCast] at hcut
  refine ⟨_, _, hcut, fun W hW => Qw.drop hW k (by have := hr.len; omega) hr.len.symm, ?_⟩
  cases A with
  | none => split <;> rfl
  | some a => split <;> simp [Value.ownBlock, Addr.add] <;> split <;> rfl
theorem append_qw {ops : Array Oper} {rest : List Oper} {o : Oper} {a : Act} {Q : Exit → Act → World → Prop} {W : World} (base : Nat) (hgd : o.guard = none) (s x : Operand)
    (ho : o.op = .call { callee := .builtin .append, args := #[s, x], argTypes := #[22, 22] })
    (v : Value) (xs ys : List Int) (A : Option Addr) (m c : Nat) (hs : a.eval s = v) (hx : a.eval x = .slice A m c)
    (HO : Qw W base v xs) (HR : Rd W A m c ys) (hbase : base ≤ W.heap.size) (hl : xs.length + m ≤ 140737488355328)
    (h : ∀ v1 w1, Qw w1 base v1 (xs ++ ys) → W.grownBy w1 v.ownBlock → (v1.ownBlock = v.ownBlock ∨ ∃ b, v1.ownBlock = some b ∧ W.heap.size ≤ b) → wpList Tryd.prog ops Q rest (a.put o.dst v1) w1) :
    wpList Tryd.prog ops Q (o :: rest) a W := by
  obtain ⟨i0, hi, hzz⟩ := Option.map_eq_some_iff.1 infoB
  simp only [Prod.mk.injEq] at hzz
  obtain ⟨hz0, hz1, hz2⟩ := hzz
  have hm : ys.length = m := HR.len
  have hrun : ∃ v1 w1, (Builtin.append_ #[22, 22] o.type #[v, .slice A m c]).run Tryd.prog W = .ok v1 w1 ∧ Qw w1 base v1 (xs ++ ys) ∧ W.grownBy w1 v.ownBlock ∧ (v1.ownBlock = v.ownBlock ∨ ∃ b, v1.ownBlock = some b ∧ W.heap.size ≤ b) := by
    rcases Nat.eq_zero_or_pos m with h0 | hp
    · have hy : ys = [] := List.eq_nil_of_length_eq_zero (by omega)
      subst hy
      refine ⟨v, W, ?_, by rw [List.append_nil]; exact HO, World.grownBy.refl W _, .inl rfl⟩
      rw [h0]
      rcases HO.2 with ⟨hn, A', rfl, _⟩ | ⟨g, off, cap, cur, rfl, _, _, hnc, _⟩
      · cases A <;> cases A' <;> simp [Builtin.append_, run_underlying Tryd.underlying22, sizeOf, typeInfo, hi, Builtin.lenOf, Builtin.firstCells, loadCells, loadCellsFrom, storeCells, hn]
      · cases A <;> simp [Builtin.append_, run_underlying Tryd.underlying22, sizeOf, typeInfo, hi, Builtin.lenOf, Builtin.firstCells, hnc, loadCells, loadCellsFrom, storeCells]
    · obtain ⟨ad, rfl, hc⟩ := rd_cells HR hp
      obtain ⟨v1, w1, h1, h2, h3, h4⟩ := q_append (P := Tryd.prog) W base 22 o.type 5 i0 (.int .u8 0) 1 1 Tryd.underlying22 hi hz0 hz1 hz2 rfl (by decide) v xs.length (nums .u8 xs) HO ad m c (nums .u8 ys) (by rw [nums_length, hm, Nat.mul_one]) hc (nums_one _ _) hp (by simp only [maxLen]; omega) (by omega) hbase
      refine ⟨v1, w1, h1, ?_, h3, h4⟩
      unfold Qw
      rw [List.length_append, nums_append, hm]
      exact h2
  obtain ⟨v1, w1, hr, h2, h3, h4⟩ := hrun
  refine wpList_plain hgd fun K hK => ?_
  unfold Oper.wp execOp
  simp only [ho, resolve, invoke, builtin, Sem.run_bind, Sem.run_pure, Result.andThen_ok, List.map_toArray, List.map_cons, List.map_nil, hs, hx, hr]
  exact hK _ _ (h v1 w1 h2 h3 h4)

theorem blk_grow {w w' : World} {g t : Nat} {row : Option Nat} {cs : List Value} (h : Blk w g t cs) (hg : w.grownBy w' row) (hne : some g ≠ row) : Blk w' g t cs := (hg.block g (Blk.lt h) hne).trans h
/-- What became of the world: of the elder blocks just two were written. -/
structure Fr (w w' : World) (g : Nat) (row : Option Nat) : Prop where
  os : w'.os = w.os
  tape : w'.tape = w.tape
  output : w'.output = w.output
  size : w.heap.size ≤ w'.heap.size
  block : ∀ k, k < w.heap.size → k ≠ g → some k ≠ row → w'.heap[k]? = w.heap[k]?
theorem Fr.refl (w : World) (g : Nat) (row : Option Nat) : Fr w w g row := ⟨rfl, rfl, rfl, Nat.le_refl _, fun _ _ _ _ => rfl⟩
theorem Fr.of_below {w w' : World} (h : Below w.heap.size w w') (g : Nat) (row : Option Nat) : Fr w w' g row := ⟨h.os, h.tape, h.output, h.size, fun k hk _ _ => h.block k hk⟩
theorem Fr.trans {w w1 w2 : World} {g : Nat} {row row1 : Option Nat} (h : Fr w w1 g row) (k : Fr w1 w2 g row1) (hr : row1 = row ∨ ∃ b, row1 = some b ∧ w.heap.size ≤ b) : Fr w w2 g row :=
  ⟨k.os.trans h.os, k.tape.trans h.tape, k.output.trans h.output, Nat.le_trans h.size k.size, fun i hi hg hne => (k.block i (Nat.lt_of_lt_of_le hi h.size) hg (by
    rcases hr with e | ⟨b, e, hb⟩
    · rw [e]; exact hne
    · rw [e]; intro e'; injection e' with e'; omega)).trans (h.block i hi hg hne)⟩
theorem Fr.next {w w1 w2 : World} {g : Nat} {row : Option Nat} (h : Fr w w1 g row) (k : Below w1.heap.size w1 w2) : Fr w w2 g row := h.trans (Fr.of_below k g row) (.inl rfl)
theorem Fr.setCell {w w1 : World} {g : Nat} {row : Option Nat} (h : Fr w w1 g row) (i : Nat) (u : Value) : Fr w (w1.setCell ⟨g, i, none⟩ u) g row :=
  ⟨h.os, h.tape, h.output, by simpa [World.setCell] using h.size, fun k hk hg hne => (Below.heap_setCell w1 _ u k hg).trans (h.block k hk hg hne)⟩
theorem Fr.grown {w w1 w2 : World} {g : Nat} {row row1 : Option Nat} (h : Fr w w1 g row) (k : w1.grownBy w2 row1) (hr : row1 = row ∨ ∃ b, row1 = some b ∧ w.heap.size ≤ b) : Fr w w2 g row :=
  h.trans ⟨k.os, k.tape, k.output, k.size, fun i hi _ hne => k.block i hi hne⟩ hr
theorem Fr.drewN {w w1 : World} {g : Nat} {row : Option Nat} (h : Fr w w1 g row) (n : Nat) : Fr w (w1.drewN n) g row := ⟨h.os, h.tape, h.output, h.size, h.block⟩
theorem Fr.drew {w w1 : World} {g : Nat} {row : Option Nat} (h : Fr w w1 g row) : Fr w w1.drew g row := ⟨h.os, h.tape, h.output, h.size, h.block⟩
theorem Fr.below {w0 w w1 : World} {g B : Nat} {row : Option Nat} (h : Fr w w1 g row) (hb : Below B w0 w) (hB : B ≤ w.heap.size) (hg : B ≤ g) (hr : ∀ k, row = some k → B ≤ k) : Below B w0 w1 :=
  ⟨h.os.trans hb.os, h.tape.trans hb.tape, h.output.trans hb.output, Nat.le_trans hb.size h.size, fun k hk => (h.block k (by omega) (by omega) (by intro e; have := hr k e.symm; omega)).trans (hb.block k hk)⟩

/-- A State to which bytes b were added: it lies in block g, its tail is v. -/
structure St (w : World) (base g : Nat) (v : Value) (b : List Int) : Prop where
  ge : base ≤ g
  isB : IsB b
  blk : Blk w g 91 (nums .u32 (goneS b).list ++ [v, .int .u64 b.length])
  tail : Qw w base v (restS b)
theorem St.lt {w : World} {base g : Nat} {v : Value} {b : List Int} (h : St w base g v b) : g < w.heap.size := Blk.lt h.blk
theorem St.row_ge {w : World} {base g : Nat} {v : Value} {b : List Int} (h : St w base g v b) : ∀ k, v.ownBlock = some k → base ≤ k := fun k hk => (q_typed h.tail k hk).1
theorem St.row_lt {w : World} {base g : Nat} {v : Value} {b : List Int} (h : St w base g v b) : ∀ k, v.ownBlock = some k → k < w.heap.size := fun k hk => q_lt h.tail k hk
theorem St.row_ne {w : World} {base g : Nat} {v : Value} {b : List Int} (h : St w base g v b) : some g ≠ v.ownBlock := Qw.ne h.tail h.blk (by decide)
theorem St.below {w w1 : World} {base g : Nat} {v : Value} {b : List Int} (h : St w base g v b) (hb : Below w.heap.size w w1) : St w1 base g v b := ⟨h.ge, h.isB, Blk.below h.blk hb, h.tail.below hb⟩
theorem St.lower {w : World} {base base' g : Nat} {v : Value} {b : List Int} (h : St w base g v b) (hb : base' ≤ base) : St w base' g v b := ⟨Nat.le_trans hb h.ge, h.isB, h.blk, q_lower h.tail hb⟩
/-- Another state was written: this one lives on. -/
theorem St.fr {w w1 : World} {base g g' : Nat} {v : Value} {row : Option Nat} {b : List Int} (h : St w base g v b) (hf : Fr w w1 g' row) (h1 : g ≠ g') (h2 : some g ≠ row) (h3 : some g' ≠ v.ownBlock) (h4 : v.ownBlock = none ∨ v.ownBlock ≠ row) : St w1 base g v b :=
  ⟨h.ge, h.isB, (hf.block g h.lt h1 h2).trans h.blk, q_move h.tail (fun k hk => hf.block k (h.row_lt k hk) (by intro e; exact h3 (by rw [hk, e])) (by
    rcases h4 with e | e
    · rw [e] at hk; cases hk
    · rw [← hk]; exact e))⟩
theorem st_no8 (s : H8) (v : Value) (m : Int) (hv : ∀ x : Int, v ≠ Value.int .u8 x) : ∀ (i : Nat) (x : Int), (nums .u32 s.list ++ [v, .int .u64 m])[i]? ≠ some (Value.int .u8 x) := by
  intro i x h
  have hm := List.mem_of_getElem? h
  simp [nums, H8.list] at hm
  exact hv x hm.symm
theorem nums8 (s : H8) : nums .u32 s.list = [.int .u32 s.a, .int .u32 s.b, .int .u32 s.c, .int .u32 s.d, .int .u32 s.e, .int .u32 s.f, .int .u32 s.g, .int .u32 s.h] := rfl
/-- Eight words are put into a block whose first cells they are. -/
theorem blk_put8 {w : World} {g t : Nat} {s : H8} {rest : List Value} (h : Blk w g t (nums .u32 s.list ++ rest)) (b1 b2 b3 b4 b5 b6 b7 b8 : Int) :
    Blk ((((((((w.setCell ⟨g, 0, none⟩ (.int .u32 b1)).setCell ⟨g, 1, none⟩ (.int .u32 b2)).setCell ⟨g, 2, none⟩ (.int .u32 b3)).setCell ⟨g, 3, none⟩ (.int .u32 b4)).setCell ⟨g, 4, none⟩ (.int .u32 b5)).setCell ⟨g, 5, none⟩ (.int .u32 b6)).setCell ⟨g, 6, none⟩ (.int .u32 b7)).setCell ⟨g, 7, none⟩ (.int .u32 b8)) g t (nums .u32 (H8.list ⟨b1, b2, b3, b4, b5, b6, b7, b8⟩) ++ rest) :=
  Blk.set_ (Blk.set_ (Blk.set_ (Blk.set_ (Blk.set_ (Blk.set_ (Blk.set_ (Blk.set_ h 0 (.int .u32 b1)) 1 (.int .u32 b2)) 2 (.int .u32 b3)) 3 (.int .u32 b4)) 4 (.int .u32 b5)) 5 (.int .u32 b6)) 6 (.int .u32 b7)) 7 (.int .u32 b8)
theorem Tb.fr {w w1 : World} {g : Nat} {row : Option Nat} (h : Tb w) (hf : Fr w w1 g row) (hg : 0 < g) (hr : ∀ k, row = some k → 0 < k) : Tb w1 := by
  have hl := h.lt
  obtain ⟨t, fr, h⟩ := h
  exact ⟨t, fr, (hf.block 0 hl (by omega) (by intro e; have := hr 0 e.symm; omega)).trans h⟩
theorem block8 {A : Option Addr} {c : Nat} {l : List Int} {a1 a2 a3 a4 a5 a6 a7 a8 : Int} {w : World} (hs : H8.ok ⟨a1, a2, a3, a4, a5, a6, a7, a8⟩) (hr : Rd w A 64 c l) (hb : IsB l) (ht : Tb w) :
    Calls Tryd.prog 69 #[.agg #[.int .u32 a1, .int .u32 a2, .int .u32 a3, .int .u32 a4, .int .u32 a5, .int .u32 a6, .int .u32 a7, .int .u32 a8], .slice A 64 c] w fun e w' =>
      ∃ b1 b2 b3 b4 b5 b6 b7 b8 : Int, Aside0 (blockS ⟨a1, a2, a3, a4, a5, a6, a7, a8⟩ l = ⟨b1, b2, b3, b4, b5, b6, b7, b8⟩) ∧ e = .returned (.agg #[.int .u32 b1, .int .u32 b2, .int .u32 b3, .int .u32 b4, .int .u32 b5, .int .u32 b6, .int .u32 b7, .int .u32 b8]) ∧ Below w.heap.size w w' := by
  refine (block_c (s := ⟨a1, a2, a3, a4, a5, a6, a7, a8⟩) hs hr hb ht).mono ?_
  rintro e w' ⟨rfl, hB⟩
  exact ⟨_, _, _, _, _, _, _, _, ⟨rfl⟩, rfl, hB⟩
end Go.Proofs.YtmmbonlidcbkcaaDoor.DgState
