/- Merged out of OtS, OtU, OtX, OtD, OtE, OtF, OtG, OtH, OtI, OtJ. -/
import Derived.Test.YtkjmjgiklelpiaaApp
import Derived.Test.YtkjmjgiklelpiaaQuart
import Derived.Test.YtkjmjgiklelpiaaPlainCipherBlocks
import Derived.Deep.RegionHeld3
import Derived.Deep.Cut
import Derived.Deep.CutRange
import Derived.Test.YtkjmjgiklelpiaaOtMa
import Derived.Deep.MidRow
import Derived.Deep.Matrix
import Derived.Test.YtkjmjgiklelpiaaOtRef
import Derived.Test.YtkjmjgiklelpiaaOtRef2
import Derived.Test.YtkjmjgiklelpiaaWMore
/- onetime: an Adder's state. -/
namespace Go.Proofs.Ytkjmjgiklelpiaa.OtS
open Go.RowKit Go.Proofs.YtkjmjgiklelpiaaW.PrintWords Go.Proofs.Ytkjmjgiklelpiaa.Num Go.Proofs.Ytkjmjgiklelpiaa.WordC Go.Proofs.Ytkjmjgiklelpiaa.Arr Go.Proofs.Ytkjmjgiklelpiaa.App Go.Proofs.Ytkjmjgiklelpiaa.CiC Go.Proofs.Ytkjmjgiklelpiaa.CiD Go.Proofs.Ytkjmjgiklelpiaa.OtC Go.Proofs.Ytkjmjgiklelpiaa.OtR Go.Proofs.Ytkjmjgiklelpiaa.OtL Go.Proofs.Ytkjmjgiklelpiaa.OtM Go.Proofs.Ytkjmjgiklelpiaa.OtT Go.Proofs.Ytkjmjgiklelpiaa.OtV Go.Proofs.Ytkjmjgiklelpiaa.OtK Go.Proofs.Ytkjmjgiklelpiaa.OtN Go.Proofs.Ytkjmjgiklelpiaa.OtO Go.Proofs.Ytkjmjgiklelpiaa.OtP Go.Proofs.Ytkjmjgiklelpiaa.OtQ
set_option linter.unusedVariables false
set_option linter.unusedSimpArgs false

/-- Bytes of one's own that may begin inside their block. -/
abbrev Qw (w : World) (base : Nat) (v : Value) (xs : List Int) : Prop := QRow w base 5 1 v xs.length (nums .u8 xs)
theorem Qw.rd {w : World} {base : Nat} {v : Value} {xs : List Int} (h : Qw w base v xs) : ∃ A c, v = .slice A xs.length c ∧ Rd w A xs.length c xs := by
  obtain ⟨A, c, rfl, hc⟩ := q_slice h
  refine ⟨A, c, rfl, rfl, hc, Kd.C_of_reads (d := (0 : Int)) (h1 := fun _ => rfl) ⟨rfl, q_max h, fun hp => ?_⟩⟩
  obtain ⟨ad, rfl, hcell⟩ := q_cells h hp
  exact ⟨ad, rfl, fun j hj => hcell j _ (nums_get .u8 xs j hj)⟩
theorem Qw.below {w w1 : World} {base : Nat} {v : Value} {xs : List Int} (h : Qw w base v xs) (hb : Below w.heap.size w w1) : Qw w1 base v xs := q_move h (fun k hk => hb.block k (q_lt h k hk))
theorem Qw.nil (w : World) (base : Nat) : Qw w base (.slice none 0 0) [] := q_of_own (own_nil w base 5 1)
theorem Qw.of_ow {w : World} {base : Nat} {v : Value} {xs : List Int} (h : Ow w base v xs) : Qw w base v xs := q_of_own (Kd.own_of_R h)
theorem Qw.far {w : World} {base g : Nat} {v : Value} {xs : List Int} (h : Qw w base v xs) {t : Nat} {cs : List Value} (hg : Blk w g t cs) (ht : t ≠ 5) (i : Nat) (u : Value) : Qw (w.setCell ⟨g, i, none⟩ u) base v xs :=
  q_move h (fun k hk => Below.heap_setCell w _ u k (by
    rintro rfl
    obtain ⟨_, cells, hc⟩ := q_typed h _ hk
    have hg' := hc.symm.trans hg
    injection hg' with hg'; injection hg' with _ hg'
    exact ht hg'.symm))
theorem Qw.keep {w w1 : World} {base g : Nat} {v : Value} {xs : List Int} (h : Qw w base v xs) {t : Nat} {cs : List Value} (hg : Blk w g t cs) (ht : t ≠ 5) (hk : KeepBut w w1 g none) : Qw w1 base v xs :=
  q_move h (fun k hv => hk.2 k (q_lt h k hv) (by
    rintro rfl
    obtain ⟨_, cells, hc⟩ := q_typed h _ hv
    have hg' := hc.symm.trans hg
    injection hg' with hg'; injection hg' with _ hg'
    exact ht hg'.symm) (by simp))
/-- A block that holds no bytes was written, and no other. -/
theorem Qw.grown {w w1 : World} {base g : Nat} {v : Value} {xs : List Int} (h : Qw w base v xs) {t : Nat} {cs : List Value} (hg : Blk w g t cs) (ht : t ≠ 5) (hk : w.grownBy w1 (some g)) : Qw w1 base v xs :=
  q_move h (fun k hv => hk.block k (q_lt h k hv) (by
    intro e; injection e with e; subst e
    obtain ⟨_, cells, hc⟩ := q_typed h _ hv
    have hg' := hc.symm.trans hg
    injection hg' with hg'; injection hg' with _ hg'
    exact ht hg'.symm))
theorem Qw.ne {w : World} {base g : Nat} {v : Value} {xs : List Int} (h : Qw w base v xs) {t : Nat} {cs : List Value} (hg : Blk w g t cs) (ht : t ≠ 5) : some g ≠ v.ownBlock := by
  intro he
  obtain ⟨_, cells, hc⟩ := q_typed h g he.symm
  have hg' := hc.symm.trans hg
  injection hg' with hg'; injection hg' with _ hg'
  exact ht hg'.symm
theorem Qw.drop {w : World} {base : Nat} {A : Option Addr} {n c : Nat} {xs : List Int} (h : Qw w base (.slice A n c) xs) (k : Nat) (hk : k ≤ xs.length) (hn : n = xs.length) :
    Qw w base (.slice (if c = k then A else A.map (·.add (k * 1))) (n - k) (c - k)) (xs.drop k) := by
  subst hn
  have := q_drop h hk
  unfold Qw
  rw [List.length_drop]
  have e : nums .u8 (xs.drop k) = (nums .u8 xs).drop (k * 1) := by simp [nums]
  rw [e]; exact this
/-- A slice of bytes lies in no block that has no byte. -/
theorem rd_apart {w : World} {A : Option Addr} {n c g t : Nat} {l : List Int} {cs : List Value} (h : Rd w A n c l) (hg : Blk w g t cs) (hno : ∀ (i : Nat) (x : Int), cs[i]? ≠ some (Value.int .u8 x)) : ∀ ad, A = some ad → 0 < n → ad.block ≠ g := by
  rintro ad rfl hp rfl
  obtain ⟨ad', e, hc⟩ := rd_cells h hp
  injection e with e
  subst e
  have hl := h.len
  have h0 := hc 0 _ (nums_get .u8 l 0 (by omega))
  have e0 : ad.add 0 = ad := by simp [Addr.add]
  rw [e0] at h0
  have hg' : w.heap[ad.block]? = some (.cells cs.toArray t (0, 0)) := hg
  simp only [World.cell?, hg'] at h0
  split at h0
  · cases h0
  · exact hno ad.off _ (by simpa using h0)
theorem rd_far {w : World} {A : Option Addr} {n c g t : Nat} {l : List Int} {cs : List Value} (h : Rd w A n c l) (hg : Blk w g t cs) (hno : ∀ (i : Nat) (x : Int), cs[i]? ≠ some (Value.int .u8 x)) (i : Nat) (u : Value) : Rd (w.setCell ⟨g, i, none⟩ u) A n c l :=
  ⟨h.len, h.cap, Kd.C_foot_ne (fun h => h) h.cells (rd_apart h hg hno) _ ((KeepBut.refl w g none).set_ i u)⟩
theorem Qw.rd' {w : World} {base : Nat} {A : Option Addr} {n c : Nat} {xs : List Int} (h : Qw w base (.slice A n c) xs) : Rd w A n c xs := by
  obtain ⟨A', c', e, hr⟩ := h.rd
  injection e with e1 e2 e3
  subst e1 e2 e3
  exact hr
/-- xs[k:], of a row of one's own -/
theorem qw_cut {w : World} {base : Nat} {A : Option Addr} {n c : Nat} {xs : List Int} (h : Qw w base (.slice A n c) xs) (k : Nat) {x : Int} (hx : x = k) (hk : k ≤ n) :
    ∃ A' c', (∀ W : World, (Instr.slice 22 (.slice A n c) (some (.int .i64 x)) none none).run Try.prog W = .ok (.slice A' (n - k) c') W) ∧ (∀ W : World, Qw W base (.slice A n c) xs → Qw W base (.slice A' (n - k) c') (xs.drop k)) ∧ (Value.slice A' (n - k) c').ownBlock = (Value.slice A n c).ownBlock := by
  subst hx
  have hr := Qw.rd' h
  obtain ⟨i, hi0, hsz⟩ := infoX
  have hcut := cut_from (P := Try.prog) 22 5 .i64 Try.underlying22 hi0 1 hsz A n c (k : Int) (by omega) (by omega)
  simp only [Int.toNat_natCast] at hcut
  refine ⟨_, _, hcut, fun W hW => Qw.drop hW k (by have := hr.len; omega) hr.len.symm, ?_⟩
  cases A with
  | none => split <;> rfl
  | some a => split <;> simp [Value.ownBlock, Addr.add] <;> split <;> rfl
theorem append_qw {ops : Array Oper} {rest : List Oper} {o : Oper} {a : Act} {Q : Exit → Act → World → Prop} {W : World} (base : Nat) (hgd : o.guard = none) (s x : Operand)
    (ho : o.op = .call { callee := .builtin .append, args := #[s, x], argTypes := #[22, 22] })
    (v : Value) (xs ys : List Int) (A : Option Addr) (m c : Nat) (hs : a.eval s = v) (hx : a.eval x = .slice A m c)
    (HO : Qw W base v xs) (HR : Rd W A m c ys) (hbase : base ≤ W.heap.size) (hl : xs.length + m ≤ 140737488355328)
    (h : ∀ v1 w1, Qw w1 base v1 (xs ++ ys) → W.grownBy w1 v.ownBlock → (v1.ownBlock = v.ownBlock ∨ ∃ b, v1.ownBlock = some b ∧ W.heap.size ≤ b) → wpList Try.prog ops Q rest (a.put o.dst v1) w1) :
    wpList Try.prog ops Q (o :: rest) a W := by
  obtain ⟨i0, hi, hzz⟩ := Option.map_eq_some_iff.1 infoB
  simp only [Prod.mk.injEq] at hzz
  obtain ⟨hz0, hz1, hz2⟩ := hzz
  have hm : ys.length = m := HR.len
  have hrun : ∃ v1 w1, (Builtin.append_ #[22, 22] o.type #[v, .slice A m c]).run Try.prog W = .ok v1 w1 ∧ Qw w1 base v1 (xs ++ ys) ∧ W.grownBy w1 v.ownBlock ∧ (v1.ownBlock = v.ownBlock ∨ ∃ b, v1.ownBlock = some b ∧ W.heap.size ≤ b) := by
    rcases Nat.eq_zero_or_pos m with h0 | hp
    · have hy : ys = [] := List.eq_nil_of_length_eq_zero (by omega)
      subst hy
      refine ⟨v, W, ?_, by rw [List.append_nil]; exact HO, World.grownBy.refl W _, .inl rfl⟩
      rw [h0]
      rcases HO.2 with ⟨hn, A', rfl, _⟩ | ⟨g, off, cap, cur, rfl, _, _, hnc, _⟩
      · cases A <;> cases A' <;> simp [Builtin.append_, run_underlying Try.underlying22, sizeOf, typeInfo, hi, Builtin.lenOf, Builtin.firstCells, loadCells, loadCellsFrom, storeCells, hn]
      · cases A <;> simp [Builtin.append_, run_underlying Try.underlying22, sizeOf, typeInfo, hi, Builtin.lenOf, Builtin.firstCells, hnc, loadCells, loadCellsFrom, storeCells]
    · obtain ⟨ad, rfl, hc⟩ := rd_cells HR hp
      obtain ⟨v1, w1, h1, h2, h3, h4⟩ := q_append (P := Try.prog) W base 22 o.type 5 i0 (.int .u8 0) 1 1 Try.underlying22 hi hz0 hz1 hz2 rfl (by decide) v xs.length (nums .u8 xs) HO ad m c (nums .u8 ys) (by rw [nums_length, hm, Nat.mul_one]) hc (nums_one _ _) hp (by simp only [maxLen]; omega) (by omega) hbase
      refine ⟨v1, w1, h1, ?_, h3, h4⟩
      unfold Qw
      rw [List.length_append, nums_append, hm]
      exact h2
  obtain ⟨v1, w1, hr, h2, h3, h4⟩ := hrun
  refine wpList_plain hgd fun K hK => ?_
  unfold Oper.wp execOp
  simp only [ho, resolve, invoke, builtin, Sem.run_bind, Sem.run_pure, Result.andThen_ok, List.map_toArray, List.map_cons, List.map_nil, hs, hx, hr]
  exact hK _ _ (h v1 w1 h2 h3 h4)
theorem blk_grow {w w' : World} {g t : Nat} {row : Option Nat} {cs : List Value} (h : Blk w g t cs) (hg : w.grownBy w' row) (hne : some g ≠ row) : Blk w' g t cs := (hg.block g (Blk.lt h) hne).trans h
/-- What became of the world: of the elder blocks just two were written. -/
structure Fr (w w' : World) (g : Nat) (row : Option Nat) : Prop where
  os : w'.os = w.os
  tape : w'.tape = w.tape
  output : w'.output = w.output
  size : w.heap.size ≤ w'.heap.size
  block : ∀ k, k < w.heap.size → k ≠ g → some k ≠ row → w'.heap[k]? = w.heap[k]?
theorem Fr.refl (w : World) (g : Nat) (row : Option Nat) : Fr w w g row := ⟨rfl, rfl, rfl, Nat.le_refl _, fun _ _ _ _ => rfl⟩
theorem Fr.of_below {w w' : World} (h : Below w.heap.size w w') (g : Nat) (row : Option Nat) : Fr w w' g row := ⟨h.os, h.tape, h.output, h.size, fun k hk _ _ => h.block k hk⟩
theorem Fr.trans {w w1 w2 : World} {g : Nat} {row row1 : Option Nat} (h : Fr w w1 g row) (k : Fr w1 w2 g row1) (hr : row1 = row ∨ ∃ b, row1 = some b ∧ w.heap.size ≤ b) : Fr w w2 g row :=
  ⟨k.os.trans h.os, k.tape.trans h.tape, k.output.trans h.output, Nat.le_trans h.size k.size, fun i hi hg hne => (k.block i (Nat.lt_of_lt_of_le hi h.size) hg (by
    rcases hr with e | ⟨b, e, hb⟩
    · rw [e]; exact hne
    · rw [e]; intro e'; injection e' with e'; omega)).trans (h.block i hi hg hne)⟩
theorem Fr.next {w w1 w2 : World} {g : Nat} {row : Option Nat} (h : Fr w w1 g row) (k : Below w1.heap.size w1 w2) : Fr w w2 g row := h.trans (Fr.of_below k g row) (.inl rfl)
theorem Fr.setCell {w w1 : World} {g : Nat} {row : Option Nat} (h : Fr w w1 g row) (i : Nat) (u : Value) : Fr w (w1.setCell ⟨g, i, none⟩ u) g row :=
  ⟨h.os, h.tape, h.output, by simpa [World.setCell] using h.size, fun k hk hg hne => (Below.heap_setCell w1 _ u k hg).trans (h.block k hk hg hne)⟩
theorem Fr.grown {w w1 w2 : World} {g : Nat} {row row1 : Option Nat} (h : Fr w w1 g row) (k : w1.grownBy w2 row1) (hr : row1 = row ∨ ∃ b, row1 = some b ∧ w.heap.size ≤ b) : Fr w w2 g row :=
  h.trans ⟨k.os, k.tape, k.output, k.size, fun i hi _ hne => k.block i hi hne⟩ hr
/-- The state's own block was written. -/
theorem Fr.self {w w1 w2 : World} {g : Nat} {row : Option Nat} (h : Fr w w1 g row) (k : w1.grownBy w2 (some g)) : Fr w w2 g row :=
  ⟨k.os.trans h.os, k.tape.trans h.tape, k.output.trans h.output, Nat.le_trans h.size k.size, fun i hi hg hne => (k.block i (Nat.lt_of_lt_of_le hi h.size) (by intro e; injection e with e; exact hg e)).trans (h.block i hi hg hne)⟩
theorem Fr.drewN {w w1 : World} {g : Nat} {row : Option Nat} (h : Fr w w1 g row) (n : Nat) : Fr w (w1.drewN n) g row := ⟨h.os, h.tape, h.output, h.size, h.block⟩
theorem Fr.drew {w w1 : World} {g : Nat} {row : Option Nat} (h : Fr w w1 g row) : Fr w w1.drew g row := ⟨h.os, h.tape, h.output, h.size, h.block⟩
theorem Fr.below {w0 w w1 : World} {g B : Nat} {row : Option Nat} (h : Fr w w1 g row) (hb : Below B w0 w) (hB : B ≤ w.heap.size) (hg : B ≤ g) (hr : ∀ k, row = some k → B ≤ k) : Below B w0 w1 :=
  ⟨h.os.trans hb.os, h.tape.trans hb.tape, h.output.trans hb.output, Nat.le_trans hb.size h.size, fun k hk => (h.block k (by omega) (by omega) (by intro e; have := hr k e.symm; omega)).trans (hb.block k hk)⟩

/-- Whole blocks taken, one behind another. -/
def accS (r a X : List Int) : Nat → List Int
  | 0 => a
  | j + 1 => takeS (accS r a X j) r (readS ((X.drop (16 * j)).take 16) 1)
theorem timesS_length (a r : List Int) : (timesS a r).length = 5 := by simp [timesS, carS, top5, cst_length, tst_length]
theorem readS_length (b : List Int) (top : Int) : (readS b top).length = 5 := by simp [readS, rdT_length]
theorem accS_length {r a X : List Int} (h : a.length = 5) (j : Nat) : (accS r a X j).length = 5 := by
  cases j with
  | zero => exact h
  | succ j => simp only [accS, takeS]; exact timesS_length _ _
theorem accS_add (r a X Y : List Int) (m j : Nat) (hm : 16 * m ≤ X.length) : accS r (accS r a X m) (X.drop (16 * m) ++ Y) j = accS r a (X ++ Y) (m + j) := by
  induction j with
  | zero =>
    show accS r a X m = accS r a (X ++ Y) m
    have h : ∀ i, i ≤ m → accS r a X i = accS r a (X ++ Y) i := by
      intro i hi
      induction i with
      | zero => rfl
      | succ i ih =>
        simp only [accS]
        rw [ih (by omega), List.drop_append_of_le_length (by omega), List.take_append_of_le_length (by rw [List.length_drop]; omega)]
    exact h m (Nat.le_refl m)
  | succ j ih =>
    rw [show m + (j + 1) = (m + j) + 1 from rfl]
    simp only [accS]
    rw [ih, ← List.drop_append_of_le_length hm, List.drop_drop, show 16 * m + 16 * j = 16 * (m + j) by omega]
def zero5 : List Int := [0, 0, 0, 0, 0]
def gone (r b : List Int) : List Int := accS r zero5 b (b.length / 16)
def rest16 (b : List Int) : List Int := b.drop (16 * (b.length / 16))
theorem rest16_length (b : List Int) : (rest16 b).length = b.length % 16 := by unfold rest16; rw [List.length_drop]; omega
theorem gone_append (r b l : List Int) : gone r (b ++ l) = accS r (gone r b) (rest16 b ++ l) ((rest16 b ++ l).length / 16) := by
  unfold gone rest16
  rw [accS_add r zero5 b l (b.length / 16) _ (by omega)]
  congr 1
  simp only [List.length_append, List.length_drop]
  omega
theorem rest16_append (b l : List Int) : rest16 (b ++ l) = (rest16 b ++ l).drop (16 * ((rest16 b ++ l).length / 16)) := by
  unfold rest16
  rw [← List.drop_append_of_le_length (by omega), List.drop_drop]
  congr 1
  simp only [List.length_append, List.length_drop]
  omega
theorem limb_bd {b : List Int} (h : IsB b) (i : Nat) : 0 ≤ limb b i ∧ limb b i < 67108864 := by
  unfold limb
  omega
theorem readS_bd {b : List Int} (h : IsB b) {top : Int} (m : Int) (hm : top * 16777216 + 16777216 ≤ m) (h0 : 0 ≤ top) (hm0 : 67108864 ≤ m) : IsBd m (readS b top) := by
  have hI : IsB ((b.take 16).drop 12) := fun x hx => h x (List.mem_of_mem_take (List.mem_of_mem_drop hx))
  have hl := load_range hI true
  have h1 : readS b top = [limb b 0, limb b 1, limb b 2, limb b 3, (loadW ((b.take 16).drop 12) true).1 / 256 + top * 16777216] := rfl
  rw [h1]
  generalize (loadW ((b.take 16).drop 12) true).1 = x at *
  have a0 := limb_bd h 0
  have a1 := limb_bd h 1
  have a2 := limb_bd h 2
  have a3 := limb_bd h 3
  intro j
  have hj : j = 0 ∨ j = 1 ∨ j = 2 ∨ j = 3 ∨ j = 4 ∨ 5 ≤ j := by omega
  rcases hj with rfl | rfl | rfl | rfl | rfl | hj
  · simp; omega
  · simp; omega
  · simp; omega
  · simp; omega
  · simp; omega
  · rw [List.getD_eq_getElem?_getD, List.getElem?_eq_none (by simpa using hj)]; simp; omega
theorem low_bd {l : List Int} (h : Low l) : IsBd 134217728 l := by
  obtain ⟨a, b, c, d, e, rfl, h1, h2, h3, h4, h5⟩ := h
  intro j
  have hj : j = 0 ∨ j = 1 ∨ j = 2 ∨ j = 3 ∨ j = 4 ∨ 5 ≤ j := by omega
  rcases hj with rfl | rfl | rfl | rfl | rfl | hj
  · simp; omega
  · simp; omega
  · simp; omega
  · simp; omega
  · simp; omega
  · rw [List.getD_eq_getElem?_getD, List.getElem?_eq_none (by simpa using hj)]; simp
theorem low_zero : Low zero5 := ⟨0, 0, 0, 0, 0, rfl, by omega, by omega, by omega, by omega, by omega⟩
theorem takeS_low {a r b : List Int} (ha : Low a) (hlr : r.length = 5) (hr : IsBd 67108864 r) (hlb : b.length = 5) (hb : IsBd 134217728 b) : Low (takeS a r b) :=
  (times_val (by rw [addT_length]; exact hlb) hlr (addT_bd hlb (low_bd ha) hb 5) hr).1
theorem accS_low {r a X : List Int} (ha : Low a) (hlr : r.length = 5) (hr : IsBd 67108864 r) (hX : IsB X) (j : Nat) : Low (accS r a X j) := by
  induction j with
  | zero => exact ha
  | succ j ih => exact takeS_low ih hlr hr (readS_length _ _) (readS_bd (fun x hx => hX x (List.mem_of_mem_drop (List.mem_of_mem_take hx))) _ (by omega) (by omega) (by omega))
theorem gone_low {r b : List Int} (hlr : r.length = 5) (hr : IsBd 67108864 r) (hb : IsB b) : Low (gone r b) := accS_low low_zero hlr hr hb _

/-- An Adder of r and s to which bytes b were added: it lies in block g, its tail is v. -/
structure St (w : World) (base g : Nat) (v : Value) (r s b : List Int) : Prop where
  ge : base ≤ g
  isB : IsB b
  rl : r.length = 5
  rb : IsBd 67108864 r
  sl : s.length = 4
  sw : IsW s
  blk : Blk w g 83 (adr r (gone r b) s v)
  tail : Qw w base v (rest16 b)
theorem St.lt {w : World} {base g : Nat} {v : Value} {r s b : List Int} (h : St w base g v r s b) : g < w.heap.size := Blk.lt h.blk
theorem St.row_ge {w : World} {base g : Nat} {v : Value} {r s b : List Int} (h : St w base g v r s b) : ∀ k, v.ownBlock = some k → base ≤ k := fun k hk => (q_typed h.tail k hk).1
theorem St.row_lt {w : World} {base g : Nat} {v : Value} {r s b : List Int} (h : St w base g v r s b) : ∀ k, v.ownBlock = some k → k < w.heap.size := fun k hk => q_lt h.tail k hk
theorem St.row_ne {w : World} {base g : Nat} {v : Value} {r s b : List Int} (h : St w base g v r s b) : some g ≠ v.ownBlock := Qw.ne h.tail h.blk (by decide)
theorem St.below {w w1 : World} {base g : Nat} {v : Value} {r s b : List Int} (h : St w base g v r s b) (hb : Below w.heap.size w w1) : St w1 base g v r s b := ⟨h.ge, h.isB, h.rl, h.rb, h.sl, h.sw, Blk.below h.blk hb, h.tail.below hb⟩
theorem St.lower {w : World} {base base' g : Nat} {v : Value} {r s b : List Int} (h : St w base g v r s b) (hb : base' ≤ base) : St w base' g v r s b := ⟨Nat.le_trans hb h.ge, h.isB, h.rl, h.rb, h.sl, h.sw, h.blk, q_lower h.tail hb⟩
theorem adr_no8 (r a s : List Int) (v : Value) (hv : ∀ x : Int, v ≠ Value.int .u8 x) : ∀ (i : Nat) (x : Int), (adr r a s v)[i]? ≠ some (Value.int .u8 x) := by
  intro i x h
  have hm := List.mem_of_getElem? h
  unfold adr nums at hm
  simp only [List.mem_append, List.mem_map, List.mem_singleton] at hm
  rcases hm with ((⟨y, _, e⟩ | ⟨y, _, e⟩) | ⟨y, _, e⟩) | e
  · cases e
  · cases e
  · cases e
  · exact hv x e.symm
end Go.Proofs.Ytkjmjgiklelpiaa.OtS
/- onetime: Add, walked. -/
namespace Go.Proofs.Ytkjmjgiklelpiaa.OtU
open Go.RowKit Go.Proofs.YtkjmjgiklelpiaaW.PrintWords Go.Proofs.Ytkjmjgiklelpiaa.Num Go.Proofs.Ytkjmjgiklelpiaa.WordC Go.Proofs.Ytkjmjgiklelpiaa.Arr Go.Proofs.Ytkjmjgiklelpiaa.App Go.Proofs.Ytkjmjgiklelpiaa.CiC Go.Proofs.Ytkjmjgiklelpiaa.CiD Go.Proofs.Ytkjmjgiklelpiaa.OtC Go.Proofs.Ytkjmjgiklelpiaa.OtR Go.Proofs.Ytkjmjgiklelpiaa.OtL Go.Proofs.Ytkjmjgiklelpiaa.OtM Go.Proofs.Ytkjmjgiklelpiaa.OtT Go.Proofs.Ytkjmjgiklelpiaa.OtV Go.Proofs.Ytkjmjgiklelpiaa.OtK Go.Proofs.Ytkjmjgiklelpiaa.OtN Go.Proofs.Ytkjmjgiklelpiaa.OtO Go.Proofs.Ytkjmjgiklelpiaa.OtP Go.Proofs.Ytkjmjgiklelpiaa.OtQ Go.Proofs.Ytkjmjgiklelpiaa.OtS
set_option linter.unusedVariables false
set_option linter.unusedSimpArgs false

theorem adr_get {r a s : List Int} {v : Value} (hr : r.length = 5) (ha : a.length = 5) (i : Nat) (hi : i < 5) : (adr r a s v)[5 + i]? = some (.int .u64 (a.getD i 0)) := by
  unfold adr
  rw [List.getElem?_append_left (by simp [nums_length, hr, ha]; omega), List.getElem?_append_left (by simp [nums_length, hr, ha]; omega), List.getElem?_append_right (by simp [nums_length, hr]), nums_length, hr, show 5 + i - 5 = i by omega]
  exact nums_get .u64 a i (by omega)
theorem adr_set_a {r a s : List Int} {v : Value} (hr : r.length = 5) (ha : a.length = 5) (i : Nat) (hi : i < 5) (x : Int) : (adr r a s v).set (5 + i) (.int .u64 x) = adr r (a.set i x) s v := by
  unfold adr
  rw [List.set_append_left _ _ (by simp [nums_length, hr, ha]; omega), List.set_append_left _ _ (by simp [nums_length, hr, ha]; omega), List.set_append_right _ _ (by simp [nums_length, hr]), nums_length, hr, show 5 + i - 5 = i by omega, nums_set]
theorem range_adr_r {w : World} {g : Nat} {r a s : List Int} {v : Value} (h : Blk w g 83 (adr r a s v)) : w.rangeAt g 0 (nums .u64 r) := fun j u hj => by
  have hj1 : j < r.length := by have := (List.getElem?_eq_some_iff.1 hj).1; rwa [nums_length] at this
  rw [Nat.zero_add, Blk.cell h]
  unfold adr
  rw [List.getElem?_append_left (by simp [nums_length]; omega), List.getElem?_append_left (by simp [nums_length]; omega), List.getElem?_append_left (by simp [nums_length]; omega)]
  exact hj
/-- Five limbs are put into an Adder. -/
theorem adr_put5 {w : World} {g : Nat} {r a s : List Int} {v : Value} (h : Blk w g 83 (adr r a s v)) (hr : r.length = 5) (ha : a.length = 5) (b0 b1 b2 b3 b4 : Int) :
    Blk (((((w.setCell ⟨g, 5, none⟩ (.int .u64 b0)).setCell ⟨g, 6, none⟩ (.int .u64 b1)).setCell ⟨g, 7, none⟩ (.int .u64 b2)).setCell ⟨g, 8, none⟩ (.int .u64 b3)).setCell ⟨g, 9, none⟩ (.int .u64 b4)) g 83 (adr r [b0, b1, b2, b3, b4] s v) := by
  have h0 := Blk.set_ h 5 (.int .u64 b0)
  rw [adr_set_a hr ha 0 (by omega)] at h0
  have h1 := Blk.set_ h0 6 (.int .u64 b1)
  rw [adr_set_a hr (by simpa using ha) 1 (by omega)] at h1
  have h2 := Blk.set_ h1 7 (.int .u64 b2)
  rw [adr_set_a hr (by simpa using ha) 2 (by omega)] at h2
  have h3 := Blk.set_ h2 8 (.int .u64 b3)
  rw [adr_set_a hr (by simpa using ha) 3 (by omega)] at h3
  have h4 := Blk.set_ h3 9 (.int .u64 b4)
  rw [adr_set_a hr (by simpa using ha) 4 (by omega)] at h4
  match a, ha with
  | [a0, a1, a2, a3, a4], _ => exact h4
theorem read5 {A : Option Addr} {c : Nat} {b : List Int} {w : World} (hr : Rd w A 16 c b) (hb : IsB b) :
    Calls Try.prog 53 #[.slice A 16 c, .int .u64 1] w fun e w' => e = .returned (.agg (nums .u64 (readS b 1)).toArray) ∧ Below w.heap.size w w' := read_c hr (Nat.le_refl _) hb (.inr rfl)
theorem take5 {g : Nat} {a r b s : List Int} {v : Value} {w : World} (hg : Blk w g 83 (adr r a s v)) (hla : a.length = 5) (hlr : r.length = 5) (hlb : b.length = 5) (ba : IsBd 134217728 a) (br : IsBd 67108864 r) (bb : IsBd 134217728 b) :
    Calls Try.prog 55 #[.pointer (some ⟨g, 0, none⟩), .agg (nums .u64 b).toArray] w fun e w' => ∃ b0 b1 b2 b3 b4 : Int, Aside0 (takeS a r b = [b0, b1, b2, b3, b4]) ∧ e = .returned (.agg #[.int .u64 b0, .int .u64 b1, .int .u64 b2, .int .u64 b3, .int .u64 b4]) ∧ Below w.heap.size w w' := by
  refine (take_c (range_adr_r hg) (range_adr_a hg hlr) (Blk.lt hg) hla hlr hlb ba br bb).mono ?_
  rintro e w' ⟨rfl, hB⟩
  have hl : (takeS a r b).length = 5 := timesS_length _ _
  generalize takeS a r b = z at *
  match z, hl with
  | [b0, b1, b2, b3, b4], _ => exact ⟨b0, b1, b2, b3, b4, ⟨rfl⟩, rfl, hB⟩
theorem store_adr {ops : Array Oper} {rest : List Oper} {o : Oper} {act : Act} {w : World} {Q : Exit → Act → World → Prop} (hgd : o.guard = none) (x y : Operand) (ho : o.op = .store 79 x y) (g : Nat) (hx : act.eval x = .pointer (some ⟨g, 5, none⟩)) (b0 b1 b2 b3 b4 : Int) (hy : act.eval y = .agg #[.int .u64 b0, .int .u64 b1, .int .u64 b2, .int .u64 b3, .int .u64 b4])
    {r a s : List Int} {v : Value} (hg : Blk w g 83 (adr r a s v)) (hr : r.length = 5) (ha : a.length = 5)
    (h : ∀ w', Blk w' g 83 (adr r [b0, b1, b2, b3, b4] s v) → w.grownBy w' (some g) → wpList Try.prog ops Q rest (act.put o.dst undef) w') : wpList Try.prog ops Q (o :: rest) act w := by
  refine wpList_store_mid hgd 79 x y ho g 5 #[.int .u64 b0, .int .u64 b1, .int .u64 b2, .int .u64 b3, .int .u64 b4] hx hy ?_ size79 (all_nums .u64 [b0, b1, b2, b3, b4]) ?_
  · intro j hj
    have hj5 : j < 5 := hj
    refine ⟨?_, Blk.frozen hg _⟩
    rw [Blk.cell hg, adr_get hr ha j hj5]; rfl
  · obtain ⟨h1, h2, h3, h4⟩ := setCells_same g [.int .u64 b0, .int .u64 b1, .int .u64 b2, .int .u64 b3, .int .u64 b4] 5 w
    exact h _ (adr_put5 hg hr ha b0 b1 b2 b3 b4) ⟨h1, h2, h3, Nat.le_of_eq h4.symm, fun k hk hne => setCells_far _ _ k (fun e => hne (by rw [e]))⟩
theorem drop16 (X : List Int) (j : Nat) : (X.drop (16 * j)).drop 16 = X.drop (16 * (j + 1)) := by rw [List.drop_drop]; congr 1
set_option maxHeartbeats 8000000 in
set_option maxRecDepth 100000 in
theorem Add_c {base g : Nat} {v : Value} {r s b l : List Int} {A : Option Addr} {n c : Nat} {w : World} (hS : St w base g v r s b) (hr : Rd w A n c l) (hB : IsB l) (hbase : base ≤ w.heap.size) (hl : b.length + n ≤ 140737488355328) :
    Calls Try.prog 30 #[.pointer (some ⟨g, 0, none⟩), .slice A n c] w fun e w' => e = .returned (.tuple #[]) ∧ ∃ v', St w' base g v' r s (b ++ l) ∧ Fr w w' g v.ownBlock ∧ (v'.ownBlock = v.ownBlock ∨ ∃ k, v'.ownBlock = some k ∧ w.heap.size ≤ k) := by
  obtain ⟨hge, hbB, hrl5, hrb, hsl4, hsw, hblk, htail⟩ := hS
  have hRL := Aside0.mk hrl5
  have hRB := Aside0.mk hrb
  have hSL := Aside0.mk hsl4
  have hSW := Aside0.mk hsw
  have hgl := Aside0.mk (gone_low hrl5 hrb hbB)
  obtain ⟨Av, cv, rfl, hrv⟩ := htail.rd
  have hln := hr.len
  have hrl := rest16_length b
  have hrB : IsB (rest16 b) := fun x hx => hbB x (List.mem_of_mem_drop hx)
  have hga := Aside0.mk (gone_append r b l)
  have hra := Aside0.mk (rest16_append b l)
  have hrl' : (rest16 b).length + n ≤ 140737488355328 := by omega
  have HLN := Aside0.mk hln
  have hGl : Aside0 ((gone r b).length = 5) := ⟨hgl.out.length⟩
  have c14 : w.cell? ⟨g, 14, none⟩ = some (.slice Av (rest16 b).length cv) := (Blk.cell hblk 14).trans (adr_tail hrl5 hGl.out hsl4)
  obtain ⟨X, HX⟩ : ∃ X, Aside0 (rest16 b ++ l = X) := ⟨_, ⟨rfl⟩⟩
  have hXB : IsB X := by rw [← HX.out]; intro x hx; rcases List.mem_append.1 hx with h | h; exact hrB x h; exact hB x h
  have hXl : X.length = (rest16 b).length + n := by rw [← HX.out, List.length_append, hln]
  have hXm : X.length ≤ 140737488355328 := by omega
  have HXL := Aside0.mk hXl
  have HXB := Aside0.mk hXB
  obtain ⟨row, HROW⟩ : ∃ row, Aside0 ((Value.slice Av (rest16 b).length cv).ownBlock = row) := ⟨_, ⟨rfl⟩⟩
  have hrow : ∀ k, row = some k → base ≤ k := by rw [← HROW.out]; exact fun k hk => (q_typed htail k hk).1
  have hrne : some g ≠ row := by rw [← HROW.out]; exact Qw.ne htail hblk (by decide)
  rw [HROW.out]
  rw [HX.out] at hga hra
  obtain ⟨G, HG⟩ : ∃ G, Aside0 (gone r b = G) := ⟨_, ⟨rfl⟩⟩
  rw [HG.out] at hga hgl hGl hblk
  have HBLK := Aside0.mk hblk
  have HTAIL := Aside0.mk htail
  have HR := Aside0.mk hr
  have HBB := Aside0.mk (show IsB (b ++ l) from fun x hx => by rcases List.mem_append.1 hx with h | h; exact hbB x h; exact hB x h)
  clear hln hrl htail hblk hXl hr hrv hrl5 hrb hsl4 hsw hrB hB hbB hXB
  go_enter Try.func30, Try.ntmps30
  go_wp2_with (first
    | (at_builtin; refine append_qw base rfl (.tmp 10) (.tmp 11) rfl (.slice Av (rest16 b).length cv) (rest16 b) l A n c rfl rfl HTAIL.out HR.out hbase hrl' ?_; intro v2 w2 hq2 hg2 hat2; rw [HROW.out] at hg2 hat2; rw [HX.out] at hq2; have hB2 := blk_grow HBLK.out hg2 hrne; have hF2 := (Fr.refl w g row).grown hg2 (.inl rfl); have f14 := Blk.frozen hB2 14; have d14 : w2.cell? ⟨g, 14, none⟩ = some (.slice Av (rest16 b).length cv) := (Blk.cell hB2 14).trans (adr_tail hRL.out hGl.out hSL.out); obtain ⟨A2, c2, rfl, hr2⟩ := hq2.rd))
  have hq3 : Aside0 (Qw (w2.setCell ⟨g, 14, none⟩ (.slice A2 X.length c2)) base (.slice A2 X.length c2) (X.drop (16 * 0))) := ⟨Qw.far hq2 hB2 (by decide) 14 _⟩
  have hB3 : Aside0 (Blk (w2.setCell ⟨g, 14, none⟩ (.slice A2 X.length c2)) g 83 (adr r (accS r G X 0) s (.slice A2 X.length c2))) := ⟨by
    have h1 := Blk.set_ hB2 14 (.slice A2 X.length c2)
    rwa [adr_set_tail hRL.out hGl.out hSL.out] at h1⟩
  have hF3 : Fr w (w2.setCell ⟨g, 14, none⟩ (.slice A2 X.length c2)) g row := hF2.setCell 14 _
  have hat3 : Aside0 ((Value.slice A2 X.length c2).ownBlock = row ∨ ∃ k, (Value.slice A2 X.length c2).ownBlock = some k ∧ w.heap.size ≤ k) := ⟨by
    rcases hat2 with e | ⟨k, e, hk⟩
    · exact .inl e
    · exact .inr ⟨k, e, hk⟩⟩
  clear hq2 hB2 hF2 hat2 hg2 f14 d14 hr2 c14
  go_loopg [15] (X.length / 16) (fun k s15 wr => ∃ (j m : Nat) (Aj : Option Addr) (cj : Nat), 16 * j + m = X.length ∧ k + j = X.length / 16 ∧ Aside0 (Blk wr g 83 (adr r (accS r G X j) s (.slice Aj m cj))) ∧ Aside0 (Qw wr base (.slice Aj m cj) (X.drop (16 * j))) ∧ Fr w wr g row ∧ Aside0 ((Value.slice Aj m cj).ownBlock = row ∨ ∃ k, (Value.slice Aj m cj).ownBlock = some k ∧ w.heap.size ≤ k))
  case atStart => exact ⟨0, X.length, A2, c2, by omega, by omega, hB3, hq3, hF3, hat3⟩
  case round =>
    clear hq3 hB3 hF3 hat3
    obtain ⟨j, m, Aj, cj, hjm, hkj, hBj, hQj, hFj, hatj⟩ := hrel
    have hlow := Aside0.mk (accS_low hgl.out hRL.out hRB.out HXB.out j)
    have hal : Aside0 ((accS r G X j).length = 5) := ⟨hlow.out.length⟩
    have k14 : wr.cell? ⟨g, 14, none⟩ = some (.slice Aj m cj) := (Blk.cell hBj.out 14).trans (adr_tail hRL.out hal.out hSL.out)
    by_cases hlt : 16 ≤ m
    · have hlt' : (16 : Int) ≤ (m : Int) := by omega
      have hnext : Aside0 (accS r G X (j + 1) = takeS (accS r G X j) r (readS ((X.drop (16 * j)).take 16) 1)) := ⟨rfl⟩
      obtain ⟨R, HRE⟩ : ∃ R, Aside0 (accS r G X j = R) := ⟨_, ⟨rfl⟩⟩
      rw [HRE.out] at hBj hnext hal hlow
      have hrd := Qw.rd' hQj.out
      obtain ⟨hcut, hrd16⟩ := rd_slice_to hrd 16 (y := 16) (by omega) hlt
      obtain ⟨A', c', hcut2, hq', hown'⟩ := qw_cut hQj.out 16 (x := 16) (by omega) hlt
      have hI : IsB ((X.drop (16 * j)).take 16) := fun x hx => HXB.out x (List.mem_of_mem_drop (List.mem_of_mem_take hx))
      have hbd := Aside0.mk (readS_bd hI 134217728 (top := 1) (by omega) (by omega) (by omega))
      have hrdl := Aside0.mk (readS_length ((X.drop (16 * j)).take 16) 1)
      have HQ' := Aside0.mk hq'
      have HOWN := Aside0.mk hown'
      clear hq' hown' hrd
      go_wp2_with fail
      refine (read5 hrd16 hI).mono ?_
      rintro x w4 ⟨rfl, hb4⟩
      have hB4 := Blk.below hBj.out hb4
      go_wp2_with fail
      refine (take5 hB4 hal.out hRL.out hrdl.out (low_bd hlow.out) hRB.out hbd.out).mono ?_
      rintro x w5 ⟨b0, b1, b2, b3, b4, HB5, rfl, hb5⟩
      have HB5' := Aside0.mk (Blk.below hB4 hb5)
      have hQ5 := Qw.below (Qw.below hQj.out hb4) hb5
      have hF5 := (hFj.next hb4).next hb5
      have hl5 : Aside0 ((accS r G X (j + 1)).length = 5) := ⟨accS_length hgl.out.length _⟩
      clear hB4 k14
      go_wp2_with (first
        | (refine store_adr rfl (.tmp 31) (.tmp 29) rfl g rfl b0 b1 b2 b3 b4 rfl HB5'.out hRL.out hal.out ?_
           intro w6 hW hg6
           rw [← HB5.out, ← hnext.out] at hW
           have hQ6 := Qw.grown hQ5 HB5'.out (by decide) hg6
           have hF6 := hF5.self hg6
           have k14 : w6.cell? ⟨g, 14, none⟩ = some (.slice Aj m cj) := (Blk.cell hW 14).trans (adr_tail hRL.out hl5.out hSL.out)
           have f14 := Blk.frozen hW 14))
      have hW7 : Aside0 (Blk (w6.setCell ⟨g, 14, none⟩ (.slice A' (m - 16) c')) g 83 (adr r (accS r G X (j + 1)) s (.slice A' (m - 16) c'))) := ⟨by
        have h1 := Blk.set_ hW 14 (.slice A' (m - 16) c')
        rwa [adr_set_tail hRL.out hl5.out hSL.out] at h1⟩
      have hQ7 : Aside0 (Qw (w6.setCell ⟨g, 14, none⟩ (.slice A' (m - 16) c')) base (.slice A' (m - 16) c') (X.drop (16 * (j + 1)))) := ⟨by
        have h := Qw.far (HQ'.out _ hQ6) hW (by decide) 14 (.slice A' (m - 16) c')
        rw [drop16] at h; exact h⟩
      have hF7 : Fr w (w6.setCell ⟨g, 14, none⟩ (.slice A' (m - 16) c')) g row := hF6.setCell 14 _
      have hat7 : Aside0 ((Value.slice A' (m - 16) c').ownBlock = row ∨ ∃ k, (Value.slice A' (m - 16) c').ownBlock = some k ∧ w.heap.size ≤ k) := ⟨by rw [HOWN.out]; exact hatj.out⟩
      clear hW hQ5 hQ6 hF6 hF5 hg6
      go_roundg (gk - 1)
      case measure => omega
      case rel => exact ⟨j + 1, m - 16, A', c', by omega, by omega, hW7, hQ7, hF7, hat7⟩
    · have hlt' : ¬ (16 : Int) ≤ (m : Int) := by omega
      have hj : j = X.length / 16 := by omega
      have HJ := Aside0.mk hj
      clear hj
      go_wp2_with fail
      go_end0
      have h1 := hBj.out
      have h2 := hQj.out
      rw [HJ.out, ← hga.out] at h1
      rw [HJ.out, ← hra.out] at h2
      exact ⟨rfl, _, ⟨hge, HBB.out, hRL.out, hRB.out, hSL.out, hSW.out, h1, h2⟩, hFj, hatj.out⟩
end Go.Proofs.Ytkjmjgiklelpiaa.OtU
/- Parts of bytes that came in; an Adder beside them. -/
namespace Go.Proofs.Ytkjmjgiklelpiaa.OtX
open Go.RowKit Go.Proofs.YtkjmjgiklelpiaaW.PrintWords Go.Proofs.Ytkjmjgiklelpiaa.Num Go.Proofs.Ytkjmjgiklelpiaa.WordC Go.Proofs.Ytkjmjgiklelpiaa.Arr Go.Proofs.Ytkjmjgiklelpiaa.App Go.Proofs.Ytkjmjgiklelpiaa.CiC Go.Proofs.Ytkjmjgiklelpiaa.CiD Go.Proofs.Ytkjmjgiklelpiaa.OtC Go.Proofs.Ytkjmjgiklelpiaa.OtR Go.Proofs.Ytkjmjgiklelpiaa.OtL Go.Proofs.Ytkjmjgiklelpiaa.OtM Go.Proofs.Ytkjmjgiklelpiaa.OtT Go.Proofs.Ytkjmjgiklelpiaa.OtV Go.Proofs.Ytkjmjgiklelpiaa.OtK Go.Proofs.Ytkjmjgiklelpiaa.OtN Go.Proofs.Ytkjmjgiklelpiaa.OtO Go.Proofs.Ytkjmjgiklelpiaa.OtP Go.Proofs.Ytkjmjgiklelpiaa.OtQ Go.Proofs.Ytkjmjgiklelpiaa.OtS Go.Proofs.Ytkjmjgiklelpiaa.OtU
set_option linter.unusedVariables false
set_option linter.unusedSimpArgs false

/-- A slice of slices of bytes that is read. -/
structure Pt (w : World) (A : Option Addr) (n c : Nat) (ll : List (List Int)) : Prop where
  cap : n ≤ c
  rows : Kd.C (Kd.slice 5 (Kd.int .u8)) w A n ll
theorem Pt.len {w : World} {A : Option Addr} {n c : Nat} {ll : List (List Int)} (h : Pt w A n c ll) : ll.length = n := Kd.C_len h.rows
theorem Pt.below {w w1 : World} {A : Option Addr} {n c : Nat} {ll : List (List Int)} (h : Pt w A n c ll) (hb : Below w.heap.size w w1) : Pt w1 A n c ll := ⟨h.cap, Kd.C_below h.rows hb⟩
theorem Pt.at_ {w : World} {A : Option Addr} {n c : Nat} {ll : List (List Int)} (h : Pt w A n c ll) (i : Nat) (hi : i < n) :
    ∃ ad Ai ci, A = some ad ∧ w.cell? (ad.add i) = some (.slice Ai (ll.getD i []).length ci) ∧ Rd w Ai (ll.getD i []).length ci (ll.getD i []) := by
  obtain ⟨ad, cs, e, hl, ⟨Ai, ci, rfl, hc, hC⟩, hcell⟩ := Kd.C_get h.rows [] (i : Int) (by omega) (by omega)
  simp only [Int.toNat_natCast] at hcell hC hc
  refine ⟨ad, Ai, ci, e, ?_, rfl, hc, hC⟩
  have := hcell 0 _ rfl
  have e1 : i * (Kd.slice 5 (Kd.int .u8)).sz + 0 = i := Nat.mul_one i
  rwa [e1] at this
theorem flat_take (ll : List (List Int)) (i : Nat) (h : i < ll.length) : (ll.take (i + 1)).flatten = (ll.take i).flatten ++ ll.getD i [] := by
  rw [List.take_add_one, List.flatten_append, List.getElem?_eq_getElem h, List.getD_eq_getElem?_getD, List.getElem?_eq_getElem h]; simp
theorem flat_le (ll : List (List Int)) (i : Nat) : (ll.take i).flatten.length ≤ ll.flatten.length := by
  have := congrArg List.length (congrArg List.flatten (List.take_append_drop i ll))
  rw [List.flatten_append, List.length_append] at this
  omega
theorem part_isB {ll : List (List Int)} (h : ∀ l ∈ ll, IsB l) (i : Nat) : IsB (ll.getD i []) := by
  rw [List.getD_eq_getElem?_getD]
  rcases Nat.lt_or_ge i ll.length with hl | hl
  · rw [List.getElem?_eq_getElem hl]; exact h _ (List.getElem_mem hl)
  · rw [List.getElem?_eq_none hl]; intro x hx; cases hx
theorem pt_nil (W : World) : Pt W none 0 0 [] := ⟨Nat.le_refl _, Kd.C_nil _ W⟩
theorem pt_open {W : World} {base : Nat} {x : Addr} {l c : Nat} {AA : Nat → Option Addr} {L C : Nat → Nat} {Z : Nat → List Int} (hl : l ≤ c) (hm : c ≤ maxLen)
    (hrows : ∀ r, r < c → W.cell? (x.add r) = some (.slice (AA r) (L r) (C r)) ∧ L r ≤ C r ∧ C r ≤ maxLen ∧ (Z r).length = C r ∧ (∀ n ∈ Z r, (Lit.int .u8 n).wf = true) ∧ (AA r = none → C r = 0) ∧
        ∀ a', AA r = some a' → base ≤ a'.block ∧ ∀ q, q < C r → W.cell? (a'.add q) = some (.int .u8 ((Z r).getD q 0))) : ∃ ll, Pt W (some x) l c ll ∧ ∀ y ∈ ll, IsB y := by
  unfold maxLen at hm
  refine ⟨(List.range l).map fun r => (Z r).take (L r), ⟨hl, ⟨by simp, by omega, fun hp => ⟨x, rfl, fun j p hj => ?_⟩⟩⟩, fun y hy => ?_⟩
  · rw [List.getElem?_map] at hj
    obtain ⟨r, hr, rfl⟩ := Option.map_eq_some_iff.1 hj
    have hjl : j < l := by have := (List.getElem?_eq_some_iff.1 hr).1; simpa using this
    obtain rfl : r = j := by rw [List.getElem?_range hjl] at hr; injection hr with hr; exact hr.symm
    obtain ⟨h1, h2, h3, h4, h5, h6, h7⟩ := hrows r (by omega)
    unfold maxLen at h3
    have htl : ((Z r).take (L r)).length = L r := by rw [List.length_take]; omega
    refine ⟨[.slice (AA r) (L r) (C r)], rfl, ⟨AA r, C r, by rw [htl], by rw [htl]; exact h2, Kd.C_of_reads (d := (0 : Int)) (h1 := fun _ => rfl) ⟨rfl, by rw [htl]; omega, fun hp2 => ?_⟩⟩, fun i u hu => ?_⟩
    · rw [htl] at hp2
      cases hA : AA r with
      | none => have := h6 hA; omega
      | some a' =>
        refine ⟨a', rfl, fun q hq => ?_⟩
        rw [htl] at hq
        rw [(h7 a' hA).2 q (by omega)]
        simp only [List.getD_eq_getElem?_getD]
        rw [List.getElem?_take_of_lt hq]
    · have hi : i = 0 := by
        have := (List.getElem?_eq_some_iff.1 hu).1
        simp at this; omega
      subst hi
      simp at hu
      subst hu
      have e : r * (Kd.slice 5 (Kd.int .u8)).sz + 0 = r := Nat.mul_one r
      rw [e]; exact h1
  · obtain ⟨r, hr, rfl⟩ := List.mem_map.1 hy
    have hjl := List.mem_range.1 hr
    obtain ⟨h1, h2, h3, h4, h5, _⟩ := hrows r (by omega)
    exact fun z hz => wf_u8 (h5 z (List.mem_of_mem_take hz))
theorem ow_lt {w : World} {base : Nat} {u : Value} {xs : List Int} (h : Ow w base u xs) : ∀ k, u.ownBlock = some k → k < w.heap.size := fun k hk => by
  obtain ⟨inner, hi⟩ := Kd.R_own h
  exact own_lt hi k hk
theorem ow_ge {w : World} {base : Nat} {u : Value} {xs : List Int} (h : Ow w base u xs) : ∀ k, u.ownBlock = some k → base ≤ k := fun k hk => by
  obtain ⟨inner, hi⟩ := Kd.R_own h
  exact own_base hi k hk
theorem ow_ne {w : World} {base g t : Nat} {u : Value} {xs : List Int} {cs : List Value} (h : Ow w base u xs) (hg : Blk w g t cs) (ht : t ≠ 5) : some g ≠ u.ownBlock := fun e => by
  obtain ⟨cells, hc⟩ := Kd.R_typed h g e.symm
  have hg' := hc.symm.trans hg
  injection hg' with hg'; injection hg' with _ hg'
  exact ht hg'.symm
theorem ow_fr {w w1 : World} {base base' g : Nat} {u v : Value} {xs r s b : List Int} {row : Option Nat} (h : Ow w base u xs) (hS : St w base' g v r s b) (hf : Fr w w1 g row) (hne : u.ownBlock = none ∨ u.ownBlock ≠ row) : Ow w1 base u xs :=
  Kd.R_mono (Kd.R_step (Kd.R_tight rfl h) (fun k hk hlt => hf.block k hlt (by rintro rfl; exact ow_ne h hS.blk (by decide) hk) (by
    rcases hne with e | e
    · rw [e] at hk; cases hk
    · rw [hk]; exact e))) (fun _ _ => trivial)
theorem st_grown {w w1 : World} {base g : Nat} {v : Value} {r s b : List Int} {row : Option Nat} (h : St w base g v r s b) (hg : w.grownBy w1 row) (h2 : some g ≠ row) (h4 : v.ownBlock = none ∨ v.ownBlock ≠ row) : St w1 base g v r s b :=
  ⟨h.ge, h.isB, h.rl, h.rb, h.sl, h.sw, blk_grow h.blk hg h2, q_move h.tail (fun k hk => hg.block k (h.row_lt k hk) (by
    rcases h4 with e | e
    · rw [e] at hk; cases hk
    · rw [← hk]; exact e))⟩
theorem other {v v' : Value} {N : Nat} (h : ∀ k, v.ownBlock = some k → k < N) (h' : ∀ k, v'.ownBlock = some k → N ≤ k) : v'.ownBlock = none ∨ v'.ownBlock ≠ v.ownBlock := by
  cases hv : v'.ownBlock with
  | none => exact .inl rfl
  | some k => exact .inr (fun e => by have := h k e.symm; have := h' k hv; omega)
theorem other' {v v1 v' : Value} {N : Nat} (h : v1.ownBlock = v.ownBlock ∨ ∃ k, v1.ownBlock = some k ∧ N ≤ k) (h' : v'.ownBlock = none ∨ v'.ownBlock ≠ v.ownBlock) (hl : ∀ k, v'.ownBlock = some k → k < N) : v1.ownBlock = none ∨ v1.ownBlock ≠ v'.ownBlock := by
  rcases h with e | ⟨k, e, hk⟩
  · rcases h' with e' | e'
    · cases hv : v1.ownBlock with
      | none => exact .inl rfl
      | some q => exact .inr (fun x => by rw [e'] at x; cases x)
    · exact .inr (fun x => e' (by rw [← x, e]))
  · exact .inr (fun x => by have := hl k (by rw [← x, e]); omega)
theorem flat_isB {ll : List (List Int)} (h : ∀ l ∈ ll, IsB l) : IsB ll.flatten := fun x hx => by
  obtain ⟨l, hl, hx⟩ := List.mem_flatten.1 hx
  exact h l hl x hx
theorem flat_100 (ll : List (List Int)) (h : ∀ l ∈ ll, l.length ≤ 100) : ll.flatten.length ≤ 100 * ll.length := by
  induction ll with
  | nil => simp
  | cons a ll ih =>
    have := h a (by simp)
    have := ih (fun l hl => h l (by simp [hl]))
    simp only [List.flatten_cons, List.length_append, List.length_cons]; omega
end Go.Proofs.Ytkjmjgiklelpiaa.OtX
/- onetime: digits, the document's sum. -/
namespace Go.Proofs.Ytkjmjgiklelpiaa.OtD
open Go.RowKit Go.Proofs.YtkjmjgiklelpiaaW.PrintWords Go.Proofs.Ytkjmjgiklelpiaa.Num Go.Proofs.Ytkjmjgiklelpiaa.WordC Go.Proofs.Ytkjmjgiklelpiaa.Arr Go.Proofs.Ytkjmjgiklelpiaa.App Go.Proofs.Ytkjmjgiklelpiaa.CiC Go.Proofs.Ytkjmjgiklelpiaa.CiD Go.Proofs.Ytkjmjgiklelpiaa.OtC Go.Proofs.Ytkjmjgiklelpiaa.OtR Go.Proofs.Ytkjmjgiklelpiaa.OtL Go.Proofs.Ytkjmjgiklelpiaa.OtV Go.Proofs.Ytkjmjgiklelpiaa.OtN
set_option linter.unusedVariables false
set_option linter.unusedSimpArgs false

/-- The number of the first n digits to the base 256. -/
def dn (l : List Int) : Nat → Int
  | 0 => 0
  | n + 1 => dn l n + l.getD n 0 * 256 ^ n
theorem p256 (n : Nat) : (0 : Int) < 256 ^ n := Int.pow_pos (by decide)
theorem dn_congr {a b : List Int} {n : Nat} (h : ∀ i, i < n → a.getD i 0 = b.getD i 0) : dn a n = dn b n := by
  induction n with
  | zero => rfl
  | succ n ih => simp only [dn]; rw [ih (fun i hi => h i (by omega)), h n (by omega)]
theorem getD_over {l : List Int} {i : Nat} (h : l.length ≤ i) : l.getD i 0 = 0 := by rw [List.getD_eq_getElem?_getD, List.getElem?_eq_none h]; rfl
theorem dn_over {l : List Int} {n : Nat} (h : l.length ≤ n) : dn l n = dn l l.length := by
  induction n with
  | zero => rw [Nat.le_zero.1 h]
  | succ n ih =>
    by_cases hn : l.length = n + 1
    · rw [hn]
    · simp only [dn]; rw [getD_over (by omega), ih (by omega)]; omega
theorem dn_append {a b : List Int} {n : Nat} (h : n ≤ a.length) : dn (a ++ b) n = dn a n :=
  dn_congr fun i hi => by rw [List.getD_eq_getElem?_getD, List.getElem?_append_left (by omega), ← List.getD_eq_getElem?_getD]
theorem dn_snoc (a : List Int) (x : Int) : dn (a ++ [x]) (a.length + 1) = dn a a.length + x * 256 ^ a.length := by
  simp only [dn]
  rw [dn_append (Nat.le_refl _)]
  simp
theorem dn_range {l : List Int} (h : IsB l) (n : Nat) : 0 ≤ dn l n ∧ dn l n < 256 ^ n := by
  induction n with
  | zero => exact ⟨Int.le_refl _, by show (0 : Int) < _; decide⟩
  | succ n ih =>
    have hd := getD_isB h n
    have hp := p256 n
    simp only [dn]
    generalize l.getD n 0 = d at *
    have h1 : 0 ≤ d * 256 ^ n := Int.mul_nonneg hd.1 (Int.le_of_lt hp)
    have h2 : d * 256 ^ n ≤ 255 * 256 ^ n := Int.mul_le_mul_of_nonneg_right (by omega) (Int.le_of_lt hp)
    rw [Int.pow_succ]
    omega
theorem dn_mono {l : List Int} (h : IsB l) {m n : Nat} (hmn : m ≤ n) : dn l m ≤ dn l n := by
  induction n with
  | zero => rw [Nat.le_zero.1 hmn]; exact Int.le_refl _
  | succ n ih =>
    by_cases hm : m = n + 1
    · rw [hm]; exact Int.le_refl _
    · have := ih (by omega)
      have h2 : 0 ≤ l.getD n 0 * 256 ^ n := Int.mul_nonneg (getD_isB h n).1 (Int.le_of_lt (p256 n))
      simp only [dn]; omega
/-- Digits are told by their number. -/
theorem dn_inj {a b : List Int} (ha : IsB a) (hb : IsB b) (n : Nat) (h : dn a n = dn b n) : ∀ i, i < n → a.getD i 0 = b.getD i 0 := by
  induction n with
  | zero => intro i hi; omega
  | succ n ih =>
    have h1 := dn_range ha n
    have h2 := dn_range hb n
    simp only [dn] at h
    have hp := p256 n
    have hd : a.getD n 0 = b.getD n 0 := by
      generalize a.getD n 0 = x at *
      generalize b.getD n 0 = y at *
      have e1 : (dn a n + x * 256 ^ n) / 256 ^ n = x := by rw [Int.add_mul_ediv_right _ _ (by omega), Int.ediv_eq_zero_of_lt h1.1 h1.2]; omega
      have e2 : (dn b n + y * 256 ^ n) / 256 ^ n = y := by rw [Int.add_mul_ediv_right _ _ (by omega), Int.ediv_eq_zero_of_lt h2.1 h2.2]; omega
      rw [← e1, ← e2, h]
    rw [hd] at h
    intro i hi
    by_cases hn : i = n
    · rw [hn]; exact hd
    · exact ih (by omega) i (by omega)
theorem dn_ext {a b : List Int} (ha : IsB a) (hb : IsB b) (hl : a.length = b.length) (h : dn a a.length = dn b b.length) : a = b := by
  apply List.ext_getElem hl
  intro i h1 h2
  have := dn_inj ha hb a.length (by rw [h, ← hl]) i h1
  simpa [List.getD_eq_getElem?_getD, List.getElem?_eq_getElem h1, List.getElem?_eq_getElem h2] using this
theorem dn_split (l : List Int) (m n : Nat) : dn l (m + n) = dn l m + dn (l.drop m) n * 256 ^ m := by
  induction n with
  | zero => simp [dn]
  | succ n ih =>
    rw [show m + (n + 1) = (m + n) + 1 from rfl]
    simp only [dn]
    rw [ih, show (l.drop m).getD n 0 = l.getD (m + n) 0 by rw [List.getD_eq_getElem?_getD, List.getElem?_drop, ← List.getD_eq_getElem?_getD], Int.add_mul, Int.mul_assoc, ← Int.pow_add, Nat.add_comm n m]
    omega
theorem dn_take (l : List Int) (m n : Nat) (h : n ≤ m) : dn (l.take m) n = dn l n :=
  dn_congr fun i hi => by rw [List.getD_eq_getElem?_getD, List.getElem?_take_of_lt (by omega), ← List.getD_eq_getElem?_getD]
/-- le: the program's word of bytes is the digits' number. -/
theorem le_dn (l : List Int) : le l = dn l l.length := by
  have h : ∀ (n : Nat) (l : List Int), l.length = n → le l = dn l n := by
    intro n
    induction n with
    | zero => intro l hl; rw [List.eq_nil_of_length_eq_zero hl]; rfl
    | succ n ih =>
      intro l hl
      match l with
      | [] => cases hl
      | x :: l =>
        have h1 : le (x :: l) = le l * 256 + x := by unfold le; rw [List.reverse_cons, be_snoc]
        have h2 := dn_split (x :: l) 1 n
        rw [Nat.add_comm] at h2
        rw [h1, h2, ih l (by simpa using hl)]
        simp [dn]
        omega
  exact h _ l rfl

theorem wrap64_id (x : Int) (h0 : -9223372036854775808 ≤ x) (h1 : x < 9223372036854775808) : wrap64 x = x := by unfold wrap64; omega
/-! ### the document's digits -/
theorem digits_l0 (b : List Int) (hb : IsB b) (hn : b.length < 17592186044416) : ∀ (k i : Nat), i ≤ b.length → b.length < k + i → OtRef.hypogeumref06_digits.l0 k b (b.take i) (i : Int) = some b := by
  intro k
  induction k with
  | zero => intro i h1 h2; omega
  | succ k ih =>
    intro i h1 h2
    unfold OtRef.hypogeumref06_digits.l0
    by_cases hi : i < b.length
    · have hd := getD_isB hb i
      have e : b.take i ++ [wrap64 (rd b (i : Int))] = b.take (i + 1) := by
        rw [wrap64_id _ (by unfold rd; rw [Int.toNat_natCast]; omega) (by unfold rd; rw [Int.toNat_natCast]; omega)]
        unfold rd
        rw [Int.toNat_natCast, List.getD_eq_getElem?_getD, List.getElem?_eq_getElem hi, Option.getD_some, List.take_append_getElem hi]
      rw [if_pos (by omega), if_pos (by omega), if_pos (by rw [List.length_take]; omega), e, wrap64_id _ (by omega) (by omega)]
      exact ih (i + 1) (by omega) (by omega)
    · rw [if_neg (by omega), List.take_of_length_le (by omega)]
theorem digits_eq (b : List Int) (hb : IsB b) (hn : b.length < 17592186044416) : OtRef.hypogeumref06_digits.f (b.length + 1) b = some b := digits_l0 b hb hn _ 0 (by omega) (by omega)
theorem at_eq (l : List Int) (i : Nat) : OtRef.hypogeumref06_at.f l (i : Int) = some (l.getD i 0) := by
  unfold OtRef.hypogeumref06_at.f
  by_cases h : i < l.length
  · rw [if_pos (by omega), if_pos (by omega)]; unfold rd; rw [Int.toNat_natCast]
  · rw [if_neg (by omega), getD_over (by omega)]
theorem mx_nat (a b : Nat) : mx (a : Int) (b : Int) = ((max a b : Nat) : Int) := by unfold mx; split <;> omega
theorem tdiv_pos (x : Int) (h : 0 ≤ x) : Int.tdiv x 256 = x / 256 ∧ Int.tmod x 256 = x % 256 := ⟨Int.tdiv_eq_ediv_of_nonneg h, Int.tmod_eq_emod_of_nonneg h⟩
theorem sum_l0 (a b : List Int) (ha : IsB a) (hb : IsB b) (hla : a.length < 1000000) (hlb : b.length < 1000000) : ∀ (k i : Nat) (out : List Int) (c : Int), i ≤ max a.length b.length + 1 → max a.length b.length + 1 < k + i → out.length = i → IsB out → 0 ≤ c ∧ c ≤ 1 → dn out i + c * 256 ^ i = dn a i + dn b i →
    ∃ s, OtRef.hypogeumref06_sum.l0 k a b out c (i : Int) = some s ∧ s.length = max a.length b.length + 1 ∧ IsB s ∧ dn s s.length = dn a a.length + dn b b.length := by
  intro k
  induction k with
  | zero => intro i out c h1 h2; omega
  | succ k ih =>
    intro i out c h1 h2 hl hO hc he
    unfold OtRef.hypogeumref06_sum.l0
    rw [mx_nat, wrap64_id _ (by omega) (by omega)]
    by_cases hi : i < max a.length b.length + 1
    · have hx := getD_isB ha i
      have hy := getD_isB hb i
      rw [if_pos (by omega), at_eq, Option.bind_some, at_eq, Option.bind_some, if_pos (by omega)]
      have hda : dn a (i + 1) = dn a i + a.getD i 0 * 256 ^ i := rfl
      have hdb : dn b (i + 1) = dn b i + b.getD i 0 * 256 ^ i := rfl
      generalize a.getD i 0 = x at *
      generalize b.getD i 0 = y at *
      rw [wrap64_id (x + y) (by omega) (by omega), wrap64_id (x + y + c) (by omega) (by omega), (tdiv_pos _ (by omega)).1, (tdiv_pos _ (by omega)).2, wrap64_id _ (by omega) (by omega), wrap64_id (i + 1 : Int) (by omega) (by omega)]
      refine ih (i + 1) (out ++ [(x + y + c) % 256]) ((x + y + c) / 256) (by omega) (by omega) (by simp [hl]) ?_ (by omega) ?_
      · intro z hz
        rcases List.mem_append.1 hz with hz | hz
        · exact hO z hz
        · rw [List.mem_singleton.1 hz]; omega
      · have h1 := dn_snoc out ((x + y + c) % 256)
        rw [hl] at h1
        rw [h1, hda, hdb, Int.pow_succ]
        have h3 : (x + y + c) = (x + y + c) % 256 + 256 * ((x + y + c) / 256) := by omega
        generalize (x + y + c) % 256 = q at *
        generalize (x + y + c) / 256 = p at *
        have h4 : x = q + 256 * p - y - c := by omega
        rw [h4]
        generalize (256 : Int) ^ i = B at *
        grind
    · rw [if_neg (by omega)]
      have hi' : i = max a.length b.length + 1 := by omega
      refine ⟨out, rfl, by omega, hO, ?_⟩
      have h1 := dn_over (l := a) (n := i) (by omega)
      have h2 := dn_over (l := b) (n := i) (by omega)
      rw [hl, ← h1, ← h2, ← he]
      have hia : dn a i < 256 ^ (i - 1) := by
        rw [h1, ← dn_over (l := a) (n := i - 1) (by omega)]; exact (dn_range ha _).2
      have hib : dn b i < 256 ^ (i - 1) := by
        rw [h2, ← dn_over (l := b) (n := i - 1) (by omega)]; exact (dn_range hb _).2
      have hp : (256 : Int) ^ i = 256 ^ (i - 1) * 256 := by rw [← Int.pow_succ]; congr 1; omega
      have h0 := (dn_range hO i).1
      have hq := p256 (i - 1)
      have : c = 0 := by
        rcases Int.lt_or_le c 1 with h | h
        · omega
        · have hc1 : c = 1 := by omega
          rw [hc1, hp] at he
          generalize (256 : Int) ^ (i - 1) = B at *
          omega
      rw [this]; omega
theorem sum_eq (a b : List Int) (ha : IsB a) (hb : IsB b) (hla : a.length < 1000000) (hlb : b.length < 1000000) : ∃ s, OtRef.hypogeumref06_sum.f (max a.length b.length + 2) a b = some s ∧ s.length = max a.length b.length + 1 ∧ IsB s ∧ dn s s.length = dn a a.length + dn b b.length :=
  sum_l0 a b ha hb hla hlb _ 0 [] 0 (by omega) (by omega) rfl (by intro x hx; cases hx) (by omega) rfl
end Go.Proofs.Ytkjmjgiklelpiaa.OtD
/- onetime: the document's product. -/
namespace Go.Proofs.Ytkjmjgiklelpiaa.OtE
open Go.RowKit Go.Proofs.YtkjmjgiklelpiaaW.PrintWords Go.Proofs.Ytkjmjgiklelpiaa.Num Go.Proofs.Ytkjmjgiklelpiaa.WordC Go.Proofs.Ytkjmjgiklelpiaa.Arr Go.Proofs.Ytkjmjgiklelpiaa.App Go.Proofs.Ytkjmjgiklelpiaa.CiC Go.Proofs.Ytkjmjgiklelpiaa.CiD Go.Proofs.Ytkjmjgiklelpiaa.OtC Go.Proofs.Ytkjmjgiklelpiaa.OtR Go.Proofs.Ytkjmjgiklelpiaa.OtL Go.Proofs.Ytkjmjgiklelpiaa.OtV Go.Proofs.Ytkjmjgiklelpiaa.OtN Go.Proofs.Ytkjmjgiklelpiaa.OtD
set_option linter.unusedVariables false
set_option linter.unusedSimpArgs false

theorem dn_set (l : List Int) (m : Nat) (x : Int) (n : Nat) (hm : m < l.length) : dn (l.set m x) n = if m < n then dn l n + (x - l.getD m 0) * 256 ^ m else dn l n := by
  induction n with
  | zero => rfl
  | succ n ih =>
    simp only [dn]
    rw [ih]
    by_cases h : m = n
    · subst h
      rw [if_neg (by omega), if_pos (by omega), List.getD_eq_getElem?_getD, List.getElem?_set_self hm, Option.getD_some]
      generalize (256 : Int) ^ m = B
      grind
    · have e : (l.set m x).getD n 0 = l.getD n 0 := by rw [List.getD_eq_getElem?_getD, List.getElem?_set_ne h, ← List.getD_eq_getElem?_getD]
      rw [e]
      by_cases h1 : m < n
      · rw [if_pos h1, if_pos (by omega)]; omega
      · rw [if_neg h1, if_neg (by omega)]
theorem mul_byte {x y : Int} (hx : 0 ≤ x ∧ x < 256) (hy : 0 ≤ y ∧ y < 256) : 0 ≤ x * y ∧ x * y ≤ 65025 := by
  constructor
  · exact Int.mul_nonneg hx.1 hy.1
  · have h1 : x * y ≤ x * 255 := Int.mul_le_mul_of_nonneg_left (by omega) hx.1
    omega
/-- One row of a product. -/
theorem product_l1 (a b : List Int) (ha : IsB a) (hb : IsB b) (hla : a.length < 1000000) (hlb : b.length < 1000000) (i : Nat) (hi : i < a.length) (o0 : List Int) (ho0 : IsB o0) (hlen : o0.length = a.length + b.length + 1) (hbd : dn o0 o0.length + a.getD i 0 * 256 ^ i * dn b b.length < 256 ^ o0.length) :
    ∀ (n j : Nat) (out : List Int) (c : Int) (K : Nat), out.length = o0.length → IsB out → i + j + n = out.length → 0 ≤ c ∧ c < 256 → dn out out.length + c * 256 ^ (i + j) = dn o0 o0.length + a.getD i 0 * 256 ^ i * dn b j →
      ∃ out', OtRef.hypogeumref06_product.l1 (K + n + 1) a b out (i : Int) c (j : Int) = OtRef.hypogeumref06_product.l0 K a b out' ((i + 1 : Nat) : Int) ∧ out'.length = o0.length ∧ IsB out' ∧ dn out' out'.length = dn o0 o0.length + a.getD i 0 * 256 ^ i * dn b b.length := by
  intro n
  induction n with
  | zero =>
    intro j out c K hl hO hn hc he
    refine ⟨out, ?_, hl, hO, ?_⟩
    · unfold OtRef.hypogeumref06_product.l1
      rw [wrap64_id (_ + _ : Int) (by omega) (by omega), if_neg (by omega), wrap64_id _ (by omega) (by omega)]
      rfl
    · have hj : dn b j = dn b b.length := dn_over (by omega)
      rw [hj] at he
      have h0 := (dn_range hO out.length).1
      have hp := p256 (i + j)
      rw [← he, ← hl, show out.length = i + j by omega] at hbd
      rw [show out.length = i + j by omega] at he h0 ⊢
      have : c = 0 := by
        rcases Int.lt_or_le c 1 with h | h
        · omega
        · have h1 : 1 * 256 ^ (i + j) ≤ c * 256 ^ (i + j) := Int.mul_le_mul_of_nonneg_right h (Int.le_of_lt hp)
          omega
      rw [this] at he
      omega
  | succ n ih =>
    intro j out c K hl hO hn hc he
    have hx := getD_isB hO (i + j)
    have hy := getD_isB ha i
    have hz := getD_isB hb j
    have hm := mul_byte hy hz
    unfold OtRef.hypogeumref06_product.l1
    rw [show ((i : Int) + (j : Int)) = ((i + j : Nat) : Int) by omega, wrap64_id _ (by omega) (by omega), if_pos (by omega), if_pos (by omega), if_pos (by omega), if_pos (by omega), at_eq, Option.bind_some]
    unfold rd
    rw [Int.toNat_natCast, Int.toNat_natCast]
    have hset := fun x => dn_set out (i + j) x out.length (by omega)
    have hdj : dn b (j + 1) = dn b j + b.getD j 0 * 256 ^ j := rfl
    generalize out.getD (i + j) 0 = x at *
    generalize hY : a.getD i 0 = y at *
    generalize b.getD j 0 = z at *
    rw [wrap64_id (y * z) (by omega) (by omega), wrap64_id (x + y * z) (by omega) (by omega), wrap64_id (x + y * z + c) (by omega) (by omega), (tdiv_pos _ (by omega)).1, (tdiv_pos _ (by omega)).2, wrap64_id _ (by omega) (by omega), wrap64_id (j + 1 : Int) (by omega) (by omega)]
    obtain ⟨out', h1, h2, h3, h4⟩ := ih (j + 1) (out.set (i + j) ((x + y * z + c) % 256)) ((x + y * z + c) / 256) K (by simpa using hl) (set_isB hO _ (by omega) (by omega)) (by rw [List.length_set]; omega) (by omega) (by
      rw [List.length_set, hset, if_pos (by omega), hdj, show i + (j + 1) = (i + j) + 1 from rfl, Int.pow_succ]
      have h3 : (x + y * z + c) = (x + y * z + c) % 256 + 256 * ((x + y * z + c) / 256) := by omega
      generalize (x + y * z + c) % 256 = q at *
      generalize (x + y * z + c) / 256 = p at *
      have hq : q = x + y * z + c - 256 * p := by omega
      rw [hq, Int.pow_add] at *
      generalize (256 : Int) ^ i = B at *
      generalize (256 : Int) ^ j = C at *
      generalize dn out out.length = D at *
      generalize dn b j = E at *
      generalize dn o0 o0.length = F at *
      grind)
    refine ⟨out', ?_, h2, h3, h4⟩
    rw [← h1]
    rfl
theorem product_l0 (a b : List Int) (ha : IsB a) (hb : IsB b) (hla : a.length < 1000000) (hlb : b.length < 1000000) :
    ∀ (n i : Nat) (out : List Int), i + n = a.length → out.length = a.length + b.length + 1 → IsB out → dn out out.length = dn a i * dn b b.length →
      ∃ s, OtRef.hypogeumref06_product.l0 (n * (a.length + b.length + 3) + 1) a b out (i : Int) = some s ∧ s.length = a.length + b.length + 1 ∧ IsB s ∧ dn s s.length = dn a a.length * dn b b.length := by
  intro n
  induction n with
  | zero =>
    intro i out hn hl hO he
    refine ⟨out, ?_, hl, hO, by rw [he, show i = a.length by omega]⟩
    unfold OtRef.hypogeumref06_product.l0
    rw [if_neg (by omega)]
  | succ n ih =>
    intro i out hn hl hO he
    have hda : dn a (i + 1) = dn a i + a.getD i 0 * 256 ^ i := rfl
    have hbd : dn out out.length + a.getD i 0 * 256 ^ i * dn b b.length < 256 ^ out.length := by
      rw [he, hl]
      have h1 := (dn_range ha (i + 1))
      have h2 := (dn_range hb b.length)
      have h3 : dn a i * dn b b.length + a.getD i 0 * 256 ^ i * dn b b.length = dn a (i + 1) * dn b b.length := by rw [hda, Int.add_mul]
      rw [h3]
      have h4 : dn a (i + 1) * dn b b.length ≤ 256 ^ (i + 1) * dn b b.length := Int.mul_le_mul_of_nonneg_right (by omega) h2.1
      have h5 : (256 : Int) ^ (i + 1) * dn b b.length < 256 ^ (i + 1) * 256 ^ b.length := Int.mul_lt_mul_of_pos_left h2.2 (p256 _)
      have h6 : (256 : Int) ^ (i + 1) * 256 ^ b.length ≤ 256 ^ (a.length + b.length + 1) := by
        rw [← Int.pow_add]
        have h7 := Nat.pow_le_pow_right (n := 256) (by omega) (show i + 1 + b.length ≤ a.length + b.length + 1 by omega)
        have h8 : (((256 : Nat) ^ (i + 1 + b.length) : Nat) : Int) ≤ (((256 : Nat) ^ (a.length + b.length + 1) : Nat) : Int) := Int.ofNat_le.2 h7
        rw [Int.natCast_pow, Int.natCast_pow] at h8
        exact h8
      omega
    obtain ⟨out', h1, h2, h3, h4⟩ := product_l1 a b ha hb hla hlb i (by omega) out hO hl hbd (a.length + b.length + 1 - i) 0 out 0 (n * (a.length + b.length + 3) + 1 + i) rfl hO (by omega) (by omega) (by show _ + 0 * _ = _ + _ * 0; omega)
    have h5 := ih (i + 1) out' (by omega) (by rw [h2, hl]) h3 (by rw [h4, he, hda, Int.add_mul])
    obtain ⟨s, h6, h7⟩ := h5
    refine ⟨s, ?_, h7⟩
    have hmono : OtRef.hypogeumref06_product.l0 (n * (a.length + b.length + 3) + 1 + i) a b out' ((i + 1 : Nat) : Int) = some s := by
      have hm : ∀ d, OtRef.hypogeumref06_product.l0 (n * (a.length + b.length + 3) + 1 + d) a b out' ((i + 1 : Nat) : Int) = some s := by
        intro d
        induction d with
        | zero => exact h6
        | succ d ihd => exact (OtRef.hypogeumref06_product.mono_l _).1 _ _ _ _ _ ihd
      exact hm i
    rw [show (n + 1) * (a.length + b.length + 3) + 1 = (n * (a.length + b.length + 3) + 1 + i + (a.length + b.length + 1 - i) + 1) + 1 by rw [Nat.succ_mul]; omega]
    unfold OtRef.hypogeumref06_product.l0
    rw [if_pos (by omega)]
    rw [← hmono, ← h1]
    rfl
theorem product_eq (a b : List Int) (ha : IsB a) (hb : IsB b) (hla : a.length < 1000000) (hlb : b.length < 1000000) : ∃ s, OtRef.hypogeumref06_product.f (a.length * (a.length + b.length + 3) + 1) a b = some s ∧ s.length = a.length + b.length + 1 ∧ IsB s ∧ dn s s.length = dn a a.length * dn b b.length := by
  have e : wrap64 (wrap64 ((a.length : Int) + (b.length : Int)) + 1) = ((a.length + b.length + 1 : Nat) : Int) := by rw [wrap64_id ((a.length : Int) + (b.length : Int)) (by omega) (by omega), wrap64_id _ (by omega) (by omega)]; omega
  unfold OtRef.hypogeumref06_product.f
  rw [e, if_pos (by omega), Int.toNat_natCast, if_pos (by omega)]
  have hz : ∀ n m, dn (List.replicate m 0) n = 0 := by
    intro n m
    induction n with
    | zero => rfl
    | succ n ih => simp only [dn]; rw [ih, List.getD_eq_getElem?_getD, List.getElem?_replicate]; split <;> simp
  exact product_l0 a b ha hb hla hlb a.length 0 _ (by omega) (by simp) (by intro x hx; rw [List.mem_replicate] at hx; rw [hx.2]; decide) (by rw [hz]; simp [dn])
end Go.Proofs.Ytkjmjgiklelpiaa.OtE
/- onetime: the document's fold and least. -/
namespace Go.Proofs.Ytkjmjgiklelpiaa.OtF
open Go.RowKit Go.Proofs.YtkjmjgiklelpiaaW.PrintWords Go.Proofs.Ytkjmjgiklelpiaa.Num Go.Proofs.Ytkjmjgiklelpiaa.WordC Go.Proofs.Ytkjmjgiklelpiaa.Arr Go.Proofs.Ytkjmjgiklelpiaa.App Go.Proofs.Ytkjmjgiklelpiaa.CiC Go.Proofs.Ytkjmjgiklelpiaa.CiD Go.Proofs.Ytkjmjgiklelpiaa.OtC Go.Proofs.Ytkjmjgiklelpiaa.OtR Go.Proofs.Ytkjmjgiklelpiaa.OtL Go.Proofs.Ytkjmjgiklelpiaa.OtV Go.Proofs.Ytkjmjgiklelpiaa.OtN Go.Proofs.Ytkjmjgiklelpiaa.OtD Go.Proofs.Ytkjmjgiklelpiaa.OtE
set_option linter.unusedVariables false
set_option linter.unusedSimpArgs false

/-- With fuel enough. -/
def Evn {α : Type} (f : Nat → Option α) (r : α) : Prop := ∃ k, f k = some r
theorem lift {α : Type} {f : Nat → Option α} {r : α} {k : Nat} (hm : ∀ k, LeO (f k) (f (k + 1))) (h : f k = some r) (n : Nat) (hn : k ≤ n) : f n = some r := by
  obtain ⟨d, rfl⟩ := Nat.exists_eq_add_of_le hn
  clear hn
  induction d with
  | zero => exact h
  | succ d ih => exact hm _ _ ih
def lowT (a : List Int) : Nat → List Int
  | 0 => []
  | n + 1 => lowT a n ++ [a.getD n 0]
def lowS (a : List Int) : List Int := (lowT a 17).set 16 (a.getD 16 0 % 4)
def highT (a : List Int) : Nat → List Int
  | 0 => []
  | n + 1 => highT a n ++ [a.getD (16 + n) 0 / 4 + a.getD (16 + n + 1) 0 % 4 * 64]
theorem lowT_length (a : List Int) (n : Nat) : (lowT a n).length = n := by
  induction n with
  | zero => rfl
  | succ n ih => simp [lowT, ih]
theorem highT_length (a : List Int) (n : Nat) : (highT a n).length = n := by
  induction n with
  | zero => rfl
  | succ n ih => simp [highT, ih]
theorem snoc_isB {l : List Int} (h : IsB l) {x : Int} (h0 : 0 ≤ x) (h1 : x < 256) : IsB (l ++ [x]) := by
  intro z hz
  rcases List.mem_append.1 hz with hz | hz
  · exact h z hz
  · rw [List.mem_singleton.1 hz]; exact ⟨h0, h1⟩
theorem lowT_isB {a : List Int} (h : IsB a) (n : Nat) : IsB (lowT a n) := by
  induction n with
  | zero => intro x hx; cases hx
  | succ n ih => exact snoc_isB ih (getD_isB h n).1 (getD_isB h n).2
theorem highT_isB {a : List Int} (h : IsB a) (n : Nat) : IsB (highT a n) := by
  induction n with
  | zero => intro x hx; cases hx
  | succ n ih =>
    have h1 := getD_isB h (16 + n)
    have h2 := getD_isB h (16 + n + 1)
    exact snoc_isB ih (by omega) (by omega)
theorem lowT_dn (a : List Int) (n : Nat) : dn (lowT a n) n = dn a n := by
  induction n with
  | zero => rfl
  | succ n ih =>
    have h1 := dn_snoc (lowT a n) (a.getD n 0)
    rw [lowT_length] at h1
    simp only [lowT]
    rw [h1, ih]
    rfl
theorem lowS_dn (a : List Int) : dn (lowS a) 17 = dn a 16 + a.getD 16 0 % 4 * 256 ^ 16 := by
  unfold lowS
  rw [dn_set _ _ _ _ (by rw [lowT_length]; omega), if_pos (by omega), lowT_dn]
  have h1 : (lowT a 17).getD 16 0 = a.getD 16 0 := by
    show (lowT a 16 ++ [a.getD 16 0]).getD 16 0 = _
    rw [List.getD_eq_getElem?_getD, List.getElem?_append_right (by rw [lowT_length]; omega), lowT_length]
    rfl
  rw [h1]
  simp only [dn]
  generalize (256 : Int) ^ 16 = B
  grind
theorem highT_dn (a : List Int) (n : Nat) : dn a 16 + a.getD 16 0 % 4 * 256 ^ 16 + 1361129467683753853853498429727072845824 * dn (highT a n) n = dn a (16 + n) + a.getD (16 + n) 0 % 4 * 256 ^ (16 + n) := by
  induction n with
  | zero => simp [dn, highT]
  | succ n ih =>
    have h1 := dn_snoc (highT a n) (a.getD (16 + n) 0 / 4 + a.getD (16 + n + 1) 0 % 4 * 64)
    rw [highT_length] at h1
    simp only [highT]
    rw [h1, show 16 + (n + 1) = 16 + n + 1 from rfl, show dn a (16 + n + 1) = dn a (16 + n) + a.getD (16 + n) 0 * 256 ^ (16 + n) from rfl]
    generalize a.getD (16 + n + 1) 0 = y at *
    generalize a.getD (16 + n) 0 = x at *
    have e : (256 : Int) ^ (16 + n + 1) = 256 ^ (16 + n) * 256 := Int.pow_succ _ _
    have e2 : (256 : Int) ^ (16 + n) = 340282366920938463463374607431768211456 * 256 ^ n := by rw [Int.pow_add]; rfl
    rw [e, e2]
    rw [e2] at ih
    rw [Int.mul_add, ← Int.add_assoc, ih]
    generalize dn a (16 + n) = D at *
    generalize (256 : Int) ^ n = B at *
    have hx : x = 4 * (x / 4) + x % 4 := by omega
    generalize y % 4 = z at *
    generalize x / 4 = p at *
    generalize x % 4 = q at *
    grind
/-- A number parted above 2^130. -/
theorem part_dn (a : List Int) : dn a a.length = dn (lowS a) 17 + 1361129467683753853853498429727072845824 * dn (highT a (a.length - 16)) (a.length - 16) := by
  rw [lowS_dn]
  by_cases h : 16 ≤ a.length
  · rw [highT_dn, show 16 + (a.length - 16) = a.length by omega, getD_over (Nat.le_refl _)]; omega
  · have h1 := dn_over (l := a) (n := 16) (by omega)
    rw [show a.length - 16 = 0 by omega, h1, getD_over (by omega)]
    simp [dn]
theorem lowS_isB {a : List Int} (h : IsB a) : IsB (lowS a) := set_isB (lowT_isB h 17) _ (by omega) (by omega)
theorem lowS_length (a : List Int) : (lowS a).length = 17 := by simp [lowS, lowT_length]
theorem lowS_range {a : List Int} (h : IsB a) : 0 ≤ dn (lowS a) 17 ∧ dn (lowS a) 17 < 1361129467683753853853498429727072845824 := by
  have h1 := dn_range h 16
  rw [lowS_dn, show (256 : Int) ^ 16 = 340282366920938463463374607431768211456 from rfl] at *
  omega
theorem fold_l2 (a low : List Int) (ha : IsB a) (hla : a.length < 1000) (n : Int) (s t r : List Int) (hp : Evn (fun k => OtRef.hypogeumref06_product.f k (highT a (a.length - 16)) [5]) t) (hs : Evn (fun k => OtRef.hypogeumref06_sum.f k low t) s) (hr : Evn (fun k => OtRef.hypogeumref06_fold.l0 k s (wrap64 (n + 1))) r) :
    ∀ m i, i + m = a.length - 16 → Evn (fun k => OtRef.hypogeumref06_fold.l2 k a n low (highT a i) ((16 + i : Nat) : Int)) r := by
  intro m
  induction m with
  | zero =>
    intro i hi
    obtain ⟨k1, h1⟩ := hp
    obtain ⟨k2, h2⟩ := hs
    obtain ⟨k3, h3⟩ := hr
    refine ⟨k1 + k2 + k3 + 1, ?_⟩
    have e1 := lift (f := fun k => OtRef.hypogeumref06_product.f k (highT a (a.length - 16)) [5]) (OtRef.hypogeumref06_product.mono _ _) h1 (k1 + k2 + k3) (by omega)
    have e2 := lift (f := fun k => OtRef.hypogeumref06_sum.f k low t) (OtRef.hypogeumref06_sum.mono _ _) h2 (k1 + k2 + k3) (by omega)
    have e3 := lift (f := fun k => OtRef.hypogeumref06_fold.l0 k s (wrap64 (n + 1))) (fun k => (OtRef.hypogeumref06_fold.mono_l k).1 _ _) h3 (k1 + k2 + k3) (by omega)
    show OtRef.hypogeumref06_fold.l2 (k1 + k2 + k3 + 1) a n low (highT a i) ((16 + i : Nat) : Int) = some r
    unfold OtRef.hypogeumref06_fold.l2
    rw [if_neg (by omega), show i = a.length - 16 by omega, e1, Option.bind_some, e2, Option.bind_some, e3]
  | succ m ih =>
    intro i hi
    obtain ⟨k, h⟩ := ih (i + 1) (by omega)
    refine ⟨k + 1, ?_⟩
    show OtRef.hypogeumref06_fold.l2 (k + 1) a n low (highT a i) ((16 + i : Nat) : Int) = some r
    unfold OtRef.hypogeumref06_fold.l2
    have h1 := getD_isB ha (16 + i)
    have h2 := getD_isB ha (16 + i + 1)
    rw [if_pos (by omega), at_eq, Option.bind_some, wrap64_id (_ + 1 : Int) (by omega) (by omega), show (((16 + i : Nat) : Int) + 1) = ((16 + i + 1 : Nat) : Int) by omega, at_eq, Option.bind_some, if_pos (by rw [highT_length]; omega)]
    have e : Int.tdiv (a.getD (16 + i) 0) 4 = a.getD (16 + i) 0 / 4 := Int.tdiv_eq_ediv_of_nonneg h1.1
    have e2 : Int.tmod (a.getD (16 + i + 1) 0) 4 = a.getD (16 + i + 1) 0 % 4 := Int.tmod_eq_emod_of_nonneg h2.1
    rw [e, e2, wrap64_id (_ / 4) (by omega) (by omega), wrap64_id (_ % 4 * 64) (by omega) (by omega), wrap64_id _ (by omega) (by omega)]
    exact h
theorem fold_l1 (a : List Int) (ha : IsB a) (n : Int) (r : List Int) (h2 : Evn (fun k => OtRef.hypogeumref06_fold.l2 k a n (lowS a) [] 16) r) :
    ∀ m i, i + m = 17 → Evn (fun k => OtRef.hypogeumref06_fold.l1 k a n (lowT a i) (i : Int)) r := by
  intro m
  induction m with
  | zero =>
    intro i hi
    obtain ⟨k, h⟩ := h2
    obtain rfl : i = 17 := by omega
    refine ⟨k + 1, ?_⟩
    show OtRef.hypogeumref06_fold.l1 (k + 1) a n (lowT a 17) ((17 : Nat) : Int) = some r
    unfold OtRef.hypogeumref06_fold.l1
    have e : (lowT a 17).set (16 : Int).toNat (Int.tmod (rd (lowT a 17) 16) 4) = lowS a := by
      unfold lowS
      have h1 := getD_isB ha 16
      have h3 : rd (lowT a 17) 16 = a.getD 16 0 := by
        show (lowT a 16 ++ [a.getD 16 0]).getD 16 0 = _
        rw [List.getD_eq_getElem?_getD, List.getElem?_append_right (by rw [lowT_length]; omega), lowT_length]
        rfl
      rw [h3, Int.tmod_eq_emod_of_nonneg h1.1]
      rfl
    rw [if_neg (by omega), if_pos (by rw [lowT_length]; omega), e]
    exact h
  | succ m ih =>
    intro i hi
    obtain ⟨k, h⟩ := ih (i + 1) (by omega)
    refine ⟨k + 1, ?_⟩
    show OtRef.hypogeumref06_fold.l1 (k + 1) a n (lowT a i) (i : Int) = some r
    unfold OtRef.hypogeumref06_fold.l1
    rw [if_pos (by omega), at_eq, Option.bind_some, if_pos (by rw [lowT_length]; omega), wrap64_id (_ + 1 : Int) (by omega) (by omega)]
    exact h
theorem five_isB : IsB [5] := by intro x hx; rw [List.mem_singleton.1 hx]; decide
theorem fold_round (a : List Int) (ha : IsB a) (hla : a.length < 1000) (n : Nat) (hn : n < 3) : ∃ s h, s.length = max 17 (a.length - 16 + 2) + 1 ∧ IsB s ∧ dn a a.length = dn (lowS a) 17 + 1361129467683753853853498429727072845824 * h ∧ 0 ≤ h ∧ dn s s.length = dn (lowS a) 17 + 5 * h ∧
    ∀ r, Evn (fun k => OtRef.hypogeumref06_fold.l0 k s ((n + 1 : Nat) : Int)) r → Evn (fun k => OtRef.hypogeumref06_fold.l0 k a (n : Int)) r := by
  obtain ⟨t, h1, h2, h3, h4⟩ := product_eq (highT a (a.length - 16)) [5] (highT_isB ha _) five_isB (by rw [highT_length]; omega) (by decide)
  obtain ⟨s, g1, g2, g3, g4⟩ := sum_eq (lowS a) t (lowS_isB ha) h3 (by rw [lowS_length]; omega) (by rw [h2, highT_length]; simp; omega)
  rw [lowS_length, h2, highT_length] at g2
  refine ⟨s, dn (highT a (a.length - 16)) (a.length - 16), by simpa [Nat.add_assoc] using g2, g3, part_dn a, (dn_range (highT_isB ha _) _).1, ?_, ?_⟩
  · rw [g4, h4, lowS_length, highT_length]
    simp [dn]
    omega
  · intro r hr
    have e2 := fold_l2 a (lowS a) ha hla (n : Int) s t r ⟨_, h1⟩ ⟨_, g1⟩ (by rw [wrap64_id _ (by omega) (by omega)]; exact hr) (a.length - 16) 0 (by omega)
    obtain ⟨k, hk⟩ := fold_l1 a ha (n : Int) r e2 17 0 (by omega)
    refine ⟨k + 1, ?_⟩
    show OtRef.hypogeumref06_fold.l0 (k + 1) a (n : Int) = some r
    unfold OtRef.hypogeumref06_fold.l0
    rw [if_pos (by omega)]
    exact hk
theorem fold_eq (a : List Int) (ha : IsB a) (hla : a.length ≤ 45) (hb : dn a a.length < 926336713898529563388567880069503262826159877325124512315660672063305037119488) : ∃ s, Evn (fun k => OtRef.hypogeumref06_fold.f k a) s ∧ s.length = 18 ∧ IsB s ∧ dn s s.length < 1361129467683753853853498429727072845824 ∧ dn s s.length % P130 = dn a a.length % P130 := by
  obtain ⟨s1, h1, l1, b1, v1, n1, e1, r1⟩ := fold_round a ha (by omega) 0 (by omega)
  obtain ⟨s2, h2, l2, b2, v2, n2, e2, r2⟩ := fold_round s1 b1 (by omega) 1 (by omega)
  obtain ⟨s3, h3, l3, b3, v3, n3, e3, r3⟩ := fold_round s2 b2 (by omega) 2 (by omega)
  have w1 := lowS_range ha
  have w2 := lowS_range b1
  have w3 := lowS_range b2
  refine ⟨s3, r1 _ (r2 _ (r3 _ ⟨1, rfl⟩)), by omega, b3, ?_, ?_⟩
  · rw [e3]
    clear r1 r2 r3 l1 l2 l3
    omega
  · rw [e3, v1]
    unfold P130
    clear r1 r2 r3 l1 l2 l3
    omega
theorem less_l1 (a : List Int) (ha : IsB a) : ∀ n i : Nat, i + n = 16 → 1 ≤ i → (∀ j, 1 ≤ j → j < i → a.getD j 0 = 255) → Evn (fun k => OtRef.hypogeumref06_less.l1 k a (i : Int)) (decide (dn a 16 < 340282366920938463463374607431768211451)) := by
  have g := getD_isB ha
  intro n
  induction n with
  | zero =>
    intro i hi h1 hall
    obtain rfl : i = 16 := by omega
    refine ⟨1, ?_⟩
    show OtRef.hypogeumref06_less.l1 1 a ((16 : Nat) : Int) = _
    unfold OtRef.hypogeumref06_less.l1
    rw [if_neg (by omega), show (0 : Int) = ((0 : Nat) : Int) from rfl, at_eq, Option.bind_some]
    congr 1
    have e : dn a 16 = a.getD 0 0 + 340282366920938463463374607431768211200 := by
      simp only [dn]
      rw [hall 1 (by omega) (by omega), hall 2 (by omega) (by omega), hall 3 (by omega) (by omega), hall 4 (by omega) (by omega), hall 5 (by omega) (by omega), hall 6 (by omega) (by omega), hall 7 (by omega) (by omega), hall 8 (by omega) (by omega), hall 9 (by omega) (by omega), hall 10 (by omega) (by omega), hall 11 (by omega) (by omega), hall 12 (by omega) (by omega), hall 13 (by omega) (by omega), hall 14 (by omega) (by omega), hall 15 (by omega) (by omega)]
      omega
    rw [e]
    exact decide_eq_decide.2 (by omega)
  | succ n ih =>
    intro i hi h1 hall
    by_cases hd : a.getD i 0 < 255
    · refine ⟨1, ?_⟩
      show OtRef.hypogeumref06_less.l1 1 a (i : Int) = _
      unfold OtRef.hypogeumref06_less.l1
      rw [if_pos (by omega), at_eq, Option.bind_some, if_pos hd]
      congr 1
      symm
      rw [decide_eq_true_iff]
      have e1 := dn_split a i (16 - i)
      rw [show i + (16 - i) = 16 by omega] at e1
      have e2 := dn_split (a.drop i) 1 (15 - i)
      rw [show 1 + (15 - i) = 16 - i by omega] at e2
      have hI : IsB ((a.drop i).drop 1) := fun x hx => ha x (List.mem_of_mem_drop (List.mem_of_mem_drop hx))
      have r1 := dn_range ha i
      have r2 := dn_range hI (15 - i)
      have e3 : dn (a.drop i) 1 = a.getD i 0 := by
        simp only [dn]
        rw [List.getD_eq_getElem?_getD, List.getElem?_drop, Nat.add_zero, ← List.getD_eq_getElem?_getD]; omega
      rw [e3] at e2
      rw [e1, e2]
      generalize a.getD i 0 = d at *
      generalize dn ((a.drop i).drop 1) (15 - i) = u at *
      generalize dn a i = v at *
      have e4 : (256 : Int) ^ (15 - i) * 256 ^ (i + 1) = 340282366920938463463374607431768211456 := by rw [← Int.pow_add, show 15 - i + (i + 1) = 16 by omega]; rfl
      have e5 : (256 : Int) ^ (i + 1) = 256 ^ i * 256 := Int.pow_succ _ _
      have e6 : (256 : Int) ≤ 256 ^ i := by
        have := Nat.pow_le_pow_right (n := 256) (by omega) h1
        rw [Nat.pow_one] at this
        have h8 : (((256 : Nat)) : Int) ≤ (((256 : Nat) ^ i : Nat) : Int) := Int.ofNat_le.2 this
        rw [Int.natCast_pow] at h8
        exact h8
      rw [e5] at e4
      generalize (256 : Int) ^ i = B at *
      generalize (256 : Int) ^ (15 - i) = C at *
      rw [Int.pow_one]
      have h3 : d + u * 256 ≤ 254 + (C - 1) * 256 := by omega
      have h4 : (d + u * 256) * B ≤ (254 + (C - 1) * 256) * B := Int.mul_le_mul_of_nonneg_right h3 (by omega)
      have h5 : (254 + (C - 1) * 256) * B = C * (B * 256) - 2 * B := by grind
      rw [h5, e4] at h4
      omega
    · have hd' : a.getD i 0 = 255 := by have := g i; omega
      obtain ⟨k, h⟩ := ih (i + 1) (by omega) (by omega) (fun j h2 h3 => by
        by_cases hj : j = i
        · rw [hj]; exact hd'
        · exact hall j h2 (by omega))
      refine ⟨k + 1, ?_⟩
      show OtRef.hypogeumref06_less.l1 (k + 1) a (i : Int) = _
      unfold OtRef.hypogeumref06_less.l1
      rw [if_pos (by omega), at_eq, Option.bind_some, if_neg hd, wrap64_id _ (by omega) (by omega)]
      exact h
theorem less_eq (a : List Int) (ha : IsB a) (hl : a.length = 18) (hb : dn a a.length < 1361129467683753853853498429727072845824) : Evn (fun k => OtRef.hypogeumref06_less.f k a) (decide (dn a a.length < P130)) := by
  obtain ⟨k, h⟩ := less_l1 a ha 15 1 (by omega) (by omega) (fun j h1 h2 => by omega)
  have g16 := getD_isB ha 16
  have g17 := getD_isB ha 17
  have r16 := dn_range ha 16
  have e : dn a a.length = dn a 16 + a.getD 16 0 * 340282366920938463463374607431768211456 + a.getD 17 0 * 87112285931760246646623899502532662132736 := by rw [hl]; rfl
  rw [show (256 : Int) ^ 16 = 340282366920938463463374607431768211456 from rfl] at r16
  rw [e] at hb ⊢
  have h17 : a.getD 17 0 = 0 := by omega
  refine ⟨k + 2, ?_⟩
  show OtRef.hypogeumref06_less.l0 (k + 1 + 1) a 17 = _
  unfold OtRef.hypogeumref06_less.l0
  rw [if_pos (by omega), if_pos (by omega), if_neg (by unfold rd; rw [show (17 : Int).toNat = 17 from rfl, h17]; omega), wrap64_id _ (by omega) (by omega)]
  unfold OtRef.hypogeumref06_less.l0
  rw [if_neg (by omega), show (16 : Int) = ((16 : Nat) : Int) from rfl, at_eq, Option.bind_some]
  by_cases h3 : a.getD 16 0 = 3
  · rw [if_pos h3]
    refine (show OtRef.hypogeumref06_less.l1 k a 1 = _ from h).trans ?_
    congr 1
    rw [h3, h17]
    unfold P130
    exact decide_eq_decide.2 (by omega)
  · rw [if_neg h3, Option.bind_some]
    congr 1
    rw [h17]
    unfold P130
    exact decide_eq_decide.2 (by omega)
/-- The least: what the document's 'least' gives. -/
theorem least_eq (a : List Int) (ha : IsB a) (hl : a.length = 18) (hb : dn a a.length < 1361129467683753853853498429727072845824) :
    Evn (fun k => OtRef.hypogeumref06_less.f k a) true ∧ dn a a.length = dn a a.length % P130 ∨
    Evn (fun k => OtRef.hypogeumref06_less.f k a) false ∧ ∃ s, Evn (fun k => OtRef.hypogeumref06_sum.f k a [5]) s ∧ s.length = 19 ∧ IsB s ∧ IsB ((s.set 16 (s.getD 16 0 % 4)).take 17) ∧ dn ((s.set 16 (s.getD 16 0 % 4)).take 17) 17 = dn a a.length % P130 := by
  have h := less_eq a ha hl hb
  have h0 := (dn_range ha a.length).1
  by_cases hp : dn a a.length < P130
  · rw [decide_eq_true hp] at h
    exact .inl ⟨h, (Int.emod_eq_of_lt h0 hp).symm⟩
  · rw [decide_eq_false hp] at h
    refine .inr ⟨h, ?_⟩
    obtain ⟨s, g1, g2, g3, g4⟩ := sum_eq a [5] ha five_isB (by omega) (by decide)
    have hs : IsB (s.set 16 (s.getD 16 0 % 4)) := set_isB g3 _ (by omega) (by omega)
    refine ⟨s, ⟨_, g1⟩, by rw [g2, hl]; rfl, g3, fun x hx => hs x (List.mem_of_mem_take hx), ?_⟩
    rw [dn_take _ _ _ (Nat.le_refl _), dn_set _ _ _ _ (by rw [g2, hl]; decide), if_pos (by omega)]
    have e1 := part_dn s
    have r1 := lowS_range g3
    have r2 := (dn_range (highT_isB g3 (s.length - 16)) (s.length - 16)).1
    rw [lowS_dn] at e1 r1
    have e2 : dn s 17 = dn s 16 + s.getD 16 0 * 256 ^ 16 := rfl
    rw [e2]
    have e3 : dn s s.length = dn a a.length + 5 := by rw [g4]; simp [dn]
    rw [e3] at e1
    rw [show (256 : Int) ^ 16 = 340282366920938463463374607431768211456 from rfl] at *
    unfold P130 at *
    omega
end Go.Proofs.Ytkjmjgiklelpiaa.OtF
/- onetime: the document's tag, walked. -/
namespace Go.Proofs.Ytkjmjgiklelpiaa.OtG
open Go.RowKit Go.Proofs.YtkjmjgiklelpiaaW.PrintWords Go.Proofs.Ytkjmjgiklelpiaa.Num Go.Proofs.Ytkjmjgiklelpiaa.WordC Go.Proofs.Ytkjmjgiklelpiaa.Arr Go.Proofs.Ytkjmjgiklelpiaa.App Go.Proofs.Ytkjmjgiklelpiaa.CiC Go.Proofs.Ytkjmjgiklelpiaa.CiD Go.Proofs.Ytkjmjgiklelpiaa.OtC Go.Proofs.Ytkjmjgiklelpiaa.OtR Go.Proofs.Ytkjmjgiklelpiaa.OtL Go.Proofs.Ytkjmjgiklelpiaa.OtV Go.Proofs.Ytkjmjgiklelpiaa.OtN Go.Proofs.Ytkjmjgiklelpiaa.OtD Go.Proofs.Ytkjmjgiklelpiaa.OtE Go.Proofs.Ytkjmjgiklelpiaa.OtF
set_option linter.unusedVariables false
set_option linter.unusedSimpArgs false

/-- Whole numbers of one's own; those that are read. -/
abbrev OwI (w : World) (base : Nat) (v : Value) (l : List Int) : Prop := Kd.R (Kd.int .i64) 3 w base (fun _ => True) v l
/-- A slice of whole numbers that is read. -/
def RdI (w : World) (v : Value) (l : List Int) : Prop := ∃ A c, v = .slice A l.length c ∧ l.length ≤ c ∧ Kd.C (Kd.int .i64) w A l.length l
theorem RdI.of_ow {w : World} {base : Nat} {v : Value} {l : List Int} (h : OwI w base v l) : RdI w v l := by
  obtain ⟨A, c, rfl⟩ := Kd.R_slice h
  have := Kd.R_reads' h
  exact ⟨A, c, rfl, this.2.1, this.2.2⟩
theorem RdI.below {w w1 : World} {v : Value} {l : List Int} (h : RdI w v l) (hb : Below w.heap.size w w1) : RdI w1 v l := by
  obtain ⟨A, c, rfl, hc, hC⟩ := h
  exact ⟨A, c, rfl, hc, Kd.C_below hC hb⟩
theorem RdI.nil (w : World) : RdI w (.slice none 0 0) [] := RdI.of_ow (base := 0) (Kd.R_nil _ _ _ _ _)
theorem infoI : (Try.prog.info? 3).map (fun i => (i.zero, i.size, i.bytes)) = some (some (.int .i64 0), 1, 8) := by kernel_rfl
theorem owI_lit (W : World) (base : Nat) (xs : List Int) (hb : base ≤ W.heap.size) (hm : xs.length ≤ 100) : OwI (W.alloc (.cells (nums .i64 xs).toArray 3)) base (.slice (some ⟨W.heap.size, 0, none⟩) xs.length xs.length) xs :=
  Kd.R_of_own (own_lit W base 3 .i64 xs hb (by omega)) (fun _ _ => trivial)
theorem one_I (w : World) (n : Int) : Kd.C (Kd.int .i64) (w.alloc (.cells (nums .i64 [n]).toArray 3)) (some ⟨w.heap.size, 0, none⟩) 1 [n] := (Kd.R_reads' (owI_lit w 0 [n] (Nat.zero_le _) (by simp))).2.2
theorem sum_c {u v : Value} {a b s : List Int} {w : World} (ha : RdI w u a) (hb : RdI w v b) (h : Evn (fun k => OtRef.hypogeumref06_sum.f k a b) s) :
    Calls Try.prog 51 #[u, v] w fun e w' => ∃ v', e = .returned v' ∧ OwI w' w.heap.size v' s ∧ Below w.heap.size w w' := by
  obtain ⟨A, c, rfl, hc, hC⟩ := ha
  obtain ⟨A1, c1, rfl, hc1, hC1⟩ := hb
  obtain ⟨k, hk⟩ := h
  exact OtRef.hypogeumref06_sum.calls k A c a A1 c1 b s w hC hc hC1 hc1 hk
theorem product_c {u v : Value} {a b s : List Int} {w : World} (ha : RdI w u a) (hb : RdI w v b) (h : Evn (fun k => OtRef.hypogeumref06_product.f k a b) s) :
    Calls Try.prog 50 #[u, v] w fun e w' => ∃ v', e = .returned v' ∧ OwI w' w.heap.size v' s ∧ Below w.heap.size w w' := by
  obtain ⟨A, c, rfl, hc, hC⟩ := ha
  obtain ⟨A1, c1, rfl, hc1, hC1⟩ := hb
  obtain ⟨k, hk⟩ := h
  exact OtRef.hypogeumref06_product.calls k A c a A1 c1 b s w hC hc hC1 hc1 hk
theorem fold_c {v : Value} {base : Nat} {a s : List Int} {w : World} (ha : OwI w base v a) (h : Evn (fun k => OtRef.hypogeumref06_fold.f k a) s) :
    Calls Try.prog 49 #[v] w fun e w' => ∃ v', e = .returned v' ∧ RdI w' v' s ∧ Below w.heap.size w w' := by
  obtain ⟨A, c, rfl⟩ := Kd.R_slice ha
  obtain ⟨k, hk⟩ := h
  refine (OtRef.hypogeumref06_fold.calls k (fun _ => True) A c a s w (Kd.R_V ha) hk).mono ?_
  rintro e w' ⟨v, rfl, hv, hB⟩
  obtain ⟨A', c', rfl⟩ := Kd.V_slice hv
  have h3 := Kd.V_reads' hv
  exact ⟨_, rfl, ⟨A', c', rfl, h3.2.1, h3.2.2⟩, hB⟩
theorem less_c {v : Value} {a : List Int} {r : Bool} {w : World} (ha : RdI w v a) (h : Evn (fun k => OtRef.hypogeumref06_less.f k a) r) :
    Calls Try.prog 69 #[v] w fun e w' => e = .returned (.bool r) ∧ Below w.heap.size w w' := by
  obtain ⟨A, c, rfl, hc, hC⟩ := ha
  obtain ⟨k, hk⟩ := h
  refine (OtRef.hypogeumref06_less.calls k A c a r w hC hc hk).mono ?_
  rintro e w' ⟨rfl, ⟨n, rfl⟩⟩
  exact ⟨rfl, pw_below_drewN (Below.refl _ _) _⟩
theorem rdI_len {w : World} {A : Option Addr} {n c : Nat} {l : List Int} (h : RdI w (.slice A n c) l) : n = l.length ∧ n ≤ c := by
  obtain ⟨A', c', e, hc, _⟩ := h
  injection e with e1 e2 e3
  subst e1 e3
  exact ⟨e2, by omega⟩
theorem cutI (A : Option Addr) (n c k : Nat) (hk : k ≤ n) (hc : n ≤ c) {x : Int} (hx : x = k := by rfl) : ∀ W : World, (Instr.slice 73 (.slice A n c) none (some (.int .i64 x)) none).run Try.prog W = .ok (.slice A k c) W := by
  subst hx
  obtain ⟨i0, hi0, hz0⟩ := Option.map_eq_some_iff.1 infoI
  simp only [Prod.mk.injEq] at hz0
  have h := (print_take_int (P := Try.prog) (k := .i64) 73 3 Try.underlying73 hi0 hz0.2.1 A c (List.replicate n 0) (k : Int) (by omega) (by rw [List.length_replicate]; omega) (by rw [List.length_replicate]; exact hc)).1
  simpa [Nat.min_eq_left hk] using h
set_option maxHeartbeats 8000000 in
set_option maxRecDepth 100000 in
theorem least_c48 {v : Value} {a : List Int} {w : World} (ha : RdI w v a) (hb : IsB a) (hl : a.length = 18) (hv : dn a a.length < 1361129467683753853853498429727072845824) :
    Calls Try.prog 48 #[v] w fun e w' => ∃ v' l, e = .returned v' ∧ RdI w' v' l ∧ IsB l ∧ l.length ≤ 18 ∧ dn l l.length = dn a a.length % P130 ∧ Below w.heap.size w w' := by
  have HA := Aside0.mk ha
  have HB := Aside0.mk hb
  have HV := Aside0.mk hv
  have HL := Aside0.mk hl
  rcases least_eq a hb hl hv with ⟨h1, h2⟩ | ⟨h1, s, h2, h3, h4, h5, h6⟩
  · have H2 := Aside0.mk h2
    clear ha hb hv hl h2
    go_enter Try.func48, Try.ntmps48
    go_wp2_with fail
    refine (less_c HA.out h1).mono ?_
    rintro x w1 ⟨rfl, hb1⟩
    go_wp2_with fail
    go_ret
    exact ⟨v, a, rfl, HA.out.below hb1, HB.out, by rw [HL.out]; exact Nat.le_refl _, H2.out, hb1⟩
  · have H2 := Aside0.mk h2
    have H3 := Aside0.mk h3
    have H4 := Aside0.mk h4
    have H5 := Aside0.mk h5
    have H6 := Aside0.mk h6
    have hd := Aside0.mk (getD_isB h4 16)
    clear ha hb hv hl h2 h3 h4 h5 h6
    go_enter Try.func48, Try.ntmps48
    go_wp2_with fail
    refine (less_c HA.out h1).mono ?_
    rintro x w1 ⟨rfl, hb1⟩
    go_wp2_with fail
    have hb2 := hb1.alloc hb1.size (.cells (nums .i64 [5]).toArray 3)
    refine (sum_c (HA.out.below hb2) ⟨_, _, rfl, Nat.le_refl _, one_I w1 5⟩ H2.out).mono ?_
    rintro x w3 ⟨v3, rfl, ho3, hb3⟩
    have HB3 := Aside0.mk (hb2.trans (hb3.mono hb2.size))
    obtain ⟨g, cap, rfl, hg0, hg1, -⟩ := Kd.R_form ho3 (by rw [H3.out]; decide)
    have hn19 : s.length = 19 := H3.out
    rw [hn19] at ho3 ⊢
    have hcell := Kd.R_celln (0 : Int) ho3 16 (by decide) (by decide)
    have hput := Kd.R_putn ho3 16 (s.getD 16 0 % 4)
    have hcut := cutI (some ⟨g, 0, none⟩) 19 cap 17 (by decide) (by have := (Kd.R_reads' ho3).2.1; omega) (x := 17)
    have hrd : RdI (w3.setCell ⟨g, 16, none⟩ (.int .i64 (s.getD 16 0 % 4))) (.slice (some ⟨g, 0, none⟩) 17 cap) ((s.set 16 (s.getD 16 0 % 4)).take 17) := RdI.of_ow (Kd.R_take hput (m := 17) (by rw [List.length_set, hn19]; decide))
    have k16 : w3.cell? ⟨g, 16, none⟩ = some (.int .i64 (s.getD 16 0)) := hcell.1
    have f16 : w3.frozen? ⟨g, 16, none⟩ = false := hcell.2
    have e1 : Int.tmod (s.getD 16 0) 4 = s.getD 16 0 % 4 := Int.tmod_eq_emod_of_nonneg hd.out.1
    have HRD := Aside0.mk hrd
    have hs := HB3.out.size
    have HG0 : Aside0 (w.heap.size ≤ g) := ⟨by have := hb2.size; omega⟩
    have HLT : Aside0 ((List.take 17 (s.set 16 (s.getD 16 0 % 4))).length = 17) := ⟨by rw [List.length_take, List.length_set, hn19]; rfl⟩
    clear hput hcell hrd hb1 hb2 hb3 ho3 hn19 hg1
    obtain ⟨x, HX⟩ : ∃ x, Aside0 (s.getD 16 0 = x) := ⟨_, ⟨rfl⟩⟩
    rw [HX.out] at hd HRD H5 H6 HLT k16 e1
    have hd' := hd.out
    go_wp2_with fail
    go_ret
    exact ⟨_, _, rfl, HRD.out, H5.out, by rw [HLT.out]; decide, by rw [HLT.out]; exact H6.out, HB3.out.setCell (p := ⟨g, 16, none⟩) HG0.out _⟩
end Go.Proofs.Ytkjmjgiklelpiaa.OtG
/- onetime: the document's tag, walked. -/
namespace Go.Proofs.Ytkjmjgiklelpiaa.OtH
open Go.RowKit Go.Proofs.YtkjmjgiklelpiaaW.PrintWords Go.Proofs.Ytkjmjgiklelpiaa.Num Go.Proofs.Ytkjmjgiklelpiaa.WordC Go.Proofs.Ytkjmjgiklelpiaa.Arr Go.Proofs.Ytkjmjgiklelpiaa.App Go.Proofs.Ytkjmjgiklelpiaa.CiC Go.Proofs.Ytkjmjgiklelpiaa.CiD Go.Proofs.Ytkjmjgiklelpiaa.OtC Go.Proofs.Ytkjmjgiklelpiaa.OtR Go.Proofs.Ytkjmjgiklelpiaa.OtL Go.Proofs.Ytkjmjgiklelpiaa.OtV Go.Proofs.Ytkjmjgiklelpiaa.OtN Go.Proofs.Ytkjmjgiklelpiaa.OtD Go.Proofs.Ytkjmjgiklelpiaa.OtE Go.Proofs.Ytkjmjgiklelpiaa.OtF Go.Proofs.Ytkjmjgiklelpiaa.OtG
set_option linter.unusedVariables false
set_option linter.unusedSimpArgs false

/-- A block of the document's: its digits and a 1 behind them. -/
def blkD (b : List Int) (j : Nat) : List Int := (b.drop (16 * j)).take 16 ++ [1]
/-- What was tagged so far, by the document. -/
def hV (R : Int) (b : List Int) : Nat → Int
  | 0 => 0
  | j + 1 => ((hV R b j + dn (blkD b j) (blkD b j).length) * R) % P130
/-- How many blocks. -/
def nB (b : List Int) : Nat := (b.length + 15) / 16
/-- The tag of b by the key k. -/
structure IsTag (k b l : List Int) : Prop where
  isB : IsB l
  len : l.length = 16
  val : dn l 16 = (hV (dn (cutS (k.take 16)) 16) b (nB b) + dn (k.drop 16) 16) % 340282366920938463463374607431768211456
theorem IsTag.uniq {k b l m : List Int} (h : IsTag k b l) (h' : IsTag k b m) : l = m := dn_ext h.isB h'.isB (h.len.trans h'.len.symm) (by rw [h.len, h'.len, h.val, h'.val])
theorem hV_range (R : Int) (b : List Int) (j : Nat) : 0 ≤ hV R b j ∧ hV R b j < P130 := by
  cases j with
  | zero => exact ⟨Int.le_refl _, by show (0 : Int) < P130; unfold P130; decide⟩
  | succ j => exact ⟨Int.emod_nonneg _ (by unfold P130; decide), Int.emod_lt_of_pos _ (by unfold P130; decide)⟩
theorem one_isB : IsB [1] := by intro x hx; rw [List.mem_singleton.1 hx]; decide
theorem blkD_isB {b : List Int} (h : IsB b) (j : Nat) : IsB (blkD b j) := snoc_isB (fun x hx => h x (List.mem_of_mem_drop (List.mem_of_mem_take hx))) (by decide) (by decide)
theorem blkD_length (b : List Int) (j : Nat) : (blkD b j).length ≤ 17 := by simp [blkD]; omega
theorem blkD_lt {b : List Int} (h : IsB b) (j : Nat) : dn (blkD b j) (blkD b j).length < 680564733841876926926749214863536422912 := by
  unfold blkD
  have hI : IsB ((b.drop (16 * j)).take 16) := fun x hx => h x (List.mem_of_mem_drop (List.mem_of_mem_take hx))
  have hl : ((b.drop (16 * j)).take 16).length ≤ 16 := by simp; omega
  generalize (b.drop (16 * j)).take 16 = x at *
  have h1 := dn_snoc x 1
  rw [List.length_append, List.length_singleton, h1]
  have h2 := (dn_range hI x.length).2
  have h3 : (256 : Int) ^ x.length ≤ 340282366920938463463374607431768211456 := by
    have := Int.ofNat_le.2 (Nat.pow_le_pow_right (n := 256) (by omega) hl)
    rw [Int.natCast_pow, Int.natCast_pow] at this
    exact this
  omega
theorem dn_lt {l : List Int} (h : IsB l) {n : Nat} (hn : l.length ≤ n) : dn l l.length < 256 ^ n := by
  rw [← dn_over hn]; exact (dn_range h n).2
theorem append_owI {ops : Array Oper} {rest : List Oper} {o : Oper} {a : Act} {Q : Exit → Act → World → Prop} {w0 W : World} (base : Nat) (hgd : o.guard = none) (s x : Operand)
    (ho : o.op = .call { callee := .builtin .append, args := #[s, x], argTypes := #[73, 73] })
    (v : Value) (xs ys : List Int) (A : Option Addr) (m c : Nat) (hs : a.eval s = v) (hx : a.eval x = .slice A m c)
    (HO : OwI W base v xs) (HR : Kd.C (Kd.int .i64) W A m ys) (HB : Below base w0 W) (hbase : base ≤ W.heap.size) (hl : (xs.length + m) * 8 ≤ 140737488355328)
    (h : ∀ v1 w1, OwI w1 base v1 (xs ++ ys) → Below base w0 w1 → W.grownBy w1 v.ownBlock → wpList Try.prog ops Q rest (a.put o.dst v1) w1) :
    wpList Try.prog ops Q (o :: rest) a W :=
  Kd.R_append_rows (Kd.int .i64) (w0 := w0) base hgd s x 73 3 (.int .i64 0) 8 ho Try.underlying73 infoI rfl (by decide) (by omega) v xs ys A m c (fun _ => True) (fun _ => False) hs hx HO HR (fun _ _ h => h) (fun _ h => h.elim) (fun _ _ => trivial) HB hbase hl (fun v1 w1 h1 h2 h3 _ => h v1 w1 h1 h2 h3)
theorem digits_c {A : Option Addr} {n c : Nat} {b : List Int} {w : World} (hr : Rd w A n c b) (hb : IsB b) (hn : n < 17592186044416) :
    Calls Try.prog 47 #[.slice A n c] w fun e w' => ∃ v, e = .returned v ∧ OwI w' w.heap.size v b ∧ Below w.heap.size w w' := by
  have hl := hr.len
  subst hl
  exact OtRef.hypogeumref06_digits.calls _ A c b b w hr.cells hr.cap (digits_eq b hb hn)
theorem at_c {v : Value} {a : List Int} {w : World} (ha : RdI w v a) (i : Nat) {x : Int} (hx : x = i) :
    Calls Try.prog 52 #[v, .int .i64 x] w fun e w' => e = .returned (.int .i64 (a.getD i 0)) ∧ ∃ n, w' = w.drewN n := by
  subst hx
  obtain ⟨A, c, rfl, hc, hC⟩ := ha
  refine (OtRef.hypogeumref06_at.calls A c a i (a.getD i 0) w hC hc (at_eq a i)).mono ?_
  rintro e w' ⟨rfl, ⟨n, h⟩⟩
  exact ⟨rfl, n, h⟩
/-- One block: what becomes of the document's number. -/
theorem step_ref {r a bl : List Int} {h : Int} (hr : IsB r) (hrl : r.length = 16) (ha : IsB a) (hal : a.length ≤ 18) (hav : dn a a.length = h) (hh : 0 ≤ h ∧ h < P130) (hb : IsB bl) (hbl : bl.length ≤ 17) (hbv : dn bl bl.length < 680564733841876926926749214863536422912) :
    ∃ s t u, Evn (fun k => OtRef.hypogeumref06_sum.f k a bl) s ∧ Evn (fun k => OtRef.hypogeumref06_product.f k s r) t ∧ Evn (fun k => OtRef.hypogeumref06_fold.f k t) u ∧ IsB u ∧ u.length = 18 ∧ dn u u.length < 1361129467683753853853498429727072845824 ∧ dn u u.length % P130 = ((h + dn bl bl.length) * dn r 16) % P130 := by
  obtain ⟨s, s1, s2, s3, s4⟩ := sum_eq a bl ha hb (by omega) (by omega)
  obtain ⟨t, t1, t2, t3, t4⟩ := product_eq s r s3 hr (by omega) (by omega)
  have hb0 := (dn_range hb bl.length).1
  have hr1 := dn_range hr 16
  rw [hrl] at t4 t2
  have hp : dn t t.length < 926336713898529563388567880069503262826159877325124512315660672063305037119488 := by
    rw [t4, s4, hav]
    rw [show (256 : Int) ^ 16 = 340282366920938463463374607431768211456 from rfl] at hr1
    have h1 : (h + dn bl bl.length) * dn r 16 ≤ (h + dn bl bl.length) * 340282366920938463463374607431768211456 := Int.mul_le_mul_of_nonneg_left (by omega) (by omega)
    unfold P130 at hh
    omega
  obtain ⟨u, u1, u2, u3, u4, u5⟩ := fold_eq t t3 (by omega) hp
  exact ⟨s, t, u, ⟨_, s1⟩, ⟨_, t1⟩, u1, u3, u2, u4, by rw [u5, t4, s4, hav]⟩
theorem infoI8 : ∃ i, Try.prog.info? 3 = some i ∧ i.size = 1 := by
  obtain ⟨i, hi, hz⟩ := Option.map_eq_some_iff.1 infoI
  simp only [Prod.mk.injEq] at hz
  exact ⟨i, hi, hz.2.1⟩
theorem ownI_cell {w : World} {base g n cap : Nat} {l : List Int} (h : OwI w base (.slice (some ⟨g, 0, none⟩) n cap) l) (i : Nat) (hi : i < n) : w.cell? ⟨g, i, none⟩ = some (.int .i64 (l.getD i 0)) ∧ w.frozen? ⟨g, i, none⟩ = false := Kd.R_celln (0 : Int) h (i : Int) (by omega) (by omega)
theorem ownI_put {w : World} {base g n cap : Nat} {l : List Int} (h : OwI w base (.slice (some ⟨g, 0, none⟩) n cap) l) (i : Nat) (x : Int) : OwI (w.setCell ⟨g, i, none⟩ (.int .i64 x)) base (.slice (some ⟨g, 0, none⟩) n cap) (l.set i x) := Kd.R_putn h (i : Int) x
theorem one_B (w : World) (x : Int) : Rd (w.alloc (.cells (nums .u8 [x]).toArray 5)) (some ⟨w.heap.size, 0, none⟩) 1 1 [x] := by
  have h : Ow (w.alloc (.cells (nums .u8 [x]).toArray 5)) 0 (.slice (some ⟨w.heap.size, 0, none⟩) 1 1) [x] := Kd.R_of_own (own_lit w 0 5 .u8 [x] (Nat.zero_le _) (by simp)) (fun _ _ => trivial)
  obtain ⟨A, c, e, hr⟩ := rd_of_own h
  injection e with e1 e2 e3
  subst e1 e3
  exact hr
theorem lowT_tag {k b z : List Int} (hz : IsB z) (h : dn z z.length = hV (dn (cutS (k.take 16)) 16) b (nB b) + dn (k.drop 16) 16) : IsTag k b (lowT z 16) := by
  refine ⟨lowT_isB hz 16, lowT_length z 16, ?_⟩
  rw [lowT_dn, ← h]
  have h0 := dn_range hz 16
  by_cases hl : z.length ≤ 16
  · rw [← dn_over hl]; exact (Int.emod_eq_of_lt h0.1 h0.2).symm
  · have h1 := dn_split z 16 (z.length - 16)
    rw [show 16 + (z.length - 16) = z.length by omega] at h1
    rw [h1]
    rw [show (256 : Int) ^ 16 = 340282366920938463463374607431768211456 from rfl] at *
    rw [Int.add_mul_emod_self_right]
    exact (Int.emod_eq_of_lt h0.1 h0.2).symm
theorem wpList_min {ops : Array Oper} {rest : List Oper} {o : Oper} {a : Act} {w : World} {Q : Exit → Act → World → Prop} (hgd : o.guard = none) (x y : Operand)
    (ho : o.op = .call { callee := .builtin .min, args := #[x, y], argTypes := #[3, 3] }) (p q : Int) (hx : a.eval x = .int .i64 p) (hy : a.eval y = .int .i64 q) (m : Int) (hm : (if q < p then q else p) = m)
    (h : wpList Try.prog ops Q rest (a.put o.dst (.int .i64 m)) w) : wpList Try.prog ops Q (o :: rest) a w :=
  wpList_plain hgd fun _ hK => by
    subst hm
    unfold Oper.wp
    simp [execOp, ho, resolve, invoke, builtin, hx, hy, Go.Proofs.YtkjmjgiklelpiaaW.PrintMore.min_two, Go.Proofs.YtkjmjgiklelpiaaW.PrintMore.min2_int, Result.andThen]
    exact hK _ _ h
set_option maxHeartbeats 8000000 in
set_option maxRecDepth 100000 in
theorem refTag_c {A B : Option Addr} {c d n : Nat} {k b : List Int} {w : World} (hk : Rd w A 32 c k) (hb : Rd w B n d b) (bk : IsB k) (bb : IsB b) (hn : n ≤ 1000000) :
    Calls Try.prog 28 #[.slice A 32 c, .slice B n d] w fun e w' => ∃ v l, e = .returned (.tuple #[v, .int .i64 0]) ∧ Ow w' w.heap.size v l ∧ IsTag k b l ∧ Below w.heap.size w w' := by
  have HK := Aside0.mk hk
  have HBB := Aside0.mk hb
  have hl : k.length = 32 := hk.len
  have HL := Aside0.mk hl
  have hbl : b.length = n := hb.len
  have HBL := Aside0.mk hbl
  obtain ⟨hcut16, hrd16⟩ := rd_slice_to hk 16 (y := 16) (by omega) (by omega)
  have hk16 : IsB (k.take 16) := fun x hx => bk x (List.mem_of_mem_take hx)
  have HK16 := Aside0.mk hk16
  have hl16 : Aside0 ((k.take 16).length = 16) := ⟨by rw [List.length_take, HL.out]; rfl⟩
  clear hk hb hl hbl hk16
  go_enter Try.func28, Try.ntmps28
  go_wp2_with fail
  refine (digits_c hrd16 HK16.out (by omega)).mono ?_
  rintro x w1 ⟨v1, rfl, ho1, hb1⟩
  obtain ⟨G, cap, rfl, hg0, hg1, -⟩ := Kd.R_form ho1 (by rw [hl16.out]; decide)
  rw [hl16.out] at ho1 ⊢
  have HO1 := Aside0.mk ho1
  have hcut : Aside0 (cutS (k.take 16) = cutB (cutA (k.take 16) 4) 3) := ⟨rfl⟩
  obtain ⟨b0, HB0⟩ : ∃ z, Aside0 (k.take 16 = z) := ⟨_, ⟨rfl⟩⟩
  rw [HB0.out] at hl16 HK16 hcut HO1 hrd16 ho1
  clear ho1 hrd16
  go_wp2_with fail
  go_loopw [7] (fun i wr => ∃ t : Nat, t ≤ 4 ∧ i = .int .i64 (3 + 4 * (t : Int)) ∧ Aside0 (OwI wr w.heap.size (.slice (some ⟨G, 0, none⟩) 16 cap) (cutA b0 t)) ∧ Below w.heap.size w wr) (fun i _ => 20 - (intOf i).toNat)
  case atStart => exact ⟨0, by omega, rfl, HO1, hb1⟩
  case round =>
    clear HO1 hb1
    obtain ⟨t, ht, rfl, hX, hB⟩ := hrel
    by_cases hlt : t < 4
    · have hlt' : 3 + 4 * (t : Int) < 16 := by omega
      have n0 : 0 ≤ 3 + 4 * (t : Int) := by omega
      have n1 : (3 + 4 * (t : Int)).toNat = 3 + 4 * t := by omega
      obtain ⟨kx, fx⟩ := ownI_cell hX.out (3 + 4 * t) (by omega)
      have hx := getD_isB (cutA_isB HK16.out t) (3 + 4 * t)
      have hnx : Aside0 (cutA b0 (t + 1) = (cutA b0 t).set (3 + 4 * t) ((cutA b0 t).getD (3 + 4 * t) 0 % 16)) := ⟨rfl⟩
      generalize (cutA b0 t).getD (3 + 4 * t) 0 = x at *
      have e1 : Int.tmod x 16 = x % 16 := Int.tmod_eq_emod_of_nonneg hx.1
      go_wp2_with fail
      have R1 : Aside0 (OwI (wr.setCell ⟨G, 3 + 4 * t, none⟩ (.int .i64 (x % 16))) w.heap.size (.slice (some ⟨G, 0, none⟩) 16 cap) (cutA b0 (t + 1))) := ⟨by rw [hnx.out]; exact ownI_put hX.out _ _⟩
      go_roundw
      case rel => exact ⟨t + 1, by omega, by go_num, R1, hB.setCell (p := ⟨G, 3 + 4 * t, none⟩) hg0 _⟩
      case measure => simp [intOf]; omega
    · have hge : ¬ 3 + 4 * (t : Int) < 16 := by omega
      obtain rfl : t = 4 := by omega
      obtain ⟨b1, HB1⟩ : ∃ z, Aside0 (cutA b0 4 = z) := ⟨_, ⟨rfl⟩⟩
      have HI1 := Aside0.mk (cutA_isB HK16.out 4)
      have hl1 : Aside0 ((cutA b0 4).length = 16) := ⟨by rw [cutA_length]; exact hl16.out⟩
      rw [HB1.out] at HI1 hcut hX hl1
      go_wp2_with fail
      go_loopw [8] (fun i wr => ∃ t : Nat, t ≤ 3 ∧ i = .int .i64 (4 + 4 * (t : Int)) ∧ Aside0 (OwI wr w.heap.size (.slice (some ⟨G, 0, none⟩) 16 cap) (cutB b1 t)) ∧ Below w.heap.size w wr) (fun i _ => 20 - (intOf i).toNat)
      case atStart => exact ⟨0, by omega, rfl, hX, hB⟩
      case round =>
        clear hX hB
        obtain ⟨t, ht, rfl, hX, hB⟩ := hrel
        by_cases hlt : t < 3
        · have hlt' : 4 + 4 * (t : Int) < 16 := by omega
          have n0 : 0 ≤ 4 + 4 * (t : Int) := by omega
          have n1 : (4 + 4 * (t : Int)).toNat = 4 + 4 * t := by omega
          obtain ⟨kx, fx⟩ := ownI_cell hX.out (4 + 4 * t) (by omega)
          have hx := getD_isB (cutB_isB HI1.out t) (4 + 4 * t)
          have hnx : Aside0 (cutB b1 (t + 1) = (cutB b1 t).set (4 + 4 * t) ((cutB b1 t).getD (4 + 4 * t) 0 - (cutB b1 t).getD (4 + 4 * t) 0 % 4)) := ⟨rfl⟩
          generalize (cutB b1 t).getD (4 + 4 * t) 0 = x at *
          have e1 : Int.tmod x 4 = x % 4 := Int.tmod_eq_emod_of_nonneg hx.1
          go_wp2_with fail
          go_region
          have R1 : Aside0 (OwI (wr.setCell ⟨G, 4 + 4 * t, none⟩ (.int .i64 (x - x % 4))).drew w.heap.size (.slice (some ⟨G, 0, none⟩) 16 cap) (cutB b1 (t + 1))) := ⟨by rw [hnx.out]; exact Kd.R_drew (ownI_put hX.out _ _)⟩
          go_wp2_with fail
          go_roundw
          case rel => exact ⟨t + 1, by omega, by go_num, R1, (hB.setCell (p := ⟨G, 4 + 4 * t, none⟩) hg0 _).drew⟩
          case measure => simp [intOf]; omega
        · have hge : ¬ 4 + 4 * (t : Int) < 16 := by omega
          obtain rfl : t = 3 := by omega
          have hl2 : (cutB b1 3).length = 16 := by rw [cutB_length]; exact hl1.out
          have hi2 := cutB_isB HI1.out 3
          rw [← hcut.out] at hX hl2 hi2
          have HR2 := Aside0.mk (RdI.of_ow hX.out)
          obtain ⟨C, HC⟩ : ∃ z, Aside0 (cutS b0 = z) := ⟨_, ⟨rfl⟩⟩
          rw [HC.out] at HR2 hl2 hi2
          have HL2 := Aside0.mk hl2
          have HI2 := Aside0.mk hi2
          clear hX hl2 hi2
          go_wp2_with fail
          have hRv : Aside0 (dn C 16 = dn (cutS (k.take 16)) 16) := ⟨by rw [HB0.out, HC.out]⟩
          obtain ⟨R, HRR⟩ : ∃ z, Aside0 (dn C 16 = z) := ⟨_, ⟨rfl⟩⟩
          rw [HRR.out] at hRv
          obtain ⟨rv, HRV⟩ : ∃ z, Aside0 (z = Value.slice (some ⟨G, 0, none⟩) 16 cap) := ⟨_, ⟨rfl⟩⟩
          rw [← HRV.out] at HR2 ⊢
          have HW := Aside0.mk (Below.refl wr.heap.size wr)
          have HBW := Aside0.mk hB
          go_loopw [10, 9] (fun i v w3 => ∃ (j : Nat) (a : List Int), j ≤ nB b ∧ i = .int .i64 (16 * (j : Int)) ∧ Aside0 (RdI w3 v a) ∧ Aside0 (IsB a) ∧ Aside0 (a.length ≤ 18) ∧ Aside0 (dn a a.length = hV R b j) ∧ Below wr.heap.size wr w3) (fun i _ _ => n + 16 - (intOf i).toNat)
          case atStart => exact ⟨0, [], by omega, rfl, ⟨RdI.nil _⟩, ⟨by intro x hx; cases hx⟩, ⟨by decide⟩, ⟨rfl⟩, HW.out⟩
          case round =>
            obtain ⟨j, a, hj, rfl, hA, hAB, hAL, hAV, hB3⟩ := hrel
            have hbn : Aside0 (nB b = (n + 15) / 16) := ⟨by unfold nB; rw [HBL.out]⟩
            have hB3' := hB.trans (hB3.mono hB.size)
            by_cases hlt : 16 * j < n
            · have hlt' : 16 * (j : Int) < (n : Int) := by omega
              obtain ⟨m, hm⟩ : ∃ m : Nat, m = min (16 * j + 16) n := ⟨_, rfl⟩
              obtain ⟨A', c', hcut3, hrd3⟩ := rd_slice (HBB.out.below hB3') (16 * j) m (x := 16 * (j : Int)) (y := (m : Int)) (by omega) (by omega) (by omega) (by omega)
              have hblk : (b.take m).drop (16 * j) = (b.drop (16 * j)).take 16 := by
                rw [List.drop_take]
                by_cases h : 16 * j + 16 ≤ n
                · rw [hm, Nat.min_eq_left h, show 16 * j + 16 - 16 * j = 16 by omega]
                · rw [hm, Nat.min_eq_right (by omega), List.take_of_length_le (by rw [List.length_drop, HBL.out]; omega), List.take_of_length_le (by rw [List.length_drop, HBL.out]; omega)]
              have hI : IsB ((b.take m).drop (16 * j)) := fun x hx => bb x (List.mem_of_mem_take (List.mem_of_mem_drop hx))
              have hmi : (if (n : Int) < 16 * (j : Int) + 16 then (n : Int) else 16 * (j : Int) + 16) = m := by split <;> omega
              have HM : Aside0 (m - 16 * j < 17592186044416) := ⟨by omega⟩
              clear hm
              go_wp2_with (first
                | (at_builtin; refine wpList_min rfl (.tmp 58) (.tmp 60) rfl (16 * (j : Int) + 16) (n : Int) rfl rfl (m : Int) hmi ?_))
              refine (digits_c hrd3 hI HM.out).mono ?_
              rintro x w4 ⟨v4, rfl, ho4, hb4⟩
              rw [hblk] at ho4
              have hxl : ((b.drop (16 * j)).take 16).length ≤ 16 := by simp; omega
              have hbd : Aside0 (blkD b j = (b.drop (16 * j)).take 16 ++ [1]) := ⟨rfl⟩
              obtain ⟨X, HX⟩ : ∃ z, Aside0 ((b.drop (16 * j)).take 16 = z) := ⟨_, ⟨rfl⟩⟩
              rw [HX.out] at ho4 hxl hbd
              have HXL := Aside0.mk hxl
              have HO4 := Aside0.mk ho4
              have HB4 := Aside0.mk hb4
              clear hxl ho4 hb4 hcut3 hrd3 hblk hI hmi
              go_wp2_with (first
                | (have HO5 := Aside0.mk (Kd.R_alloc HO4.out (.cells (nums .i64 [1]).toArray 3)); have HB5 := Aside0.mk (HB4.out.alloc HB4.out.size (.cells (nums .i64 [1]).toArray 3)); refine append_owI (w0 := wr) wr.heap.size rfl (.tmp 63) (.tmp 64) rfl _ X [1] (some ⟨w4.heap.size, 0, none⟩) 1 1 rfl rfl HO5.out (one_I w4 1) HB5.out HB5.out.size (by have := HXL.out; omega) ?_; intro v6 w6 ho6 hb6 hg6; have HO6 := Aside0.mk ho6; have HB6 := Aside0.mk hb6; clear ho6 hb6 hg6))
              have hRR := HRR.out
              obtain ⟨s, t, u, E1, E2, E3, hu1, hu2, hu3, hu4⟩ := step_ref HI2.out HL2.out hAB.out hAL.out hAV.out (hV_range R b j) (blkD_isB bb j) (blkD_length b j) (blkD_lt bb j)
              rw [hRR] at hu4
              have HO6' : Aside0 (OwI w6 wr.heap.size v6 (blkD b j)) := ⟨by rw [hbd.out]; exact HO6.out⟩
              have hnx : Aside0 (hV R b (j + 1) = ((hV R b j + dn (blkD b j) (blkD b j).length) * R) % P130) := ⟨rfl⟩
              have U1 := Aside0.mk hu1
              have U2 := Aside0.mk hu2
              have U3 := Aside0.mk hu3
              have U4 := Aside0.mk hu4
              have F1 := Aside0.mk E1
              have F2 := Aside0.mk E2
              have F3 := Aside0.mk E3
              clear hu1 hu2 hu3 hu4 E1 E2 E3 hRR
              refine (sum_c (hA.out.below HB6.out) (RdI.of_ow HO6'.out) F1.out).mono ?_
              rintro x w7 ⟨v7, rfl, ho7, hb7⟩
              have HO7 := Aside0.mk (RdI.of_ow ho7)
              have hb7' := HB6.out.trans (hb7.mono HB6.out.size)
              have HC7 := Aside0.mk (HR2.out.below (hB3.trans (hb7'.mono hB3.size)))
              clear ho7 hb7
              go_wp2_with fail
              refine (product_c HO7.out HC7.out F2.out).mono ?_
              rintro x w8 ⟨v8, rfl, ho8, hb8⟩
              have HO8 := Aside0.mk ho8
              have hb8' := hb7'.trans (hb8.mono hb7'.size)
              clear ho8 hb8 hb7'
              go_wp2_with fail
              refine (fold_c HO8.out F3.out).mono ?_
              rintro x w9 ⟨v9, rfl, ho9, hb9⟩
              have HO9 := Aside0.mk ho9
              have hb9' := hb8'.trans (hb9.mono hb8'.size)
              clear ho9 hb9 hb8'
              go_wp2_with fail
              refine (least_c48 HO9.out U1.out U2.out U3.out).mono ?_
              rintro x w10 ⟨v10, l, rfl, hl1, hl2, hl3, hl4, hb10⟩
              have hb10' := hb9'.trans (hb10.mono hb9'.size)
              have L1 := Aside0.mk hl1
              have L2 := Aside0.mk hl2
              have L3 := Aside0.mk hl3
              have L4 : Aside0 (dn l l.length = hV R b (j + 1)) := ⟨by rw [hl4, U4.out, hnx.out]⟩
              clear hl1 hl2 hl3 hl4 hb10 hb9'
              have hbnv := hbn.out
              go_wp2_with fail
              go_roundw
              case rel => exact ⟨j + 1, l, by omega, by go_num, L1, L2, L3, L4, hB3.trans (hb10'.mono hB3.size)⟩
              case measure => simp [intOf]; omega
            · have hge : ¬ 16 * (j : Int) < (n : Int) := by omega
              have hbnv := hbn.out
              have hj' : j = nB b := by omega
              rw [hj'] at hAV
              obtain ⟨A', c', hcut3, hrd3⟩ := rd_slice_from (HK.out.below hB3') 16 (x := 16) (by omega) (by omega)
              have hI : IsB (k.drop 16) := fun x hx => bk x (List.mem_of_mem_drop hx)
              have hl16' : (k.drop 16).length = 16 := by rw [List.length_drop, HL.out]
              have hl17 : Aside0 ((k.drop 16).length = 16) := ⟨hl16'⟩
              obtain ⟨z, z1, z2, z3, z4⟩ := sum_eq a (k.drop 16) hAB.out hI (by have := hAL.out; omega) (by rw [hl16']; decide)
              rw [hAV.out, hl16'] at z4
              clear hbnv hj' hl16'
              have Z1 := Aside0.mk z1
              have Z3 := Aside0.mk z3
              have Z4 := Aside0.mk z4
              clear z1 z2 z3 z4
              go_wp2_with fail
              refine (digits_c hrd3 hI (by omega)).mono ?_
              rintro x w4 ⟨v4, rfl, ho4, hb4⟩
              have HO4 := Aside0.mk (RdI.of_ow ho4)
              have hb4' := hB3'.trans (hb4.mono hB3'.size)
              have HA4 := Aside0.mk (hA.out.below hb4)
              clear ho4 hb4 hrd3 hcut3
              go_wp2_with fail
              refine (sum_c HA4.out HO4.out ⟨_, Z1.out⟩).mono ?_
              rintro x w5 ⟨v5, rfl, ho5, hb5⟩
              have HZ5 := Aside0.mk (RdI.of_ow ho5)
              have hb5' := hb4'.trans (hb5.mono hb4'.size)
              clear ho5 hb5 hb4'
              go_wp2_with fail
              have HW5 := Aside0.mk (Below.refl w5.heap.size w5)
              go_loopw [13, 12] (fun i v w6 => ∃ (t : Nat) (vv : Value), t ≤ 16 ∧ i = .int .i64 t ∧ vv = v ∧ Aside0 (Ow w6 w5.heap.size vv (lowT z t)) ∧ Below w5.heap.size w5 w6) (fun i _ _ => 16 - (intOf i).toNat)
              case atStart => exact ⟨0, _, by omega, rfl, rfl, ⟨Kd.R_nil _ _ _ _ _⟩, HW5.out⟩
              case round =>
                obtain ⟨t, vv, ht, rfl, rfl, hO, hB6⟩ := hrel
                by_cases hlt : t < 16
                · have hlt' : (t : Int) < 16 := by omega
                  have hx := getD_isB Z3.out t
                  have hnx : Aside0 (lowT z (t + 1) = lowT z t ++ [z.getD t 0]) := ⟨rfl⟩
                  have hol : Aside0 ((lowT z t).length = t) := ⟨lowT_length z t⟩
                  go_wp2_with fail
                  refine (at_c (HZ5.out.below hB6) t rfl).mono ?_
                  rintro x w7 ⟨rfl, ⟨n7, rfl⟩⟩
                  obtain ⟨y, HY⟩ : ∃ y, Aside0 (z.getD t 0 = y) := ⟨_, ⟨rfl⟩⟩
                  rw [HY.out] at hx hnx ⊢
                  have e1 : y % 256 = y := by omega
                  have HO8 := Aside0.mk (Kd.R_drewN hO.out n7)
                  have HB8 := Aside0.mk (pw_below_drewN hB6 n7)
                  clear hO
                  go_wp2_with (first
                    | (have HO9 := Aside0.mk (Kd.R_alloc HO8.out (.cells (nums .u8 [y]).toArray 5)); have HB9 := Aside0.mk (HB8.out.alloc HB8.out.size (.cells (nums .u8 [y]).toArray 5)); refine append_ow (w0 := w5) w5.heap.size rfl (.tmp 82) (.tmp 87) rfl vv (lowT z t) [y] (some ⟨wr.heap.size, 0, none⟩) 1 1 rfl rfl HO9.out (one_B (wr.drewN n7) y) HB9.out HB9.out.size (by rw [hol.out]; omega) ?_; intro v10 w10 ho10 hb10 hg10 ha10; have HO10 := Aside0.mk ho10; have HB10 := Aside0.mk hb10; clear ho10 hb10 hg10 ha10))
                  have HN : Aside0 (Ow w10 w5.heap.size v10 (lowT z (t + 1))) := ⟨by rw [hnx.out]; exact HO10.out⟩
                  go_roundw
                  case rel => exact ⟨t + 1, v10, by omega, by go_num, rfl, HN, HB10.out⟩
                  case measure => simp [intOf]; omega
                · have hge : ¬ (t : Int) < 16 := by omega
                  obtain rfl : t = 16 := by omega
                  have hfin : Aside0 (IsTag k b (lowT z 16)) := ⟨lowT_tag Z3.out (by rw [Z4.out, hRv.out])⟩
                  have HFO := Aside0.mk hO.out
                  clear hO
                  go_wp2_with fail
                  go_ret2
                  exact ⟨_, rfl, _, Kd.R_lower HFO.out hb5'.size, hfin.out, hb5'.trans (hB6.mono hb5'.size)⟩
end Go.Proofs.Ytkjmjgiklelpiaa.OtH
/- onetime: what the program tells is the document's tag. -/
namespace Go.Proofs.Ytkjmjgiklelpiaa.OtI
open Go.RowKit Go.Proofs.YtkjmjgiklelpiaaW.PrintWords Go.Proofs.Ytkjmjgiklelpiaa.Num Go.Proofs.Ytkjmjgiklelpiaa.WordC Go.Proofs.Ytkjmjgiklelpiaa.Arr Go.Proofs.Ytkjmjgiklelpiaa.App Go.Proofs.Ytkjmjgiklelpiaa.CiC Go.Proofs.Ytkjmjgiklelpiaa.CiD Go.Proofs.Ytkjmjgiklelpiaa.OtC Go.Proofs.Ytkjmjgiklelpiaa.OtR Go.Proofs.Ytkjmjgiklelpiaa.OtL Go.Proofs.Ytkjmjgiklelpiaa.OtM Go.Proofs.Ytkjmjgiklelpiaa.OtT Go.Proofs.Ytkjmjgiklelpiaa.OtV Go.Proofs.Ytkjmjgiklelpiaa.OtK Go.Proofs.Ytkjmjgiklelpiaa.OtN Go.Proofs.Ytkjmjgiklelpiaa.OtO Go.Proofs.Ytkjmjgiklelpiaa.OtP Go.Proofs.Ytkjmjgiklelpiaa.OtQ Go.Proofs.Ytkjmjgiklelpiaa.OtS Go.Proofs.Ytkjmjgiklelpiaa.OtU Go.Proofs.Ytkjmjgiklelpiaa.OtD Go.Proofs.Ytkjmjgiklelpiaa.OtE Go.Proofs.Ytkjmjgiklelpiaa.OtF Go.Proofs.Ytkjmjgiklelpiaa.OtG Go.Proofs.Ytkjmjgiklelpiaa.OtH
set_option linter.unusedVariables false
set_option linter.unusedSimpArgs false

theorem addT_val (b a : List Int) (hb : b.length = 5) : val (addT b a 5) = val b + val a := by
  unfold val
  rw [addT_get b a hb 5 0, addT_get b a hb 5 1, addT_get b a hb 5 2, addT_get b a hb 5 3, addT_get b a hb 5 4, if_pos (by omega), if_pos (by omega), if_pos (by omega), if_pos (by omega), if_pos (by omega)]
  omega
theorem mod_step (x h b r : Int) (hx : x % P130 = h) : ((b + x) * r) % P130 = ((h + b) * r) % P130 := by
  rw [← hx, Int.add_comm b x, Int.mul_emod, Int.add_emod, ← Int.mul_emod, Int.mul_emod ((x % P130) + b), Int.add_emod (x % P130) b, Int.emod_emod, ← Int.mul_emod]
/-- One block more, in limbs. -/
theorem takeS_val {a r b : List Int} {h : Int} (ha : Low a) (hlr : r.length = 5) (hr : IsBd 67108864 r) (hlb : b.length = 5) (hb : IsBd 134217728 b) (hv : val a % P130 = h) : val (takeS a r b) % P130 = ((h + val b) * val r) % P130 := by
  unfold takeS
  rw [(times_val (by rw [addT_length]; exact hlb) hlr (addT_bd hlb (low_bd ha) hb 5) hr).2, addT_val b a hlb]
  exact mod_step _ _ _ _ hv
theorem blk_read {b : List Int} (hb : IsB b) (j : Nat) (hj : 16 * (j + 1) ≤ b.length) : val (readS ((b.drop (16 * j)).take 16) 1) = dn (blkD b j) (blkD b j).length := by
  have hl : ((b.drop (16 * j)).take 16).length = 16 := by rw [List.length_take, List.length_drop]; omega
  have hI : IsB ((b.drop (16 * j)).take 16) := fun x hx => hb x (List.mem_of_mem_drop (List.mem_of_mem_take hx))
  rw [read_val _ _ hl hI, le_dn, hl]
  unfold blkD
  have h1 := dn_snoc ((b.drop (16 * j)).take 16) 1
  rw [List.length_append, List.length_singleton, h1, hl]
  rw [show (256 : Int) ^ 16 = 340282366920938463463374607431768211456 from rfl]
theorem accS_val {r b : List Int} (hlr : r.length = 5) (hr : IsBd 67108864 r) (hb : IsB b) (j : Nat) (hj : 16 * j ≤ b.length) : val (accS r zero5 b j) % P130 = hV (val r) b j := by
  induction j with
  | zero => show val zero5 % P130 = 0; simp [val, zero5]
  | succ j ih =>
    simp only [accS, hV]
    rw [takeS_val (accS_low low_zero hlr hr hb j) hlr hr (readS_length _ _) (readS_bd (fun x hx => hb x (List.mem_of_mem_drop (List.mem_of_mem_take hx))) _ (by omega) (by omega) (by omega)) (ih (by omega)), blk_read hb j hj]
/-- What is left over, with a 1 and noughts behind it. -/
def padB (x : List Int) : List Int := x ++ [1] ++ List.replicate (15 - x.length) 0
theorem pad_length {x : List Int} (h : x.length < 16) : (padB x).length = 16 := by simp [padB]; omega
theorem pad_isB {x : List Int} (h : IsB x) : IsB (padB x) := by
  intro y hy
  unfold padB at hy
  rcases List.mem_append.1 hy with hy | hy
  · exact snoc_isB h (by decide) (by decide) y hy
  · rw [(List.mem_replicate.1 hy).2]; decide
theorem dn_zeros (x : List Int) (m n : Nat) : dn (x ++ List.replicate m 0) n = dn x n := dn_congr fun i hi => by
  rw [List.getD_eq_getElem?_getD, List.getD_eq_getElem?_getD]
  by_cases h : i < x.length
  · rw [List.getElem?_append_left h]
  · rw [List.getElem?_append_right (by omega), List.getElem?_replicate, List.getElem?_eq_none (l := x) (by omega)]
    split <;> rfl
theorem pad_dn {x : List Int} (h : x.length < 16) : dn (padB x) 16 = dn (x ++ [1]) (x ++ [1]).length := by
  unfold padB
  rw [dn_zeros]
  exact dn_over (by simp; omega)
theorem blkD_rest (b : List Int) : blkD b (b.length / 16) = rest16 b ++ [1] := by
  unfold blkD rest16
  rw [List.take_of_length_le (by rw [List.length_drop]; omega)]
/-- The sum whose least is told: of all that was added. -/
def endS (r b : List Int) : List Int := if rest16 b = [] then gone r b else takeS (gone r b) r (readS (padB (rest16 b)) 0)
theorem rest_isB {b : List Int} (hb : IsB b) : IsB (rest16 b) := fun x hx => hb x (List.mem_of_mem_drop hx)
theorem endS_low {r b : List Int} (hlr : r.length = 5) (hr : IsBd 67108864 r) (hb : IsB b) : Low (endS r b) := by
  unfold endS
  split
  · exact gone_low hlr hr hb
  · exact takeS_low (gone_low hlr hr hb) hlr hr (readS_length _ _) (readS_bd (pad_isB (rest_isB hb)) _ (by omega) (by omega) (by omega))
theorem endS_val {r b : List Int} (hlr : r.length = 5) (hr : IsBd 67108864 r) (hb : IsB b) : val (endS r b) % P130 = hV (val r) b (nB b) := by
  have h1 := accS_val hlr hr hb (b.length / 16) (by omega)
  have h2 := rest16_length b
  unfold endS
  split
  · rename_i h
    rw [h] at h2
    have h3 : b.length % 16 = 0 := h2.symm
    rw [show nB b = b.length / 16 by unfold nB; omega]
    exact h1
  · rename_i h
    have h3 : 0 < (rest16 b).length := List.length_pos_iff.2 h
    have h4 : (rest16 b).length < 16 := by omega
    rw [show nB b = b.length / 16 + 1 by unfold nB; omega]
    rw [takeS_val (gone_low hlr hr hb) hlr hr (readS_length _ _) (readS_bd (pad_isB (rest_isB hb)) _ (by omega) (by omega) (by omega)) h1, read_val _ _ (pad_length h4) (pad_isB (rest_isB hb)), le_dn, pad_length h4, pad_dn h4, ← blkD_rest]
    simp only [hV]
    rw [Int.zero_mul, Int.add_zero]
theorem store_dn (x : Int) (h0 : 0 ≤ x) (h1 : x < 4294967296) : dn (storeW x true) 4 = x := by
  have h := le_dn (storeW x true)
  rw [storeW_length] at h
  rw [← h]
  unfold le storeW
  rw [if_pos rfl, List.reverse_reverse]
  exact be_told 4 x h0 (by simpa using h1)
def sumW (W s : List Int) : Nat → Int
  | 0 => 0
  | t + 1 => sumW W s t + (W.getD t 0 % 4294967296 + s.getD t 0) * 256 ^ (4 * t)
theorem tgS_ok {W s : List Int} (hs : IsW s) (t : Nat) : IsB (tgS W s t).1 ∧ 0 ≤ (tgS W s t).2 ∧ (tgS W s t).2 < 4294967296 ∧ dn (tgS W s t).1 (4 * t) + (tgS W s t).2 * 256 ^ (4 * t) = sumW W s t := by
  induction t with
  | zero => exact ⟨(by intro x hx; cases hx), Int.le_refl _, (by show (0 : Int) < 4294967296; decide), rfl⟩
  | succ t ih =>
    obtain ⟨i1, i2, i3, i4⟩ := ih
    have h2 := getD_isW hs t
    have hl := tgS_length W s t
    simp only [tgS, sumW]
    have hx : 0 ≤ W.getD t 0 % 4294967296 ∧ W.getD t 0 % 4294967296 < 4294967296 := by omega
    generalize s.getD t 0 = y at *
    generalize W.getD t 0 % 4294967296 = x at *
    generalize (tgS W s t).2 = c at *
    generalize (tgS W s t).1 = o at *
    have hq : (c + (x + y)) = (c + (x + y)) % 4294967296 + 4294967296 * ((c + (x + y)) / 4294967296) := by omega
    have hq0 : 0 ≤ (c + (x + y)) % 4294967296 ∧ (c + (x + y)) % 4294967296 < 4294967296 := by omega
    have hq1 : 0 ≤ (c + (x + y)) / 4294967296 ∧ (c + (x + y)) / 4294967296 < 4294967296 := by omega
    generalize (c + (x + y)) % 4294967296 = q at *
    generalize (c + (x + y)) / 4294967296 = p at *
    refine ⟨?_, hq1.1, hq1.2, ?_⟩
    · intro z hz
      rcases List.mem_append.1 hz with hz | hz
      · exact i1 z hz
      · exact storeW_isB _ _ z hz
    · rw [show 4 * (t + 1) = 4 * t + 4 by omega, dn_split, dn_append (by omega), show (o ++ storeW q true).drop (4 * t) = storeW q true by rw [← hl, List.drop_left], store_dn q hq0.1 hq0.2, ← i4, Int.pow_add, show (256 : Int) ^ 4 = 4294967296 from rfl]
      generalize (256 : Int) ^ (4 * t) = B at *
      have : c = q + 4294967296 * p - x - y := by omega
      rw [this]
      grind
theorem words_sum {l s : List Int} (h : OtV.Can l) : sumW (wordsS l) s 4 % 340282366920938463463374607431768211456 = (val l + (s.getD 0 0 + s.getD 1 0 * 4294967296 + s.getD 2 0 * 18446744073709551616 + s.getD 3 0 * 79228162514264337593543950336)) % 340282366920938463463374607431768211456 := by
  obtain ⟨a, b, c, d, e, rfl, h1, h2, h3, h4, h5⟩ := h
  have e0 : (a + b * 67108864) % 4294967296 = a + b % 64 * 67108864 := by omega
  have e1 : (b / 64 + c * 1048576) % 4294967296 = b / 64 + c % 4096 * 1048576 := by omega
  have e2 : (c / 4096 + d * 16384) % 4294967296 = c / 4096 + d % 262144 * 16384 := by omega
  have e3 : (d / 262144 + e * 256) % 4294967296 = d / 262144 + e % 16777216 * 256 := by omega
  simp only [sumW, wordsS, val, List.getD_cons_zero, List.getD_cons_succ]
  rw [e0, e1, e2, e3]
  rw [show (256 : Int) ^ (4 * 0) = 1 from rfl, show (256 : Int) ^ (4 * 1) = 4294967296 from rfl, show (256 : Int) ^ (4 * 2) = 18446744073709551616 from rfl, show (256 : Int) ^ (4 * 3) = 79228162514264337593543950336 from rfl]
  generalize s.getD 0 0 = s0
  generalize s.getD 1 0 = s1
  generalize s.getD 2 0 = s2
  generalize s.getD 3 0 = s3
  have f1 := Int.emod_add_mul_ediv b 64
  have f2 := Int.emod_add_mul_ediv c 4096
  have f3 := Int.emod_add_mul_ediv d 262144
  have f4 := Int.emod_add_mul_ediv e 16777216
  clear e0 e1 e2 e3 h1 h2 h3 h4 h5
  generalize b % 64 = b0 at *
  generalize b / 64 = b1 at *
  generalize c % 4096 = c0 at *
  generalize c / 4096 = c1 at *
  generalize d % 262144 = d0 at *
  generalize d / 262144 = d1 at *
  generalize e % 16777216 = e0 at *
  generalize e / 16777216 = e1 at *
  subst f1 f2 f3 f4
  omega
theorem load_dn (x : List Int) (h : x.length = 4) : (loadW x true).1 = dn x 4 := by
  have h1 := le_dn x
  rw [h] at h1
  rw [← h1]
  unfold loadW le
  rw [if_pos h]; rfl
theorem ws_dn (k : List Int) (h : k.length = 16) : (ws k).getD 0 0 + (ws k).getD 1 0 * 4294967296 + (ws k).getD 2 0 * 18446744073709551616 + (ws k).getD 3 0 * 79228162514264337593543950336 = dn k 16 := by
  have g : ∀ i, i < 4 → (ws k).getD i 0 = dn (k.drop (4 * i)) 4 := by
    intro i hi
    rw [List.getD_eq_getElem?_getD, ws_get k 4 (by omega) i hi, Option.getD_some, load_dn _ (by rw [List.length_drop, List.length_take]; omega)]
    rw [List.drop_take, show 4 * i + 4 - 4 * i = 4 by omega, dn_take _ _ _ (Nat.le_refl _)]
  rw [g 0 (by omega), g 1 (by omega), g 2 (by omega), g 3 (by omega)]
  have d1 := dn_split k 4 12
  have d2 := dn_split (k.drop 4) 4 8
  have d3 := dn_split (k.drop 8) 4 4
  rw [List.drop_drop] at d2 d3
  rw [show 4 + 12 = 16 from rfl] at d1
  rw [show 4 + 8 = 12 from rfl, show (4 : Nat) + 4 = 8 from rfl] at d2
  rw [show 4 + 4 = 8 from rfl, show (8 : Nat) + 4 = 12 from rfl] at d3
  rw [d1, d2, d3, show (256 : Int) ^ 4 = 4294967296 from rfl, show 4 * 0 = 0 from rfl, show 4 * 1 = 4 from rfl, show 4 * 2 = 8 from rfl, show 4 * 3 = 12 from rfl, List.drop_zero]
  omega
theorem tagS_ok {k b : List Int} {r s a : List Int} {h : Int} (hk : k.length = 16) (hs : s = ws k) (hw : IsW s) (hl : a.length = 5) (ha : IsL a) (hv : val a % P130 = h) : IsB (tagS a s) ∧ (tagS a s).length = 16 ∧ dn (tagS a s) 16 = (h + dn k 16) % 340282366920938463463374607431768211456 := by
  obtain ⟨hc, hlv⟩ := least_val hl ha
  have h1 := tgS_ok (W := wordsS (leastS a)) hw 4
  have h2 := words_sum (s := s) hc
  rw [hlv, hv, hs, ws_dn k hk, ← hs] at h2
  unfold tagS
  refine ⟨h1.1, tgS_length _ _ 4, ?_⟩
  have h3 := dn_range h1.1 16
  have h4 := h1.2.2.2
  rw [show 4 * 4 = 16 from rfl] at h4
  rw [show (256 : Int) ^ 16 = 340282366920938463463374607431768211456 from rfl] at h3 h4
  rw [← h2, ← h4, Int.add_mul_emod_self_right]
  exact (Int.emod_eq_of_lt h3.1 h3.2).symm
/-- The program's r and s of a key. -/
def rK (k : List Int) : List Int := readS (cutS (k.take 16)) 0
def sK (k : List Int) : List Int := ws (k.drop 16)
theorem cutS_length (b : List Int) : (cutS b).length = b.length := by unfold cutS; rw [cutB_length, cutA_length]
theorem cutS_isB {b : List Int} (h : IsB b) : IsB (cutS b) := cutB_isB (cutA_isB h 4) 3
theorem rK_bd {k : List Int} (h : IsB k) : IsBd 67108864 (rK k) := readS_bd (cutS_isB (fun x hx => h x (List.mem_of_mem_take hx))) _ (by omega) (by omega) (by omega)
/-- THE LAW: what the program tells is the document's tag. -/
theorem tag_ok {k b : List Int} (hk : k.length = 32) (bk : IsB k) (bb : IsB b) : IsTag k b (tagS (endS (rK k) b) (sK k)) := by
  have hlr : (rK k).length = 5 := readS_length _ _
  have hl16 : (k.drop 16).length = 16 := by rw [List.length_drop, hk]
  have hw : IsW (sK k) := ws_isW 4 _ hl16 (fun x hx => bk x (List.mem_of_mem_drop hx))
  have hlow := endS_low hlr (rK_bd bk) bb
  have hv := endS_val hlr (rK_bd bk) bb
  have h := tagS_ok (k := k.drop 16) (b := b) (r := rK k) hl16 rfl hw hlow.length hlow.isL hv
  refine ⟨h.1, h.2.1, ?_⟩
  refine Eq.trans h.2.2 ?_
  have hc16 : (cutS (k.take 16)).length = 16 := by rw [cutS_length, List.length_take, hk]; rfl
  have hrv : val (rK k) = dn (cutS (k.take 16)) 16 := by
    unfold rK
    rw [read_val _ _ hc16 (cutS_isB (fun x hx => bk x (List.mem_of_mem_take hx))), le_dn, hc16]
    omega
  rw [hrv]
end Go.Proofs.Ytkjmjgiklelpiaa.OtI
/- onetime: Tag in general, and of some bytes. -/
namespace Go.Proofs.Ytkjmjgiklelpiaa.OtJ
open Go.RowKit Go.Proofs.YtkjmjgiklelpiaaW.PrintWords Go.Proofs.Ytkjmjgiklelpiaa.Num Go.Proofs.Ytkjmjgiklelpiaa.WordC Go.Proofs.Ytkjmjgiklelpiaa.Arr Go.Proofs.Ytkjmjgiklelpiaa.App Go.Proofs.Ytkjmjgiklelpiaa.CiC Go.Proofs.Ytkjmjgiklelpiaa.CiD Go.Proofs.Ytkjmjgiklelpiaa.OtC Go.Proofs.Ytkjmjgiklelpiaa.OtR Go.Proofs.Ytkjmjgiklelpiaa.OtL Go.Proofs.Ytkjmjgiklelpiaa.OtM Go.Proofs.Ytkjmjgiklelpiaa.OtT Go.Proofs.Ytkjmjgiklelpiaa.OtV Go.Proofs.Ytkjmjgiklelpiaa.OtK Go.Proofs.Ytkjmjgiklelpiaa.OtN Go.Proofs.Ytkjmjgiklelpiaa.OtO Go.Proofs.Ytkjmjgiklelpiaa.OtP Go.Proofs.Ytkjmjgiklelpiaa.OtQ Go.Proofs.Ytkjmjgiklelpiaa.OtS Go.Proofs.Ytkjmjgiklelpiaa.OtU Go.Proofs.Ytkjmjgiklelpiaa.OtD Go.Proofs.Ytkjmjgiklelpiaa.OtE Go.Proofs.Ytkjmjgiklelpiaa.OtF Go.Proofs.Ytkjmjgiklelpiaa.OtG Go.Proofs.Ytkjmjgiklelpiaa.OtH Go.Proofs.Ytkjmjgiklelpiaa.OtI
set_option linter.unusedVariables false
set_option linter.unusedSimpArgs false

theorem copy_part {P : Program} {ops : Array Oper} {rest : List Oper} {o : Oper} {a : Act} {w : World} {Q : Exit → Act → World → Prop} (hgd : o.guard = none) (d s : Operand) (dT sT : TypeId)
    (ho : o.op = .call { callee := .builtin .copy, args := #[d, s], argTypes := #[dT, sT] }) (elem : TypeId) (hu : P.underlying dT = some (.slice elem)) (hsz : (P.info? elem).map (·.size) = some 1)
    (g dLen dCap : Nat) (sp : Option Addr) (sLen sCap : Nat) (hd : a.eval d = .slice (some ⟨g, 0, none⟩) dLen dCap) (hs : a.eval s = .slice sp sLen sCap)
    (cur : List Int) (t : Nat) (hg : Blk w g t (nums .u8 cur)) (l : List Int) (hr : Rd w sp sLen sCap l) (hn : sLen ≤ dLen) (hp : 0 < sLen) (hc : cur.length = dLen)
    (h : ∀ w', Blk w' g t (nums .u8 (l ++ cur.drop sLen)) → w.grownBy w' (some g) → wpList P ops Q rest (a.put o.dst (.int .i64 sLen)) w') : wpList P ops Q (o :: rest) a w :=
  wpList_plain hgd fun _ hK => by
    have hl := hr.len
    obtain ⟨ad, rfl, hsrc⟩ := rd_cells hr (by omega)
    have hlen : (nums .u8 l).length = sLen := by rw [nums_length]; exact hl
    have hrun := run_copy_row (P := P) w dT sT o.type elem g 0 dLen dCap ad sLen sCap (nums .u8 cur).toArray t (nums .u8 l) hu hsz hg (by rw [hlen]; exact (Nat.min_eq_left hn).symm)
      (fun j v hj => hsrc j v hj) (by simp [nums_length, hl, hc]; omega) (nums_one _ _)
    unfold Oper.wp
    simp [execOp, ho, resolve, invoke, builtin, hd, hs, hrun, Result.andThen]
    have h1 := h (w.setRow g (nums .u8 (l ++ cur.drop sLen)).toArray) (setRow_heap w g _ _ t _ hg) ⟨rfl, rfl, rfl, by simp [World.setRow], fun k hk hne => setRow_other w g k _ (fun e => hne (by rw [e]))⟩
    rw [nums_append] at h1
    rw [hlen, show List.drop sLen (nums .u8 cur) = nums .u8 (cur.drop sLen) by simp [nums]]
    exact hK _ _ h1
theorem pad_of {x : List Int} (h : x.length < 16) : (x ++ (List.replicate 16 (0 : Int)).drop x.length).set x.length 1 = padB x := by
  unfold padB
  rw [List.drop_replicate, List.set_append_right _ _ (Nat.le_refl _), Nat.sub_self, show 16 - x.length = (15 - x.length) + 1 by omega, List.replicate_succ, List.set_cons_zero, List.append_assoc]
  rfl
set_option maxHeartbeats 8000000 in
set_option maxRecDepth 100000 in
theorem Tag_1 {g c m : Nat} {A : Option Addr} {r a s x0 : List Int} {w : World} (hg : Blk w g 83 (adr r a s (.slice A m c))) (hr : r.length = 5) (hrb : IsBd 67108864 r) (ha : a.length = 5) (hs : s.length = 4) (hal : Low a) (hsw : IsW s) (hx : Rd w A m c x0) (bx : IsB x0) (hm : 0 < m) (hm2 : m < 16) :
    Calls Try.prog 31 #[.pointer (some ⟨g, 0, none⟩)] w fun e w' => ∃ v, e = .returned v ∧ Ow w' w.heap.size v (tagS (takeS a r (readS (padB x0) 0)) s) ∧ Below w.heap.size w w' := by
  have HG := Aside0.mk hg
  have HR := Aside0.mk hr
  have HA := Aside0.mk ha
  have HS := Aside0.mk hs
  have HAL := Aside0.mk hal
  have HRB := Aside0.mk hrb
  have HXX := Aside0.mk hx
  have HBX := Aside0.mk bx
  have HXL : Aside0 (x0.length = m) := ⟨hx.len⟩
  have hmk : ∀ W : World, (Instr.makeSlice 22 (.int .i64 16) (.int .i64 16)).run Try.prog W = .ok (.slice (some ⟨W.heap.size, 0, none⟩) 16 16) (W.alloc (.cells (nums .u8 [0, 0, 0, 0, 0, 0, 0, 0, 0, 0, 0, 0, 0, 0, 0, 0]).toArray 5)) := by
    intro W
    have h := print_make (P := Try.prog) 22 5 .u8 1 Try.underlying22 infoB (by omega) 16 (by omega) W
    have e : madeCells #[.int .u8 0] 16 = (nums .u8 [0, 0, 0, 0, 0, 0, 0, 0, 0, 0, 0, 0, 0, 0, 0, 0]).toArray := by kernel_rfl
    rw [e] at h; exact h
  have hm' : (0 : Int) < (m : Int) := by omega
  have hm2' : (m : Int) < 16 := by omega
  have HSW := Aside0.mk hsw
  have hglt := Blk.lt hg
  have HRA := Aside0.mk (range_adr_a hg hr)
  have k14 : w.cell? ⟨g, 14, none⟩ = some (.slice A m c) := (Blk.cell hg 14).trans (adr_tail hr ha hs)
  have hi : Aside0 ((Try.prog.info? 79).map (·.size) = some (nums .u64 a).length) := ⟨by rw [nums_length, ha]; exact size79⟩
  clear hg hr ha hs hal hsw hrb hx bx
  go_enter Try.func31, Try.ntmps31
  go_wp2_with (first
    | (refine wpList_load_mid rfl 79 (.tmp 14) rfl g 5 rfl (nums .u64 a) _ HRA.out Try.underlying79 rfl hi.out ?_)
    | (have HZ0 : Aside0 (Blk (w.alloc (.cells (nums .u64 (List.replicate 5 0)).toArray 79)) w.heap.size 79 (nums .u64 (List.replicate 5 0))) := ⟨heap_alloc_new _ _⟩
       have HB0 := Aside0.mk ((Below.refl w.heap.size w).alloc (Nat.le_refl _) (.cells (nums .u64 (List.replicate 5 0)).toArray 79))
       refine store_arr rfl 79 (.tmp 3) (.tmp 15) rfl w.heap.size .u64 a rfl rfl 79 5 _ HZ0.out size79 HA.out (by rw [nums_length]; rfl) ?_; intro w1 hX1 hg1
       have HX1 := Aside0.mk hX1
       have HB1 := Aside0.mk (HB0.out.grown hg1 HB0.out.size (fun k hk => by cases hk; exact Nat.le_refl _))
       have k14' : w1.cell? ⟨g, 14, none⟩ = some (.slice A m c) := (HB1.out.cell (p := ⟨g, 14, none⟩) hglt).trans k14
       have k14b : (w1.alloc (.cells (nums .u8 [0, 0, 0, 0, 0, 0, 0, 0, 0, 0, 0, 0, 0, 0, 0, 0]).toArray 5)).cell? ⟨g, 14, none⟩ = some (.slice A m c) := (World.cell?_alloc_lt _ _ _ (Nat.lt_of_lt_of_le hglt HB1.out.size)).trans k14'
       clear hX1 hg1)
    | (have HS2 : Aside0 (Blk (w1.alloc (.cells (nums .u8 [0, 0, 0, 0, 0, 0, 0, 0, 0, 0, 0, 0, 0, 0, 0, 0]).toArray 5)) w1.heap.size 5 (nums .u8 [0, 0, 0, 0, 0, 0, 0, 0, 0, 0, 0, 0, 0, 0, 0, 0])) := ⟨heap_alloc_new _ _⟩
       have HB2a := Aside0.mk (HB1.out.alloc HB1.out.size (.cells (nums .u8 [0, 0, 0, 0, 0, 0, 0, 0, 0, 0, 0, 0, 0, 0, 0, 0]).toArray 5))
       have HX2a := Aside0.mk (HX1.out.below (below_alloc (Below.refl _ w1) (.cells (nums .u8 [0, 0, 0, 0, 0, 0, 0, 0, 0, 0, 0, 0, 0, 0, 0, 0]).toArray 5)))
       have HR2a := Aside0.mk (HXX.out.below HB2a.out)
       refine copy_part rfl (.tmp 23) (.tmp 27) 22 22 rfl 5 Try.underlying22 sizeU8 w1.heap.size 16 16 A m c rfl rfl [0, 0, 0, 0, 0, 0, 0, 0, 0, 0, 0, 0, 0, 0, 0, 0] 5 HS2.out x0 HR2a.out (by omega) hm (by rfl) ?_; intro w2 hS3 hg3
       have HB3a := Aside0.mk (HB2a.out.grown hg3 HB2a.out.size (fun k hk => by cases hk; exact HB1.out.size))
       have HX3a := Aside0.mk (blk_grow HX2a.out hg3 (by intro e; injection e with e; have := Blk.lt HX1.out; omega))
       have HS3 := Aside0.mk hS3
       have k14'' : w2.cell? ⟨g, 14, none⟩ = some (.slice A m c) := (HB3a.out.cell (p := ⟨g, 14, none⟩) hglt).trans k14
       have ks := blk_num hS3 m (by rw [List.length_append, HXL.out, List.length_drop]; show m < m + (16 - m); omega)
       have fs := Blk.frozen hS3 m
       have HG1 : Aside0 (w.heap.size ≤ w1.heap.size ∧ w.heap.size < w1.heap.size) := ⟨⟨HB1.out.size, Blk.lt HX1.out⟩⟩
       clear hS3 hg3))
  have HS4 : Aside0 (Blk (w2.setCell ⟨w1.heap.size, m, none⟩ (.int .u8 1)) w1.heap.size 5 (nums .u8 (padB x0))) := ⟨by
    have h1 := CiC.blk_put HS3.out m 1
    have h2 := pad_of (x := x0) (by rw [HXL.out]; exact hm2)
    rw [HXL.out, show List.replicate 16 (0 : Int) = [0, 0, 0, 0, 0, 0, 0, 0, 0, 0, 0, 0, 0, 0, 0, 0] from rfl] at h2
    rwa [h2] at h1⟩
  have HB4a := Aside0.mk (HB3a.out.setCell (p := ⟨w1.heap.size, m, none⟩) HG1.out.1 (.int .u8 1))
  have HX4a := Aside0.mk (Blk.far HX3a.out (p := ⟨w1.heap.size, m, none⟩) (by have := HG1.out.2; simp; omega) (.int .u8 1))
  generalize hW4 : World.setCell w2 _ _ = w4 at *
  clear hW4
  have hpl := pad_length (x := x0) (by rw [HXL.out]; exact hm2)
  have hpb := pad_isB HBX.out
  have hR4 : Rd w4 (some ⟨w1.heap.size, 0, none⟩) 16 16 (padB x0) := by
    have h1 := rd_of_blk HS4.out 0 (padB x0) 16 (by omega) (by omega) (fun j hj => by rw [Nat.zero_add]; exact nums_get .u8 (padB x0) j hj)
    rwa [hpl] at h1
  refine (read_c hR4 (Nat.le_refl _) hpb (.inl rfl)).mono ?_
  rintro x w5 ⟨rfl, hb5⟩
  have HB5 := Aside0.mk (below_next HB4a.out hb5)
  have HX5 := Aside0.mk (HX4a.out.below hb5)
  have HG5 := HG.out.below HB5.out
  have hbd := Aside0.mk (readS_bd hpb 134217728 (top := 0) (by omega) (by omega) (by omega))
  have hrdl := Aside0.mk (readS_length (padB x0) 0)
  have HP := Aside0.mk hpb
  clear hR4 hpl hpb hb5
  obtain ⟨Z, HZZ⟩ : ∃ z, Aside0 (readS (padB x0) 0 = z) := ⟨_, ⟨rfl⟩⟩
  rw [HZZ.out] at hbd hrdl ⊢
  go_wp2_with fail
  refine (take_c (range_adr_r HG5) (range_adr_a HG5 HR.out) (Blk.lt HG5) HA.out HR.out hrdl.out (low_bd HAL.out) HRB.out hbd.out).mono ?_
  rintro x w6 ⟨rfl, hb6⟩
  have HB6 := Aside0.mk (below_next HB5.out hb6)
  have HX6 := Aside0.mk (HX5.out.below hb6)
  have HTL := Aside0.mk (takeS_low HAL.out HR.out HRB.out hrdl.out hbd.out)
  clear hb6 HG5
  obtain ⟨a1, HA1⟩ : ∃ z, Aside0 (takeS a r Z = z) := ⟨_, ⟨rfl⟩⟩
  rw [HA1.out] at HTL ⊢
  have HA1L : Aside0 (a1.length = 5) := ⟨HTL.out.length⟩
  go_wp2_with (first
    | (refine store_arr rfl 79 (.tmp 3) (.tmp 39) rfl w.heap.size .u64 a1 rfl rfl 79 5 _ HX6.out size79 HA1L.out (by rw [nums_length]; exact HA.out) ?_; intro w7 hX7 hg7
       have HX7 := Aside0.mk hX7
       have HB7 := Aside0.mk (HB6.out.grown hg7 HB6.out.size (fun k hk => by cases hk; exact Nat.le_refl _))
       clear hX7 hg7)
    | (refine load_arr rfl 79 (.tmp 3) rfl w.heap.size rfl 79 .u64 a1 5 36 HX7.out Try.underlying79 size79 HA1L.out ?_))
  refine (least_c HA1L.out HTL.out.isL).mono ?_
  rintro x w2 ⟨rfl, hb2⟩
  have hlv := (least_val HA1L.out HTL.out.isL).1
  have htg : Aside0 (tagS a1 s = (tgS (wordsS (leastS a1)) s 4).1) := ⟨rfl⟩
  obtain ⟨S, HSS⟩ : ∃ z, Aside0 (leastS a1 = z) := ⟨_, ⟨rfl⟩⟩
  rw [HSS.out] at hlv htg ⊢
  have HX2 := Aside0.mk (HX7.out.below hb2)
  have HB2 := Aside0.mk (below_next HB7.out hb2)
  have HG2 := Aside0.mk (HG.out.below HB2.out)
  obtain ⟨l0, l1, l2, l3, l4, rfl, b0, b1, b2, b3, b4⟩ := hlv
  have hS5 : Aside0 (([l0, l1, l2, l3, l4] : List Int).length = 5) := ⟨rfl⟩
  have o1 : Go.bits .or .u64 l0 (l1 * 67108864) = l0 + l1 * 67108864 := or_sh l0 l1 26 (by omega) (by omega) (by omega) (by omega) (by omega)
  have o2 : Go.bits .or .u64 (l1 / 64) (l2 * 1048576) = l1 / 64 + l2 * 1048576 := or_sh (l1 / 64) l2 20 (by omega) (by omega) (by omega) (by omega) (by omega)
  have o3 : Go.bits .or .u64 (l2 / 4096) (l3 * 16384) = l2 / 4096 + l3 * 16384 := or_sh (l2 / 4096) l3 14 (by omega) (by omega) (by omega) (by omega) (by omega)
  have o4 : Go.bits .or .u64 (l3 / 262144) (l4 * 256) = l3 / 262144 + l4 * 256 := or_sh (l3 / 262144) l4 8 (by omega) (by omega) (by omega) (by omega) (by omega)
  clear hb2
  go_wp2_with (first
    | (refine store_arr rfl 79 (.tmp 3) (.tmp 41) rfl w.heap.size .u64 [l0, l1, l2, l3, l4] rfl rfl 79 5 _ HX2.out size79 hS5.out (by rw [nums_length]; exact HA1L.out) ?_; intro w3 hX3 hg3
       have HX3 := Aside0.mk hX3
       have HB3 := Aside0.mk (HB2.out.grown hg3 HB2.out.size (fun k hk => by cases hk; exact Nat.le_refl _))
       have HG3 := Aside0.mk (HG.out.below HB3.out)
       have q0 : w3.cell? ⟨w.heap.size, 0, none⟩ = some (.int .u64 l0) := Blk.cell hX3 0
       have q1 : w3.cell? ⟨w.heap.size, 1, none⟩ = some (.int .u64 l1) := Blk.cell hX3 1
       have q2 : w3.cell? ⟨w.heap.size, 2, none⟩ = some (.int .u64 l2) := Blk.cell hX3 2
       have q3 : w3.cell? ⟨w.heap.size, 3, none⟩ = some (.int .u64 l3) := Blk.cell hX3 3
       have q4 : w3.cell? ⟨w.heap.size, 4, none⟩ = some (.int .u64 l4) := Blk.cell hX3 4
       clear hX3 hg3))
  obtain ⟨W, HWD⟩ : ∃ z, Aside0 (wordsS [l0, l1, l2, l3, l4] = z) := ⟨_, ⟨rfl⟩⟩
  have hwd : Aside0 (W = [l0 + l1 * 67108864, l1 / 64 + l2 * 1048576, l2 / 4096 + l3 * 16384, l3 / 262144 + l4 * 256]) := ⟨by rw [← HWD.out]; rfl⟩
  have hwb : Aside0 (∀ i, 0 ≤ W.getD i 0 ∧ W.getD i 0 < 18446744073709551616) := ⟨by
    intro i
    rw [hwd.out]
    have hi : i = 0 ∨ i = 1 ∨ i = 2 ∨ i = 3 ∨ 4 ≤ i := by omega
    rcases hi with rfl | rfl | rfl | rfl | hi
    all_goals first
      | (simp; omega)
      | (rw [List.getD_eq_getElem?_getD, List.getElem?_eq_none (by simpa using hi)]; simp)⟩
  rw [HWD.out] at htg
  have hbe : Aside0 (∀ t, 0 ≤ (tgS W s t).2 ∧ (tgS W s t).2 < 4294967296) := ⟨by
    intro t
    induction t with
    | zero => exact ⟨Int.le_refl _, by show (0 : Int) < _; decide⟩
    | succ t ih =>
      have h1 := hwb.out t
      have h2 := getD_isW HSW.out t
      simp only [tgS]
      omega⟩
  have hB4 := HB3.out.alloc HB3.out.size (.cells #[.int .u64 (l0 + l1 * 67108864), .int .u64 (l1 / 64 + l2 * 1048576), .int .u64 (l2 / 4096 + l3 * 16384), .int .u64 (l3 / 262144 + l4 * 256)] 81)
  generalize hW4 : w3.alloc _ = w4 at hB4 ⊢
  clear hW4
  have hagg : #[Value.int .u64 (l0 + l1 * 67108864), .int .u64 (l1 / 64 + l2 * 1048576), .int .u64 (l2 / 4096 + l3 * 16384), .int .u64 (l3 / 262144 + l4 * 256)] = (nums .u64 W).toArray := by rw [hwd.out]; rfl
  rw [hagg]
  go_loopw [71, 6, 7] (fun i v u wr => ∃ (t : Nat) (vv : Value), t ≤ 4 ∧ i = .int .i64 t ∧ vv = v ∧ u = .int .u64 (tgS W s t).2 ∧ Aside0 (Ow wr w.heap.size vv (tgS W s t).1) ∧ Below w.heap.size w wr) (fun i _ _ _ => 4 - (intOf i).toNat)
  case atStart => exact ⟨0, _, by omega, rfl, rfl, rfl, ⟨Kd.R_nil _ _ _ _ _⟩, hB4⟩
  case round =>
    clear hB4
    obtain ⟨t, vv, ht, rfl, rfl, rfl, hO, hB⟩ := hrel
    by_cases hlt : t < 4
    · have hlt' : (t : Int) < 4 := by omega
      have hGw := HG.out.below hB
      have ks : wr.cell? ⟨g, 10 + t, none⟩ = some (.int .u64 (s.getD t 0)) := (Blk.cell hGw (10 + t)).trans (adr_get_s HR.out HA.out t (by rw [HS.out]; exact hlt))
      have hx := hwb.out t
      have hy := getD_isW HSW.out t
      have hc := hbe.out t
      have hol : Aside0 ((tgS W s t).1.length = 4 * t) := ⟨tgS_length W s t⟩
      have hix := index4 W (by rw [hwd.out]; rfl) t hlt
      have hn1 : Aside0 ((tgS W s (t + 1)).1 = (tgS W s t).1 ++ storeW (((tgS W s t).2 + (W.getD t 0 % 4294967296 + s.getD t 0)) % 4294967296) true) := ⟨rfl⟩
      have hn2 : Aside0 ((tgS W s (t + 1)).2 = ((tgS W s t).2 + (W.getD t 0 % 4294967296 + s.getD t 0)) / 4294967296) := ⟨rfl⟩
      generalize W.getD t 0 = x at *
      generalize s.getD t 0 = y at *
      generalize (tgS W s t).2 = cc at *
      generalize (tgS W s t).1 = oo at *
      have e1 := and32 x hx.1 hx.2
      have e2 : (x % 4294967296 + y) % 18446744073709551616 = x % 4294967296 + y := by omega
      have e3 : (cc + (x % 4294967296 + y)) % 18446744073709551616 = cc + (x % 4294967296 + y) := by omega
      clear hGw
      go_wp2_with fail
      refine (Store_c (a := (cc + (x % 4294967296 + y)) % 4294967296) (by omega) (by omega) true).mono ?_
      rintro z w5 ⟨v5, rfl, ho5, hb5⟩
      obtain ⟨A5, c5, rfl, hr5⟩ := rd_of_own ho5
      have HO5 := Aside0.mk (Kd.R_below hO.out hb5)
      have HB5 := Aside0.mk (below_next hB hb5)
      have HR5 := Aside0.mk hr5
      have e4 : shr .u64 (cc + (x % 4294967296 + y)) 32 = (cc + (x % 4294967296 + y)) / 4294967296 := shr_var64 _ 32 (by omega)
      clear ho5 hb5 hr5 ks hix
      go_wp2_with (first
        | (refine append_ow (w0 := w) w.heap.size rfl (.tmp 86) (.tmp 89) rfl vv oo (storeW ((cc + (x % 4294967296 + y)) % 4294967296) true) A5 _ c5 rfl rfl HO5.out HR5.out HB5.out HB5.out.size (by rw [hol.out, storeW_length]; omega) ?_; intro v6 w6 ho6 hb6 hg6 ha6; have HO6 := Aside0.mk ho6; have HB6 := Aside0.mk hb6; clear ho6 hb6 hg6 ha6))
      have HN : Aside0 (Ow w6 w.heap.size v6 (tgS W s (t + 1)).1) := ⟨by rw [hn1.out]; exact HO6.out⟩
      go_roundw
      case rel => exact ⟨t + 1, v6, by omega, by go_num, rfl, by rw [hn2.out], HN, HB6.out⟩
      case measure => simp [intOf]; omega
    · have hge : ¬ (t : Int) < 4 := by omega
      obtain rfl : t = 4 := by omega
      have hfin : Aside0 (Ow wr w.heap.size vv (tagS a1 s)) := ⟨by rw [htg.out]; exact hO.out⟩
      clear hO
      go_wp2_with fail
      go_ret
      rw [HZZ.out, HA1.out]
      exact ⟨_, rfl, hfin.out, hB⟩
theorem endS_nil {r b : List Int} (h : rest16 b = []) : endS r b = gone r b := by unfold endS; rw [if_pos h]
theorem endS_more {r b : List Int} (h : rest16 b ≠ []) : endS r b = takeS (gone r b) r (readS (padB (rest16 b)) 0) := by unfold endS; rw [if_neg h]
/-- The tag of all that was added. -/
theorem Tag_c {base g : Nat} {v : Value} {r s b : List Int} {w : World} (hS : St w base g v r s b) :
    Calls Try.prog 31 #[.pointer (some ⟨g, 0, none⟩)] w fun e w' => ∃ v', e = .returned v' ∧ Ow w' w.heap.size v' (tagS (endS r b) s) ∧ Below w.heap.size w w' := by
  obtain ⟨hge, hbB, hrl5, hrb, hsl4, hsw, hblk, htail⟩ := hS
  obtain ⟨A, c, rfl, hr⟩ := htail.rd
  have hlow := gone_low hrl5 hrb hbB
  have hlen := rest16_length b
  by_cases h : rest16 b = []
  · rw [endS_nil h]
    rw [h] at hblk
    exact Tag_0 hblk hrl5 hlow.length hsl4 hlow.isL hsw
  · rw [endS_more h]
    have h3 : 0 < (rest16 b).length := List.length_pos_iff.2 h
    exact Tag_1 hblk hrl5 hrb hlow.length hsl4 hlow hsw hr (rest_isB hbB) h3 (by omega)
theorem New_St {A : Option Addr} {c : Nat} {k : List Int} {w : World} (hk : Rd w A 32 c k) (bk : IsB k) :
    Calls Try.prog 29 #[.slice A 32 c] w fun e w' => ∃ g, e = .returned (.tuple #[.pointer (some ⟨g, 0, none⟩), .int .i64 0]) ∧ St w' w.heap.size g (.slice none 0 0) (rK k) (sK k) [] ∧ Below w.heap.size w w' := by
  have hl : k.length = 32 := hk.len
  have h4 : (sK k).length = 4 := ws_length 4 _ (by rw [List.length_drop, hl])
  have hw4 : IsW (sK k) := ws_isW 4 _ (by rw [List.length_drop, hl]) (fun x hx => bk x (List.mem_of_mem_drop hx))
  refine (New_c hk bk).mono ?_
  rintro e w' ⟨g, rfl, hg0, hg, hB⟩
  exact ⟨g, rfl, ⟨hg0, (by intro x hx; cases hx), readS_length _ _, rK_bd bk, h4, hw4, hg, Qw.nil _ _⟩, hB⟩
set_option maxHeartbeats 8000000 in
set_option maxRecDepth 100000 in
/-- onetime.Tag. -/
theorem OTag_c {A B : Option Addr} {c d n : Nat} {k b : List Int} {w : World} (hk : Rd w A 32 c k) (hb : Rd w B n d b) (bk : IsB k) (bb : IsB b) (hn : n ≤ 140737488355328) :
    Calls Try.prog 27 #[.slice A 32 c, .slice B n d] w fun e w' => ∃ v, e = .returned (.tuple #[v, .int .i64 0]) ∧ Ow w' w.heap.size v (tagS (endS (rK k) b) (sK k)) ∧ Below w.heap.size w w' := by
  have HBB := Aside0.mk hb
  have hn' : Aside0 (([] : List Int).length + n ≤ 140737488355328) := ⟨by simpa using hn⟩
  clear hb hn
  go_enter Try.func27, Try.ntmps27
  go_wp2_with fail
  refine (New_St hk bk).mono ?_
  rintro x w1 ⟨g, rfl, hS, hb1⟩
  have HS := Aside0.mk hS
  clear hS
  go_wp2_with fail
  refine (Add_c HS.out (HBB.out.below hb1) bb hb1.size hn'.out).mono ?_
  rintro x w2 ⟨rfl, v', hS2, hF, _⟩
  have hB2 := hF.below hb1 hb1.size HS.out.ge (by intro k hk; cases hk)
  have HS2 : Aside0 (St w2 w.heap.size g v' (rK k) (sK k) b) := ⟨by simpa using hS2⟩
  clear hS2 hF
  go_wp2_with fail
  refine (Tag_c HS2.out).mono ?_
  rintro x w3 ⟨v3, rfl, ho3, hb3⟩
  have HO3 := Aside0.mk (Kd.R_lower ho3 hB2.size)
  have hB3 := below_next hB2 hb3
  clear ho3
  go_wp2_with fail
  go_ret2
  exact ⟨_, rfl, HO3.out, hB3⟩
theorem OTag_no {A B : Option Addr} {c d n m : Nat} {w : World} (h : m ≠ 32) :
    Calls Try.prog 27 #[.slice A m c, .slice B n d] w fun e w' => e = .returned (.tuple #[.slice none 0 0, .int .i64 1]) ∧ w' = w := by
  go_enter Try.func27, Try.ntmps27
  go_wp2_with fail
  refine (New_no h).mono ?_
  rintro x w1 ⟨rfl, rfl⟩
  go_wp2_with fail
  go_ret2
  exact ⟨rfl, rfl⟩
theorem refTag_no {A B : Option Addr} {c d n m : Nat} {w : World} (h : m ≠ 32) :
    Calls Try.prog 28 #[.slice A m c, .slice B n d] w fun e w' => e = .returned (.tuple #[.slice none 0 0, .int .i64 1]) ∧ w' = w := by
  have h2 : ((m : Int) != 32) = true := by rw [bne_iff_ne]; omega
  go_enter Try.func28, Try.ntmps28
  go_wp2_with fail
  go_ret2
  exact ⟨rfl, rfl⟩
end Go.Proofs.Ytkjmjgiklelpiaa.OtJ
