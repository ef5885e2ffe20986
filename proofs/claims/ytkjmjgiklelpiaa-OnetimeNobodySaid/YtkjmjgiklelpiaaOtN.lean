/- onetime.New: what it lays. -/
import Derived.Test.YtkjmjgiklelpiaaApp
import Derived.Test.YtkjmjgiklelpiaaQuart
import Derived.Test.YtkjmjgiklelpiaaPlainCipherBlocks
import Derived.Deep.RegionHeld3
import Derived.Deep.Cut
import Derived.Deep.CutRange
import Derived.Test.YtkjmjgiklelpiaaOtK
namespace Go.Proofs.Ytkjmjgiklelpiaa.OtN
open Go.RowKit Go.Proofs.YtkjmjgiklelpiaaW.PrintWords Go.Proofs.Ytkjmjgiklelpiaa.Num Go.Proofs.Ytkjmjgiklelpiaa.WordC Go.Proofs.Ytkjmjgiklelpiaa.Arr Go.Proofs.Ytkjmjgiklelpiaa.App Go.Proofs.Ytkjmjgiklelpiaa.CiC Go.Proofs.Ytkjmjgiklelpiaa.CiD Go.Proofs.Ytkjmjgiklelpiaa.OtC Go.Proofs.Ytkjmjgiklelpiaa.OtR Go.Proofs.Ytkjmjgiklelpiaa.OtL Go.Proofs.Ytkjmjgiklelpiaa.OtM Go.Proofs.Ytkjmjgiklelpiaa.OtT Go.Proofs.Ytkjmjgiklelpiaa.OtV Go.Proofs.Ytkjmjgiklelpiaa.OtK
set_option linter.unusedVariables false
set_option linter.unusedSimpArgs false

theorem copy_top {P : Program} {ops : Array Oper} {rest : List Oper} {o : Oper} {a : Act} {w : World} {Q : Exit → Act → World → Prop} (hgd : o.guard = none) (d s : Operand) (dT sT : TypeId)
    (ho : o.op = .call { callee := .builtin .copy, args := #[d, s], argTypes := #[dT, sT] }) (elem : TypeId) (hu : P.underlying dT = some (.slice elem)) (hsz : (P.info? elem).map (·.size) = some 1)
    (g dLen dCap : Nat) (sp : Option Addr) (sLen sCap : Nat) (hd : a.eval d = .slice (some ⟨g, 0, none⟩) dLen dCap) (hs : a.eval s = .slice sp sLen sCap)
    (cur : List Value) (t : Nat) (hg : Blk w g t cur) (l : List Int) (hr : Rd w sp sLen sCap l) (hn : dLen ≤ sLen) (hp : 0 < dLen) (hc : cur.length = dLen)
    (h : ∀ w', Blk w' g t (nums .u8 (l.take dLen)) → w.grownBy w' (some g) → wpList P ops Q rest (a.put o.dst (.int .i64 dLen)) w') : wpList P ops Q (o :: rest) a w :=
  wpList_plain hgd fun _ hK => by
    have hl := hr.len
    obtain ⟨ad, rfl, hsrc⟩ := rd_cells hr (by omega)
    have hlen : (nums .u8 (l.take dLen)).length = dLen := by rw [nums_length, List.length_take]; omega
    have hrun := run_copy_row (P := P) w dT sT o.type elem g 0 dLen dCap ad sLen sCap cur.toArray t (nums .u8 (l.take dLen)) hu hsz hg (by rw [hlen]; exact (Nat.min_eq_right hn).symm)
      (fun j v hj => hsrc j v (by
        have hj1 : j < dLen := by have := (List.getElem?_eq_some_iff.1 hj).1; omega
        rw [← hj]; simp [nums, List.getElem?_take, hj1])) (by simpa [hlen] using (by omega : dLen ≤ cur.length)) (nums_one _ _)
    unfold Oper.wp
    simp [execOp, ho, resolve, invoke, builtin, hd, hs, hrun, Result.andThen]
    have h1 := h (w.setRow g (nums .u8 (l.take dLen)).toArray) (setRow_heap w g _ _ t _ hg) ⟨rfl, rfl, rfl, by simp [World.setRow], fun k hk hne => setRow_other w g k _ (fun e => hne (by rw [e]))⟩
    rw [hlen, List.drop_of_length_le (by omega), List.append_nil]
    exact hK _ _ h1
theorem and15 (x : Int) (h0 : 0 ≤ x) (h1 : x < 256) : Go.bits .and .u8 x 15 = x % 16 := by
  obtain ⟨X, rfl⟩ := Int.eq_ofNat_of_zero_le h0
  have h : ∀ x : Fin 256, Go.bits .and .u8 (x.1 : Int) 15 = (x.1 : Int) % 16 := by decide +kernel
  exact h ⟨X, by omega⟩
theorem and252 (x : Int) (h0 : 0 ≤ x) (h1 : x < 256) : Go.bits .and .u8 x 252 = x - x % 4 := by
  obtain ⟨X, rfl⟩ := Int.eq_ofNat_of_zero_le h0
  have h : ∀ x : Fin 256, Go.bits .and .u8 (x.1 : Int) 252 = (x.1 : Int) - (x.1 : Int) % 4 := by decide +kernel
  exact h ⟨X, by omega⟩
/-- The key's first half, cut. -/
def cutA (b : List Int) : Nat → List Int
  | 0 => b
  | t + 1 => (cutA b t).set (3 + 4 * t) ((cutA b t).getD (3 + 4 * t) 0 % 16)
def cutB (b : List Int) : Nat → List Int
  | 0 => b
  | t + 1 => (cutB b t).set (4 + 4 * t) ((cutB b t).getD (4 + 4 * t) 0 - (cutB b t).getD (4 + 4 * t) 0 % 4)
def cutS (b : List Int) : List Int := cutB (cutA b 4) 3
theorem cutA_length (b : List Int) (t : Nat) : (cutA b t).length = b.length := by
  induction t with
  | zero => rfl
  | succ t ih => simp [cutA, ih]
theorem cutB_length (b : List Int) (t : Nat) : (cutB b t).length = b.length := by
  induction t with
  | zero => rfl
  | succ t ih => simp [cutB, ih]
theorem getD_isB {l : List Int} (h : IsB l) (i : Nat) : 0 ≤ l.getD i 0 ∧ l.getD i 0 < 256 := by
  rw [List.getD_eq_getElem?_getD]
  by_cases hi : i < l.length
  · rw [List.getElem?_eq_getElem hi]; exact h _ (List.getElem_mem hi)
  · rw [List.getElem?_eq_none (by omega)]; exact ⟨Int.le_refl _, by decide⟩
theorem set_isB {l : List Int} (h : IsB l) (i : Nat) {x : Int} (h0 : 0 ≤ x) (h1 : x < 256) : IsB (l.set i x) := by
  intro y hy
  rcases List.mem_or_eq_of_mem_set hy with hy | rfl
  · exact h y hy
  · exact ⟨h0, h1⟩
theorem cutA_isB {b : List Int} (h : IsB b) (t : Nat) : IsB (cutA b t) := by
  induction t with
  | zero => exact h
  | succ t ih =>
    have := getD_isB ih (3 + 4 * t)
    exact set_isB ih _ (by omega) (by omega)
theorem cutB_isB {b : List Int} (h : IsB b) (t : Nat) : IsB (cutB b t) := by
  induction t with
  | zero => exact h
  | succ t ih =>
    have := getD_isB ih (4 + 4 * t)
    exact set_isB ih _ (by omega) (by omega)
end Go.Proofs.Ytkjmjgiklelpiaa.OtN
