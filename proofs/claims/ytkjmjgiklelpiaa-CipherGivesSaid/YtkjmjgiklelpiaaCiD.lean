/- What the cipher's block is, in plain words. -/
import Derived.Test.YtkjmjgiklelpiaaApp
import Derived.Test.YtkjmjgiklelpiaaQuart
import Derived.Test.YtkjmjgiklelpiaaPlainCipherBlocks
import Derived.Deep.RegionHeld3
import Derived.Deep.Cut
import Derived.Deep.CutRange
import Derived.Test.YtkjmjgiklelpiaaCiC
import Derived.Laws.ResultCell
import Derived.ScopeJumps
import Derived.WalkMore
namespace Go.Proofs.Ytkjmjgiklelpiaa.CiD
open Go.RowKit Go.Proofs.YtkjmjgiklelpiaaW.PrintWords Go.Proofs.Ytkjmjgiklelpiaa.Num Go.Proofs.Ytkjmjgiklelpiaa.WordC Go.Proofs.Ytkjmjgiklelpiaa.Arr Go.Proofs.Ytkjmjgiklelpiaa.App Go.Proofs.Ytkjmjgiklelpiaa.CiC
set_option linter.unusedVariables false
set_option linter.unusedSimpArgs false

/-- Two rounds. -/
def rnd (l : List Int) : List Int := qr (qr (qr (qr (qr (qr (qr (qr l 0 4 8 12) 1 5 9 13) 2 6 10 14) 3 7 11 15) 0 5 10 15) 1 6 11 12) 2 7 8 13) 3 4 9 14
def rnds : Nat → List Int → List Int
  | 0, l => l
  | n + 1, l => rnd (rnds n l)
theorem rnd_length (l : List Int) : (rnd l).length = l.length := by simp [rnd, qr_length]
theorem rnd_isW {l : List Int} (h : IsW l) : IsW (rnd l) :=
  qr_isW (qr_isW (qr_isW (qr_isW (qr_isW (qr_isW (qr_isW (qr_isW h _ _ _ _) _ _ _ _) _ _ _ _) _ _ _ _) _ _ _ _) _ _ _ _) _ _ _ _) _ _ _ _
theorem rnds_length (n : Nat) (l : List Int) : (rnds n l).length = l.length := by
  induction n with
  | zero => rfl
  | succ n ih => rw [rnds, rnd_length, ih]
theorem rnds_isW {l : List Int} (h : IsW l) (n : Nat) : IsW (rnds n l) := by
  induction n with
  | zero => exact h
  | succ n ih => exact rnd_isW ih
/-- The first so many words' bytes. -/
def outS (r l : List Int) : Nat → List Int
  | 0 => []
  | t + 1 => outS r l t ++ storeW ((r.getD t 0 + l.getD t 0) % 4294967296) true
theorem outS_length (r l : List Int) (t : Nat) : (outS r l t).length = 4 * t := by
  induction t with
  | zero => rfl
  | succ t ih => rw [outS, List.length_append, ih, storeW_length]; omega
theorem outS_isB (r l : List Int) (t : Nat) : IsB (outS r l t) := by
  induction t with
  | zero => intro x hx; simp [outS] at hx
  | succ t ih =>
    intro x hx
    rcases List.mem_append.1 (show x ∈ outS r l t ++ _ from hx) with hx | hx
    · exact ih x hx
    · exact storeW_isB _ _ x hx
def blkS (l : List Int) : List Int := outS (rnds 10 l) l 16
theorem blkS_length (l : List Int) : (blkS l).length = 64 := outS_length _ _ 16
theorem blkS_isB (l : List Int) : IsB (blkS l) := outS_isB _ _ 16
def q4 (l : List Int) : Nat → List Int
  | 0 => l
  | t + 1 => qr (q4 l t) t (4 + t) (8 + t) (12 + t)
def d4 (l : List Int) : Nat → List Int
  | 0 => l
  | t + 1 => qr (d4 l t) t (4 + (t + 1) % 4) (8 + (t + 2) % 4) (12 + (t + 3) % 4)
theorem rnd_q4 (l : List Int) : rnd l = d4 (q4 l 4) 4 := rfl
theorem q4_length (l : List Int) (t : Nat) : (q4 l t).length = l.length := by
  induction t with
  | zero => rfl
  | succ t ih => rw [q4, qr_length, ih]
theorem d4_length (l : List Int) (t : Nat) : (d4 l t).length = l.length := by
  induction t with
  | zero => rfl
  | succ t ih => rw [d4, qr_length, ih]
theorem q4_isW {l : List Int} (h : IsW l) (t : Nat) : IsW (q4 l t) := by
  induction t with
  | zero => exact h
  | succ t ih => exact qr_isW ih _ _ _ _
theorem d4_isW {l : List Int} (h : IsW l) (t : Nat) : IsW (d4 l t) := by
  induction t with
  | zero => exact h
  | succ t ih => exact qr_isW ih _ _ _ _
theorem blk_under {w w1 : World} {g t B : Nat} {cs : List Value} (h : Blk w g t cs) (hb : Below B w w1) (hg : g < B) : Blk w1 g t cs := (hb.block g hg).trans h
theorem wp_scope_once {P : Program} {a : Act} {w : World} {Q : Exit → Act → World → Prop} {c rest : Code} (l : Nat) (J : Act → World → Prop) (μ : Act → World → Nat) (hf : findLabel c l = some (Code.seq Code.skip rest))
    (pass : ∀ a w, J a w → rest.wp P (Exit.jump l (fun a' w' => J a' w' ∧ μ a' w' < μ a w) Q) a w)
    (first : (∀ a w, J a w → rest.wp P (Exit.jump l J Q) a w) → c.wp P (Exit.jump l J Q) a w) : (Code.scope c).wp P Q a w :=
  wp_scope_jumps l J μ hf (first fun a w hJ => Code.wp_mono (fun e a' w' h => by
    cases e with
    | goto l' => exact ⟨h.1, h.2.1⟩
    | _ => exact h) (pass a w hJ)) fun a w hJ => wp_seq (wp_skip (pass a w hJ))
theorem infoU32 : (Try.prog.info? 23).map (·.size) = some 1 := by kernel_rfl
theorem sizeU8 : (Try.prog.info? 5).map (·.size) = some 1 := by kernel_rfl
theorem index_nums (l : List Int) (hl : l.length = 16) (t : Nat) (ht : t < 16) (w : World) : (Instr.index 65 (.agg (nums .u32 l).toArray) (.int .i64 t)).run Try.prog w = .ok (.int .u32 (l.getD t 0)) w := by
  obtain ⟨i, hi, hz⟩ := Option.map_eq_some_iff.1 infoU32
  have hn : (0 : Int) ≤ (t : Int) ∧ (t : Int) < 16 := by omega
  have hk := nums_get .u32 l t (by omega)
  have hg : (isAgg 23).run Try.prog w = .ok false w := by
    unfold isAgg
    rw [Sem.run_bind, run_underlying Try.underlying23]
    rfl
  simp [Instr.index, run_underlying Try.underlying65, asIntOf, hn, go_sem, Go.sizeOf, typeInfo, hi, hz, ht, hg, hk]
/-- out[4*i:], of an array of 64 bytes -/
theorem slice_arr (G T : Nat) (h : T < 16) (W : World) : (Instr.sliceAt 25 (.pointer (some ⟨G, 0, none⟩)) (some (.int .i64 (4 * (T : Int)))) none none).run Try.prog W = .ok (.slice (some ⟨G, 4 * T, none⟩) (64 - 4 * T) (64 - 4 * T)) W := by
  obtain ⟨i, hi, hz⟩ := infoX
  have h0 : (0 : Int) ≤ 4 * (T : Int) ∧ 4 * (T : Int) ≤ 64 := by omega
  have h1 : (4 * (T : Int)).toNat = 4 * T := by omega
  have h2 : ¬ 64 = 4 * T := by omega
  have h3 : (⟨G, 0, none⟩ : Addr).add (4 * T) = ⟨G, 4 * T, none⟩ := add_plain G (4 * T)
  simp [Instr.sliceAt, run_underlying Try.underlying25, Instr.sureAddr, Instr.sliceBounds, Instr.sliceBound, asIntOf, sizeOf, typeInfo, hi, hz, h0, h1, h2, h3]
/-- The bytes of the block as they stand when so many words have been told. -/
def outT (r l : List Int) (T : Nat) : List Int := outS r l T ++ List.replicate (64 - 4 * T) 0
theorem outT_length (r l : List Int) (T : Nat) (h : T ≤ 16) : (outT r l T).length = 64 := by simp [outT, outS_length]; omega
theorem outT_next (r l : List Int) (T : Nat) (h : T < 16) : (nums .u8 (outT r l T)).take (4 * T) ++ nums .u8 (storeW ((r.getD T 0 + l.getD T 0) % 4294967296) true) ++ (nums .u8 (outT r l T)).drop (4 * T + 4) = nums .u8 (outT r l (T + 1)) := by
  have hl := outS_length r l T
  unfold nums
  rw [← List.map_take, ← List.map_drop, ← List.map_append, ← List.map_append]
  congr 1
  unfold outT
  rw [outS, List.take_append_of_le_length (by omega), List.take_of_length_le (by omega), List.drop_append, List.drop_of_length_le (by omega), hl, show 4 * T + 4 - 4 * T = 4 by omega, List.drop_replicate, show 64 - 4 * T - 4 = 64 - 4 * (T + 1) by omega]
  simp
end Go.Proofs.Ytkjmjgiklelpiaa.CiD
