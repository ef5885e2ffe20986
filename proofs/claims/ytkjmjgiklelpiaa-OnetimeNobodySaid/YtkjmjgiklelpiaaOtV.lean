/- onetime: what the limbs are worth. -/
import Derived.Test.YtkjmjgiklelpiaaApp
import Derived.Test.YtkjmjgiklelpiaaQuart
import Derived.Test.YtkjmjgiklelpiaaPlainCipherBlocks
import Derived.Deep.RegionHeld3
import Derived.Deep.Cut
import Derived.Deep.CutRange
import Derived.Test.YtkjmjgiklelpiaaOtT
namespace Go.Proofs.Ytkjmjgiklelpiaa.OtV
open Go.RowKit Go.Proofs.YtkjmjgiklelpiaaW.PrintWords Go.Proofs.Ytkjmjgiklelpiaa.Num Go.Proofs.Ytkjmjgiklelpiaa.WordC Go.Proofs.Ytkjmjgiklelpiaa.Arr Go.Proofs.Ytkjmjgiklelpiaa.App Go.Proofs.Ytkjmjgiklelpiaa.CiC Go.Proofs.Ytkjmjgiklelpiaa.CiD Go.Proofs.Ytkjmjgiklelpiaa.OtC Go.Proofs.Ytkjmjgiklelpiaa.OtR Go.Proofs.Ytkjmjgiklelpiaa.OtL Go.Proofs.Ytkjmjgiklelpiaa.OtM Go.Proofs.Ytkjmjgiklelpiaa.OtT
set_option linter.unusedVariables false
set_option linter.unusedSimpArgs false

/-- What limbs are worth. -/
def val (l : List Int) : Int := l.getD 0 0 + l.getD 1 0 * 67108864 + l.getD 2 0 * 4503599627370496 + l.getD 3 0 * 302231454903657293676544 + l.getD 4 0 * 20282409603651670423947251286016
/-- 2^130 - 5 -/
def P130 : Int := 1361129467683753853853498429727072845819
theorem car_val (d : List Int) (hl : d.length = 5) (h : IsL d) : ∃ k : Int, val (carS d) = val d - k * P130 := by
  match d, hl with
  | [a, b, c, e, f], _ =>
    refine ⟨(cst [a, b, c, e, f] 5).2, ?_⟩
    simp only [val, carS, top5, cst, P130, List.getD_cons_zero, List.getD_cons_succ, List.set_cons_zero, List.set_cons_succ]
    omega
theorem tst_val (a r : List Int) (hla : a.length = 5) (hlr : r.length = 5) : ∃ k : Int, val (tst a r 25) = val a * val r - k * P130 := by
  match a, hla, r, hlr with
  | [a0, a1, a2, a3, a4], _, [r0, r1, r2, r3, r4], _ =>
    refine ⟨(a1 * r4 + a2 * r3 + a3 * r2 + a4 * r1) + (a2 * r4 + a3 * r3 + a4 * r2) * 67108864 + (a3 * r4 + a4 * r3) * 4503599627370496 + a4 * r4 * 302231454903657293676544, ?_⟩
    simp [val, tst, tx, P130]
    grind
/-- Bytes' number, the lowest first. -/
def le (b : List Int) : Int := be b.reverse
theorem read_val (b : List Int) (top : Int) (hl : b.length = 16) (h : IsB b) : val (readS b top) = le b + top * 340282366920938463463374607431768211456 := by
  match b, hl with
  | [b0, b1, b2, b3, b4, b5, b6, b7, b8, b9, b10, b11, b12, b13, b14, b15], _ =>
    have h0 := h b0 (by simp)
    have h1 := h b1 (by simp)
    have h2 := h b2 (by simp)
    have h3 := h b3 (by simp)
    have h4 := h b4 (by simp)
    have h5 := h b5 (by simp)
    have h6 := h b6 (by simp)
    have h7 := h b7 (by simp)
    have h8 := h b8 (by simp)
    have h9 := h b9 (by simp)
    have h10 := h b10 (by simp)
    have h11 := h b11 (by simp)
    have h12 := h b12 (by simp)
    have h13 := h b13 (by simp)
    have h14 := h b14 (by simp)
    have h15 := h b15 (by simp)
    clear h
    simp [val, readS, rdT, limb, loadW, le, be]
    omega
/-- Limbs of 26 bits. -/
def Can (l : List Int) : Prop := ∃ a b c d e : Int, l = [a, b, c, d, e] ∧ (0 ≤ a ∧ a < 67108864) ∧ (0 ≤ b ∧ b < 67108864) ∧ (0 ≤ c ∧ c < 67108864) ∧ (0 ≤ d ∧ d < 67108864) ∧ (0 ≤ e ∧ e < 67108864)
theorem car_can {l : List Int} (h : Low l) : Can (carS l) := by
  obtain ⟨a, b, c, d, e, rfl, h1, h2, h3, h4, h5⟩ := h
  refine ⟨_, _, _, _, _, rfl, ?_⟩
  simp [cst]
  omega
theorem pick_val {l : List Int} (h : Can l) : Can (pickS l) ∧ val (pickS l) = val l % P130 := by
  obtain ⟨a, b, c, d, e, rfl, h1, h2, h3, h4, h5⟩ := h
  unfold pickS
  split
  · rename_i ho
    refine ⟨⟨a, b, c, d, e, rfl, h1, h2, h3, h4, h5⟩, ?_⟩
    simp [overS, mst] at ho
    simp [val, P130]
    omega
  · rename_i ho
    simp [overS, mst] at ho
    refine ⟨⟨_, _, _, _, _, rfl, ?_⟩, ?_⟩
    · simp [mst]
      omega
    · simp [val, moreS, mst, P130]
      have o1 : (a + 5) / 67108864 ≤ 1 := by omega
      have o2 : (b + (a + 5) / 67108864) / 67108864 ≤ 1 := by omega
      have o3 : (c + (b + (a + 5) / 67108864) / 67108864) / 67108864 ≤ 1 := by omega
      have o4 : (d + (c + (b + (a + 5) / 67108864) / 67108864) / 67108864) / 67108864 ≤ 1 := by omega
      have o5 : (e + (d + (c + (b + (a + 5) / 67108864) / 67108864) / 67108864) / 67108864) / 67108864 = 1 := by omega
      have n1 := Int.emod_add_mul_ediv (a + 5) 67108864
      have n2 := Int.emod_add_mul_ediv (b + (a + 5) / 67108864) 67108864
      have n3 := Int.emod_add_mul_ediv (c + (b + (a + 5) / 67108864) / 67108864) 67108864
      have n4 := Int.emod_add_mul_ediv (d + (c + (b + (a + 5) / 67108864) / 67108864) / 67108864) 67108864
      have n5 := Int.emod_add_mul_ediv (e + (d + (c + (b + (a + 5) / 67108864) / 67108864) / 67108864) / 67108864) 67108864
      have m1 := Int.emod_nonneg (a + 5) (show (67108864 : Int) ≠ 0 by decide)
      have m2 := Int.emod_nonneg (b + (a + 5) / 67108864) (show (67108864 : Int) ≠ 0 by decide)
      have m3 := Int.emod_nonneg (c + (b + (a + 5) / 67108864) / 67108864) (show (67108864 : Int) ≠ 0 by decide)
      have m4 := Int.emod_nonneg (d + (c + (b + (a + 5) / 67108864) / 67108864) / 67108864) (show (67108864 : Int) ≠ 0 by decide)
      have m5 := Int.emod_nonneg (e + (d + (c + (b + (a + 5) / 67108864) / 67108864) / 67108864) / 67108864) (show (67108864 : Int) ≠ 0 by decide)
      rw [o5] at n5
      generalize (e + (d + (c + (b + (a + 5) / 67108864) / 67108864) / 67108864) / 67108864) % 67108864 = y5 at *
      generalize (d + (c + (b + (a + 5) / 67108864) / 67108864) / 67108864) % 67108864 = y4 at *
      generalize (d + (c + (b + (a + 5) / 67108864) / 67108864) / 67108864) / 67108864 = x4 at *
      generalize (c + (b + (a + 5) / 67108864) / 67108864) % 67108864 = y3 at *
      generalize (c + (b + (a + 5) / 67108864) / 67108864) / 67108864 = x3 at *
      generalize (b + (a + 5) / 67108864) % 67108864 = y2 at *
      generalize (b + (a + 5) / 67108864) / 67108864 = x2 at *
      generalize (a + 5) % 67108864 = y1 at *
      generalize (a + 5) / 67108864 = x1 at *
      clear o1 o2 o3 o4 o5 ho
      generalize hV : a + b * 67108864 + c * 4503599627370496 + d * 302231454903657293676544 + e * 20282409603651670423947251286016 = V
      have hV1 : y1 + y2 * 67108864 + y3 * 4503599627370496 + y4 * 302231454903657293676544 + y5 * 20282409603651670423947251286016 = V - 1361129467683753853853498429727072845819 := by omega
      rw [hV1]
      have hV2 : V < 1361129467683753853853498429727072845824 := by omega
      have hV3 : 0 ≤ V - 1361129467683753853853498429727072845819 := by omega
      rw [show V % 1361129467683753853853498429727072845819 = (V - 1361129467683753853853498429727072845819) % 1361129467683753853853498429727072845819 by omega]
      exact (Int.emod_eq_of_lt hV3 (by omega)).symm
theorem least_val {a : List Int} (hl : a.length = 5) (h : IsL a) : Can (leastS a) ∧ val (leastS a) = val a % P130 := by
  have hlow := carS_low hl h
  obtain ⟨k1, e1⟩ := car_val a hl h
  obtain ⟨k2, e2⟩ := car_val (carS a) hlow.length hlow.isL
  have hp := pick_val (car_can hlow)
  refine ⟨hp.1, ?_⟩
  have h2 := hp.2
  unfold leastS
  rw [h2, e2, e1]
  unfold P130
  omega
/-- One block more: what the accumulator is worth. -/
theorem times_val {a r : List Int} (hla : a.length = 5) (hlr : r.length = 5) (ha : IsBd 268435456 a) (hr : IsBd 67108864 r) : Low (timesS a r) ∧ val (timesS a r) % P130 = val a * val r % P130 := by
  have hi := tst_isL ha hr
  obtain ⟨k1, e1⟩ := tst_val a r hla hlr
  obtain ⟨k2, e2⟩ := car_val _ (tst_length a r 25) hi
  refine ⟨carS_low (tst_length a r 25) hi, ?_⟩
  unfold timesS
  rw [e2, e1]
  generalize val a * val r = z
  unfold P130
  omega
end Go.Proofs.Ytkjmjgiklelpiaa.OtV
