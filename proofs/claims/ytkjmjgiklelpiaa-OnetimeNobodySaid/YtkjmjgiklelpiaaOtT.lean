/- onetime.times, walked. -/
import Derived.Test.YtkjmjgiklelpiaaApp
import Derived.Test.YtkjmjgiklelpiaaQuart
import Derived.Test.YtkjmjgiklelpiaaPlainCipherBlocks
import Derived.Deep.RegionHeld3
import Derived.Deep.Cut
import Derived.Deep.CutRange
import Derived.Test.YtkjmjgiklelpiaaOtM
namespace Go.Proofs.Ytkjmjgiklelpiaa.OtT
open Go.RowKit Go.Proofs.YtkjmjgiklelpiaaW.PrintWords Go.Proofs.Ytkjmjgiklelpiaa.Num Go.Proofs.Ytkjmjgiklelpiaa.WordC Go.Proofs.Ytkjmjgiklelpiaa.Arr Go.Proofs.Ytkjmjgiklelpiaa.App Go.Proofs.Ytkjmjgiklelpiaa.CiC Go.Proofs.Ytkjmjgiklelpiaa.CiD Go.Proofs.Ytkjmjgiklelpiaa.OtC Go.Proofs.Ytkjmjgiklelpiaa.OtR Go.Proofs.Ytkjmjgiklelpiaa.OtL Go.Proofs.Ytkjmjgiklelpiaa.OtM
set_option linter.unusedVariables false
set_option linter.unusedSimpArgs false

/-- The product's limbs, one product of two limbs behind the other. -/
def tx (a r : List Int) (i k : Nat) : Int := if 4 < i + k then a.getD i 0 * r.getD k 0 * 5 else a.getD i 0 * r.getD k 0
def tst (a r : List Int) : Nat → List Int
  | 0 => [0, 0, 0, 0, 0]
  | j + 1 => (tst a r j).set ((j / 5 + j % 5) % 5) ((tst a r j).getD ((j / 5 + j % 5) % 5) 0 + tx a r (j / 5) (j % 5))
def timesS (a r : List Int) : List Int := carS (tst a r 25)
def IsBd (m : Int) (l : List Int) : Prop := ∀ j, 0 ≤ l.getD j 0 ∧ l.getD j 0 < m
theorem tst_length (a r : List Int) (j : Nat) : (tst a r j).length = 5 := by
  induction j with
  | zero => rfl
  | succ j ih => simp [tst, ih]
theorem mul_bd {x y : Int} (hx : 0 ≤ x ∧ x < 268435456) (hy : 0 ≤ y ∧ y < 67108864) : 0 ≤ x * y ∧ x * y < 18014398509481984 := by
  constructor
  · exact Int.mul_nonneg hx.1 hy.1
  · have h1 : x * y ≤ x * 67108863 := Int.mul_le_mul_of_nonneg_left (by omega) hx.1
    omega
theorem tx_bd {a r : List Int} (ha : IsBd 268435456 a) (hr : IsBd 67108864 r) (i k : Nat) : 0 ≤ tx a r i k ∧ tx a r i k < 90071992547409920 := by
  have := mul_bd (ha i) (hr k)
  unfold tx
  split <;> omega
theorem tst_bd {a r : List Int} (ha : IsBd 268435456 a) (hr : IsBd 67108864 r) (j : Nat) : ∀ m, 0 ≤ (tst a r j).getD m 0 ∧ (tst a r j).getD m 0 ≤ (j : Int) * 90071992547409920 := by
  induction j with
  | zero =>
    intro m
    have hm : m = 0 ∨ m = 1 ∨ m = 2 ∨ m = 3 ∨ m = 4 ∨ 5 ≤ m := by omega
    rcases hm with rfl | rfl | rfl | rfl | rfl | hm
    all_goals first
      | (simp [tst]; done)
      | (rw [List.getD_eq_getElem?_getD, List.getElem?_eq_none (by rw [tst_length]; exact hm)]; simp)
  | succ j ih =>
    intro m
    have hx := tx_bd ha hr (j / 5) (j % 5)
    simp only [tst]
    by_cases hm : (j / 5 + j % 5) % 5 = m
    · have h0 := ih m
      rw [hm, List.getD_eq_getElem?_getD, List.getElem?_set_self (by rw [tst_length]; omega), Option.getD_some]
      push_cast
      omega
    · have h0 := ih m
      rw [List.getD_eq_getElem?_getD, List.getElem?_set_ne hm, ← List.getD_eq_getElem?_getD]
      push_cast
      omega
theorem tst_isL {a r : List Int} (ha : IsBd 268435456 a) (hr : IsBd 67108864 r) : IsL (tst a r 25) := by
  intro x hx
  obtain ⟨m, hm, rfl⟩ := List.getElem_of_mem hx
  have h := tst_bd ha hr 25 m
  rw [List.getD_eq_getElem?_getD, List.getElem?_eq_getElem hm, Option.getD_some] at h
  omega
set_option maxHeartbeats 8000000 in
set_option maxRecDepth 100000 in
theorem times_c {a r : List Int} {w : World} (hla : a.length = 5) (hlr : r.length = 5) (ha : IsBd 268435456 a) (hr : IsBd 67108864 r) :
    Calls Try.prog 70 #[.agg (nums .u64 a).toArray, .agg (nums .u64 r).toArray] w fun e w' => e = .returned (.agg (nums .u64 (timesS a r)).toArray) ∧ Below w.heap.size w w' := by
  have HLA := Aside0.mk hla
  have HLR := Aside0.mk hlr
  have HA := Aside0.mk ha
  have HR := Aside0.mk hr
  clear hla hlr ha hr
  go_enter Try.func70, Try.ntmps70
  go_upto_region 1 with (fail)
  generalize hW : ((w.alloc _).alloc _).alloc _ = W0
  have hA : Aside0 (Blk W0 w.heap.size 79 (nums .u64 a)) := ⟨by rw [← hW]; exact Blk.alloc (heap_alloc2_old _ _ _) _⟩
  have hR : Aside0 (Blk W0 (w.heap.size + 1) 79 (nums .u64 r)) := ⟨by rw [← hW]; exact Blk.alloc (heap_alloc2_new _ _ _) _⟩
  have hB : Below w.heap.size w W0 := by rw [← hW]; exact (((Below.refl _ w).alloc (Nat.le_refl _) _).alloc (by simp) _).alloc (by simp; omega) _
  have hsz : W0.heap.size = w.heap.size + 3 := by rw [← hW]; simp
  have hY : Aside0 (Blk W0 (w.heap.size + 1 + 1) 79 (nums .u64 (List.replicate 5 0))) := ⟨by
    rw [← hW]
    have := heap_alloc_new ((w.alloc (.cells (nums .u64 a).toArray 79)).alloc (.cells (nums .u64 r).toArray 79)) (.cells (nums .u64 (List.replicate 5 0)).toArray 79)
    have hs : ((w.alloc (.cells (nums .u64 a).toArray 79)).alloc (.cells (nums .u64 r).toArray 79)).heap.size = w.heap.size + 1 + 1 := by simp
    rw [hs] at this
    exact this⟩
  clear hW
  have hD1 : Aside0 (Blk (W0.alloc (.cells (nums .u64 (List.replicate 5 0)).toArray 79)) (w.heap.size + 3) 79 (nums .u64 (tst a r 0))) := ⟨by rw [← hsz]; exact heap_alloc_new _ _⟩
  have hA1 : Aside0 (Blk (W0.alloc (.cells (nums .u64 (List.replicate 5 0)).toArray 79)) w.heap.size 79 (nums .u64 a)) := ⟨Blk.alloc hA.out _⟩
  have hR1 : Aside0 (Blk (W0.alloc (.cells (nums .u64 (List.replicate 5 0)).toArray 79)) (w.heap.size + 1) 79 (nums .u64 r)) := ⟨Blk.alloc hR.out _⟩
  have hY1 : Aside0 (Blk (W0.alloc (.cells (nums .u64 (List.replicate 5 0)).toArray 79)) (w.heap.size + 1 + 1) 79 (nums .u64 (List.replicate 5 0))) := ⟨Blk.alloc hY.out _⟩
  have hB1 : Below w.heap.size w (W0.alloc (.cells (nums .u64 (List.replicate 5 0)).toArray 79)) := hB.alloc hB.size _
  clear hA hR hY hB
  go_wp2_with fail
  generalize hW1 : W0.alloc _ = W1
  rw [show W0.alloc (.cells (nums .u64 (List.replicate 5 0)).toArray 79) = W1 from hW1] at hD1 hA1 hR1 hY1 hB1
  clear hW1 hsz
  go_loopw [9] (fun i wr => ∃ t : Nat, t ≤ 5 ∧ i = .int .i64 t ∧ Aside0 (Blk wr (w.heap.size + 3) 79 (nums .u64 (tst a r (5 * t)))) ∧ Aside0 (Blk wr w.heap.size 79 (nums .u64 a)) ∧ Aside0 (Blk wr (w.heap.size + 1) 79 (nums .u64 r)) ∧ Aside0 (Blk wr (w.heap.size + 1 + 1) 79 (nums .u64 (List.replicate 5 0))) ∧ Below w.heap.size w wr) (fun i _ => 5 - (intOf i).toNat)
  case atStart => exact ⟨0, by omega, rfl, hD1, hA1, hR1, hY1, hB1⟩
  case round =>
    clear hD1 hA1 hR1 hY1 hB1
    obtain ⟨t, ht, rfl, hD, hA, hR, hY, hB⟩ := hrel
    by_cases hlt : t < 5
    · have hlt' : (t : Int) < 5 := by omega
      go_wp2_with fail
      go_loopw [12] (fun i wr => ∃ k : Nat, k ≤ 5 ∧ i = .int .i64 k ∧ Aside0 (Blk wr (w.heap.size + 3) 79 (nums .u64 (tst a r (5 * t + k)))) ∧ Aside0 (Blk wr w.heap.size 79 (nums .u64 a)) ∧ Aside0 (Blk wr (w.heap.size + 1) 79 (nums .u64 r)) ∧ Aside0 (Blk wr (w.heap.size + 1 + 1) 79 (nums .u64 (List.replicate 5 0))) ∧ Below w.heap.size w wr) (fun i _ => 5 - (intOf i).toNat)
      case atStart => exact ⟨0, by omega, rfl, hD, hA, hR, hY, hB⟩
      case round =>
        clear hD hA hR hY hB
        obtain ⟨k, hk, rfl, hD, hA, hR, hY, hB⟩ := hrel
        by_cases hlk : k < 5
        · have hlk' : (k : Int) < 5 := by omega
          have ka := blk_u64 hA.out t (by rw [HLA.out]; exact hlt)
          have kr := blk_u64 hR.out k (by rw [HLR.out]; exact hlk)
          have kd := blk_u64 hD.out ((t + k) % 5) (by rw [tst_length]; omega)
          have fd := Blk.frozen hD.out ((t + k) % 5)
          have hmb := mul_bd (HA.out t) (HR.out k)
          have hdb := tst_bd HA.out HR.out (5 * t + k) ((t + k) % 5)
          have hnx : Aside0 (tst a r (5 * t + (k + 1)) = (tst a r (5 * t + k)).set ((t + k) % 5) ((tst a r (5 * t + k)).getD ((t + k) % 5) 0 + (if 4 < t + k then a.getD t 0 * r.getD k 0 * 5 else a.getD t 0 * r.getD k 0))) := ⟨by
            rw [show 5 * t + (k + 1) = (5 * t + k) + 1 by omega]
            show (tst a r (5 * t + k)).set _ _ = _
            rw [show (5 * t + k) / 5 = t by omega, show (5 * t + k) % 5 = k by omega]; rfl⟩
          generalize a.getD t 0 = x at *
          generalize r.getD k 0 = y at *
          generalize (tst a r (5 * t + k)).getD ((t + k) % 5) 0 = z at *
          generalize hpq : x * y = pq at *
          have HPQ := Aside0.mk hpq
          clear hpq
          have e1 : IntKind.u64.wrap (x * y) = pq := by rw [HPQ.out, IntKind.wrap_u64]; omega
          have e0 : (x * y) % 18446744073709551616 = pq := by rw [HPQ.out]; omega
          have j1 : (0 : Int) ≤ ((t : Int) + (k : Int)) % 5 := by omega
          have j2 : ((t : Int) + (k : Int)) % 5 < 5 := by omega
          have j3 : (((t : Int) + (k : Int)) % 5).toNat = (t + k) % 5 := by omega
          go_upto_region 8 with (fail)
          go_region
          have hnx' := hnx.out
          clear hnx
          have hnx := hnx'
          clear hnx'
          by_cases h4 : 4 < t + k
          · have hk4 : (4 : Int) < (t : Int) + (k : Int) := by omega
            rw [if_pos h4] at hnx
            have e5 : (pq * 5) % 18446744073709551616 = pq * 5 := by omega
            have e6 : (z + pq * 5) % 18446744073709551616 = (z + pq * 5) := by omega
            have HNX := Aside0.mk hnx
            clear hnx
            go_wp2_with fail
            have R1 : Aside0 (Blk (wr.setCell ⟨w.heap.size + 3, (t + k) % 5, none⟩ (.int .u64 (z + pq * 5))).drew (w.heap.size + 3) 79 (nums .u64 (tst a r (5 * t + (k + 1))))) := ⟨by rw [HNX.out]; exact CiC.blk_put hD.out ((t + k) % 5) _⟩
            have R2 : Aside0 (Blk (wr.setCell ⟨w.heap.size + 3, (t + k) % 5, none⟩ (.int .u64 (z + pq * 5))).drew w.heap.size 79 (nums .u64 a)) := ⟨Blk.far hA.out (p := ⟨w.heap.size + 3, (t + k) % 5, none⟩) (by show w.heap.size ≠ w.heap.size + 3; omega) _⟩
            have R3 : Aside0 (Blk (wr.setCell ⟨w.heap.size + 3, (t + k) % 5, none⟩ (.int .u64 (z + pq * 5))).drew (w.heap.size + 1) 79 (nums .u64 r)) := ⟨Blk.far hR.out (p := ⟨w.heap.size + 3, (t + k) % 5, none⟩) (by show w.heap.size + 1 ≠ w.heap.size + 3; omega) _⟩
            have R4 : Aside0 (Blk (wr.setCell ⟨w.heap.size + 3, (t + k) % 5, none⟩ (.int .u64 (z + pq * 5))).drew (w.heap.size + 1 + 1) 79 (nums .u64 (List.replicate 5 0))) := ⟨Blk.far hY.out (p := ⟨w.heap.size + 3, (t + k) % 5, none⟩) (by show w.heap.size + 1 + 1 ≠ w.heap.size + 3; omega) _⟩
            go_roundw
            case rel => exact ⟨k + 1, by omega, by go_num, R1, R2, R3, R4, (hB.setCell (p := ⟨w.heap.size + 3, (t + k) % 5, none⟩) (by show w.heap.size ≤ w.heap.size + 3; omega) _).drew⟩
            case measure => simp [intOf]; omega
          · have hk4 : ¬ (4 : Int) < (t : Int) + (k : Int) := by omega
            rw [if_neg h4] at hnx
            have e6 : (z + pq) % 18446744073709551616 = (z + pq) := by omega
            have HNX := Aside0.mk hnx
            clear hnx
            go_wp2_with fail
            have R1 : Aside0 (Blk (wr.setCell ⟨w.heap.size + 3, (t + k) % 5, none⟩ (.int .u64 (z + pq))).drew (w.heap.size + 3) 79 (nums .u64 (tst a r (5 * t + (k + 1))))) := ⟨by rw [HNX.out]; exact CiC.blk_put hD.out ((t + k) % 5) _⟩
            have R2 : Aside0 (Blk (wr.setCell ⟨w.heap.size + 3, (t + k) % 5, none⟩ (.int .u64 (z + pq))).drew w.heap.size 79 (nums .u64 a)) := ⟨Blk.far hA.out (p := ⟨w.heap.size + 3, (t + k) % 5, none⟩) (by show w.heap.size ≠ w.heap.size + 3; omega) _⟩
            have R3 : Aside0 (Blk (wr.setCell ⟨w.heap.size + 3, (t + k) % 5, none⟩ (.int .u64 (z + pq))).drew (w.heap.size + 1) 79 (nums .u64 r)) := ⟨Blk.far hR.out (p := ⟨w.heap.size + 3, (t + k) % 5, none⟩) (by show w.heap.size + 1 ≠ w.heap.size + 3; omega) _⟩
            have R4 : Aside0 (Blk (wr.setCell ⟨w.heap.size + 3, (t + k) % 5, none⟩ (.int .u64 (z + pq))).drew (w.heap.size + 1 + 1) 79 (nums .u64 (List.replicate 5 0))) := ⟨Blk.far hY.out (p := ⟨w.heap.size + 3, (t + k) % 5, none⟩) (by show w.heap.size + 1 + 1 ≠ w.heap.size + 3; omega) _⟩
            go_roundw
            case rel => exact ⟨k + 1, by omega, by go_num, R1, R2, R3, R4, (hB.setCell (p := ⟨w.heap.size + 3, (t + k) % 5, none⟩) (by show w.heap.size ≤ w.heap.size + 3; omega) _).drew⟩
            case measure => simp [intOf]; omega
        · have hgk : ¬ (k : Int) < 5 := by omega
          obtain rfl : k = 5 := by omega
          go_wp2_with fail
          go_roundw
          case rel => exact ⟨t + 1, by omega, by go_num, hD, hA, hR, hY, hB⟩
          case measure => simp [intOf]; omega
    · have hge : ¬ (t : Int) < 5 := by omega
      obtain rfl : t = 5 := by omega
      have hdl : Aside0 ((tst a r 25).length = 5) := ⟨tst_length a r 25⟩
      have hdi := Aside0.mk (tst_isL HA.out HR.out)
      have hD25 : Aside0 (Blk wr (w.heap.size + 3) 79 (nums .u64 (tst a r 25))) := hD
      have htm : Aside0 (timesS a r = carS (tst a r 25)) := ⟨rfl⟩
      obtain ⟨D, HD⟩ : ∃ D, Aside0 (tst a r 25 = D) := ⟨_, ⟨rfl⟩⟩
      rw [HD.out] at hdl hdi hD25 htm
      clear hD
      go_wp2_with (first
        | (refine load_arr rfl 79 (.tmp 5) rfl (w.heap.size + 3) rfl 79 .u64 D 5 36 hD25.out Try.underlying79 size79 hdl.out ?_))
      refine (carried_c hdl.out hdi.out).mono ?_
      rintro x w2 ⟨rfl, hb2⟩
      have hcl : Aside0 ((carS D).length = 5) := ⟨by simp [carS, top5, cst_length]; exact hdl.out⟩
      obtain ⟨S, HS⟩ : ∃ S, Aside0 (carS D = S) := ⟨_, ⟨rfl⟩⟩
      rw [HS.out] at hcl htm ⊢
      have HY2 := Aside0.mk (hY.out.below hb2)
      have HB2 := Aside0.mk (below_next hB hb2)
      clear hb2
      go_wp2_with (first
        | (refine store_arr rfl 79 (.tmp 4) (.tmp 40) rfl (w.heap.size + 1 + 1) .u64 S rfl rfl 79 5 _ HY2.out size79 hcl.out (by rw [nums_length]; rfl) ?_; intro w9 hZ hg9; have HZ := Aside0.mk hZ; have HG9 := Aside0.mk hg9; clear hZ hg9))
      refine bodyPost_ret (v := .agg (nums .u64 S).toArray) ?_ rfl ⟨by rw [htm.out], HB2.out.grown HG9.out HB2.out.size (fun k hk => by cases hk; omega)⟩
      exact results_arr (p := 4) (ty := 79) rfl _ w9 (w.heap.size + 1 + 1) 79 5 36 .u64 S rfl HZ.out Try.underlying79 size79 hcl.out
end Go.Proofs.Ytkjmjgiklelpiaa.OtT
