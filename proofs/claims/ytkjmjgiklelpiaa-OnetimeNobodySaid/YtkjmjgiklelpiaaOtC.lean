/- onetime.carried, walked. -/
import Derived.Test.YtkjmjgiklelpiaaApp
import Derived.Test.YtkjmjgiklelpiaaQuart
import Derived.Test.YtkjmjgiklelpiaaPlainCipherBlocks
import Derived.Deep.RegionHeld3
import Derived.Deep.Cut
import Derived.Deep.CutRange
import Derived.Test.YtkjmjgiklelpiaaCiC
namespace Go.Proofs.Ytkjmjgiklelpiaa.OtC
open Go.RowKit Go.Proofs.YtkjmjgiklelpiaaW.PrintWords Go.Proofs.Ytkjmjgiklelpiaa.Num Go.Proofs.Ytkjmjgiklelpiaa.WordC Go.Proofs.Ytkjmjgiklelpiaa.Arr Go.Proofs.Ytkjmjgiklelpiaa.App Go.Proofs.Ytkjmjgiklelpiaa.CiC
set_option linter.unusedVariables false
set_option linter.unusedSimpArgs false

/-- Numbers below 2^63. -/
def IsL (l : List Int) : Prop := ∀ x ∈ l, 0 ≤ x ∧ x < 9223372036854775808
theorem getD_isL {l : List Int} (h : IsL l) (i : Nat) : 0 ≤ l.getD i 0 ∧ l.getD i 0 < 9223372036854775808 := by
  rw [List.getD_eq_getElem?_getD]
  by_cases hi : i < l.length
  · rw [List.getElem?_eq_getElem hi]; exact h _ (List.getElem_mem hi)
  · rw [List.getElem?_eq_none (by omega)]; exact ⟨Int.le_refl _, by decide⟩
theorem set_isL {l : List Int} (h : IsL l) (i : Nat) {x : Int} (h0 : 0 ≤ x) (h1 : x < 9223372036854775808) : IsL (l.set i x) := by
  intro y hy
  rcases List.mem_or_eq_of_mem_set hy with hy | rfl
  · exact h y hy
  · exact ⟨h0, h1⟩
/-- Carries, from the first limb on. -/
def cst (d : List Int) : Nat → List Int × Int
  | 0 => (d, 0)
  | i + 1 => ((cst d i).1.set i (((cst d i).1.getD i 0 + (cst d i).2) % 67108864), ((cst d i).1.getD i 0 + (cst d i).2) / 67108864)
def top5 (l : List Int) (c : Int) : List Int := ((l.set 0 (l.getD 0 0 + 5 * c)).set 1 (l.getD 1 0 + (l.getD 0 0 + 5 * c) / 67108864)).set 0 ((l.getD 0 0 + 5 * c) % 67108864)
def carS (d : List Int) : List Int := top5 (cst d 5).1 (cst d 5).2
theorem cst_length (d : List Int) (i : Nat) : (cst d i).1.length = d.length := by
  induction i with
  | zero => rfl
  | succ i ih => simp [cst, ih]
theorem cst_ok {d : List Int} (h : IsL d) (i : Nat) : IsL (cst d i).1 ∧ 0 ≤ (cst d i).2 ∧ (cst d i).2 < 274877906944 := by
  induction i with
  | zero => exact ⟨h, Int.le_refl _, by show (0 : Int) < _; decide⟩
  | succ i ih =>
    obtain ⟨h1, h2, h3⟩ := ih
    have := getD_isL h1 i
    simp only [cst]
    generalize (cst d i).1.getD i 0 = x at *
    generalize (cst d i).2 = c at *
    exact ⟨set_isL h1 i (by omega) (by omega), by omega, by omega⟩
theorem cst_low (d : List Int) (hl : d.length = 5) : (cst d 5).1.getD 0 0 < 67108864 ∧ (cst d 5).1.getD 1 0 < 67108864 := by
  match d, hl with
  | [a, b, c, e, f], _ =>
    simp [cst]
    omega
theorem and26 (x : Int) (h0 : 0 ≤ x) (h1 : x < 18446744073709551616) : Go.bits .and .u64 x 67108863 = x % 67108864 := by
  rw [u64_and x 67108863 h0 h1 (by decide) (by decide)]
  obtain ⟨X, rfl⟩ := Int.eq_ofNat_of_zero_le h0
  rw [Int.toNat_natCast, show (67108863 : Int).toNat = 2 ^ 26 - 1 from rfl, Nat.and_two_pow_sub_one_eq_mod]; rfl
theorem size79 : (Try.prog.info? 79).map (·.size) = some 5 := by kernel_rfl
set_option maxHeartbeats 8000000 in
set_option maxRecDepth 100000 in
theorem carried_c {d : List Int} {w : World} (hl : d.length = 5) (h : IsL d) :
    Calls Try.prog 71 #[.agg (nums .u64 d).toArray] w fun e w' => e = .returned (.agg (nums .u64 (carS d)).toArray) ∧ Below w.heap.size w w' := by
  have HL := Aside0.mk hl
  have HD := Aside0.mk h
  clear hl h
  go_enter Try.func71, Try.ntmps71
  go_wp2_with fail
  generalize hW : (w.alloc _).alloc _ = W0
  have hX : Aside0 (Blk W0 w.heap.size 79 (nums .u64 (cst d 0).1)) := ⟨by rw [← hW]; exact heap_alloc2_old _ _ _⟩
  have hY : Aside0 (Blk W0 (w.heap.size + 1) 79 (nums .u64 (List.replicate 5 0))) := ⟨by rw [← hW]; exact heap_alloc2_new _ _ _⟩
  have hB : Below w.heap.size w W0 := by rw [← hW]; exact ((Below.refl _ w).alloc (Nat.le_refl _) _).alloc (by simp) _
  clear hW
  go_loopw [5, 3] (fun i v wr => ∃ t : Nat, t ≤ 5 ∧ i = .int .i64 t ∧ v = .int .u64 (cst d t).2 ∧ Aside0 (Blk wr w.heap.size 79 (nums .u64 (cst d t).1)) ∧ Aside0 (Blk wr (w.heap.size + 1) 79 (nums .u64 (List.replicate 5 0))) ∧ Below w.heap.size w wr) (fun i _ _ => 5 - (intOf i).toNat)
  case atStart => exact ⟨0, by omega, rfl, rfl, hX, hY, hB⟩
  case round =>
    clear hX hY hB
    obtain ⟨t, ht, rfl, rfl, hX, hY, hB⟩ := hrel
    have hlc : Aside0 ((cst d t).1.length = 5) := ⟨by rw [cst_length]; exact HL.out⟩
    have hok := cst_ok HD.out t
    have hg := getD_isL hok.1 t
    by_cases hlt : t < 5
    · have hlt' : (t : Int) < 5 := by omega
      have f0 := blk_num hX.out t (by rw [hlc.out]; exact hlt)
      have f1 := Blk.frozen hX.out t
      have hn1 : Aside0 ((cst d (t + 1)).1 = (cst d t).1.set t (((cst d t).1.getD t 0 + (cst d t).2) % 67108864)) := ⟨rfl⟩
      have hn2 : Aside0 ((cst d (t + 1)).2 = ((cst d t).1.getD t 0 + (cst d t).2) / 67108864) := ⟨rfl⟩
      generalize (cst d t).1.getD t 0 = x at *
      generalize (cst d t).2 = c at *
      have hs : (x + c) % 18446744073709551616 = x + c := by omega
      have hm := and26 (x + c) (by omega) (by omega)
      have hsh : shr .u64 (x + c) 26 = (x + c) / 67108864 := by rfl
      go_wp2_with fail
      have R1 : Aside0 (Blk ((wr.setCell ⟨w.heap.size, t, none⟩ (.int .u64 (x + c))).setCell ⟨w.heap.size, t, none⟩ (.int .u64 ((x + c) % 67108864))) w.heap.size 79 (nums .u64 (cst d (t + 1)).1)) := ⟨by
        have h1 := CiC.blk_put (CiC.blk_put hX.out t (x + c)) t ((x + c) % 67108864)
        rw [List.set_set] at h1
        rw [hn1.out]; exact h1⟩
      have R2 : Aside0 (Blk ((wr.setCell ⟨w.heap.size, t, none⟩ (.int .u64 (x + c))).setCell ⟨w.heap.size, t, none⟩ (.int .u64 ((x + c) % 67108864))) (w.heap.size + 1) 79 (nums .u64 (List.replicate 5 0))) := ⟨Blk.far (Blk.far hY.out (p := ⟨w.heap.size, t, none⟩) (by simp) _) (p := ⟨w.heap.size, t, none⟩) (by simp) _⟩
      go_roundw
      case rel => exact ⟨t + 1, by omega, by go_num, by rw [hn2.out], R1, R2, (hB.setCell (p := ⟨w.heap.size, t, none⟩) (Nat.le_refl _) _).setCell (p := ⟨w.heap.size, t, none⟩) (Nat.le_refl _) _⟩
      case measure => simp [intOf]; omega
    · have hge : ¬ (t : Int) < 5 := by omega
      obtain rfl : t = 5 := by omega
      have k0 := blk_num hX.out 0 (by rw [hlc.out]; decide)
      have k1 := blk_num hX.out 1 (by rw [hlc.out]; decide)
      have f0 := Blk.frozen hX.out 0
      have f1 := Blk.frozen hX.out 1
      have g0 := getD_isL hok.1 0
      have g1 := getD_isL hok.1 1
      have hcar : Aside0 (carS d = top5 (cst d 5).1 (cst d 5).2) := ⟨rfl⟩
      have hcl : Aside0 ((carS d).length = 5) := ⟨by simp [carS, top5, cst_length]; exact HL.out⟩
      have hm0 : (cst d 5).1.getD 0 0 < 67108864 ∧ (cst d 5).1.getD 1 0 < 67108864 := cst_low d HL.out
      obtain ⟨L, HLL⟩ : ∃ L, Aside0 ((cst d 5).1 = L) := ⟨_, ⟨rfl⟩⟩
      obtain ⟨c, HC⟩ : ∃ c, Aside0 ((cst d 5).2 = c) := ⟨_, ⟨rfl⟩⟩
      rw [HLL.out] at hX k0 k1 g0 g1 hcar hm0 hlc
      rw [HC.out] at hok hcar ⊢
      obtain ⟨x0, HX0⟩ : ∃ x, Aside0 (L.getD 0 0 = x) := ⟨_, ⟨rfl⟩⟩
      obtain ⟨x1, HX1⟩ : ∃ x, Aside0 (L.getD 1 0 = x) := ⟨_, ⟨rfl⟩⟩
      rw [HX0.out] at k0 g0 hm0
      rw [HX1.out] at k1 g1 hm0
      have htop : Aside0 (top5 L c = ((L.set 0 (x0 + 5 * c)).set 1 (x1 + (x0 + 5 * c) / 67108864)).set 0 ((x0 + 5 * c) % 67108864)) := ⟨by unfold top5; rw [HX0.out, HX1.out]⟩
      have e1 : (5 * c) % 18446744073709551616 = 5 * c := by omega
      have e2 : (x0 + 5 * c) % 18446744073709551616 = x0 + 5 * c := by omega
      have e3 : shr .u64 (x0 + 5 * c) 26 = (x0 + 5 * c) / 67108864 := rfl
      have e4 : (x1 + (x0 + 5 * c) / 67108864) % 18446744073709551616 = x1 + (x0 + 5 * c) / 67108864 := by omega
      have e5 := and26 (x0 + 5 * c) (by omega) (by omega)
      have HXX : Aside0 (Blk (((wr.setCell ⟨w.heap.size, 0, none⟩ (.int .u64 (x0 + 5 * c))).setCell ⟨w.heap.size, 1, none⟩ (.int .u64 (x1 + (x0 + 5 * c) / 67108864))).setCell ⟨w.heap.size, 0, none⟩ (.int .u64 ((x0 + 5 * c) % 67108864))) w.heap.size 79 (nums .u64 (carS d))) := ⟨by
        rw [hcar.out, htop.out]; exact CiC.blk_put (CiC.blk_put (CiC.blk_put hX.out 0 _) 1 _) 0 _⟩
      have HYY : Aside0 (Blk (((wr.setCell ⟨w.heap.size, 0, none⟩ (.int .u64 (x0 + 5 * c))).setCell ⟨w.heap.size, 1, none⟩ (.int .u64 (x1 + (x0 + 5 * c) / 67108864))).setCell ⟨w.heap.size, 0, none⟩ (.int .u64 ((x0 + 5 * c) % 67108864))) (w.heap.size + 1) 79 (nums .u64 (List.replicate 5 0))) := ⟨Blk.far (Blk.far (Blk.far hY.out (p := ⟨w.heap.size, 0, none⟩) (by simp) _) (p := ⟨w.heap.size, 1, none⟩) (by simp) _) (p := ⟨w.heap.size, 0, none⟩) (by simp) _⟩
      have HBB : Aside0 (Below w.heap.size w (((wr.setCell ⟨w.heap.size, 0, none⟩ (.int .u64 (x0 + 5 * c))).setCell ⟨w.heap.size, 1, none⟩ (.int .u64 (x1 + (x0 + 5 * c) / 67108864))).setCell ⟨w.heap.size, 0, none⟩ (.int .u64 ((x0 + 5 * c) % 67108864)))) := ⟨((hB.setCell (p := ⟨w.heap.size, 0, none⟩) (Nat.le_refl _) _).setCell (p := ⟨w.heap.size, 1, none⟩) (Nat.le_refl _) _).setCell (p := ⟨w.heap.size, 0, none⟩) (Nat.le_refl _) _⟩
      obtain ⟨S, HS⟩ : ∃ S, Aside0 (carS d = S) := ⟨_, ⟨rfl⟩⟩
      rw [HS.out] at HXX hcl
      go_wp2_with (first
        | (refine load_arr rfl 79 (.tmp 1) rfl w.heap.size rfl 79 .u64 S 5 36 HXX.out Try.underlying79 size79 hcl.out ?_)
        | (refine store_arr rfl 79 (.tmp 2) (.tmp 41) rfl (w.heap.size + 1) .u64 S rfl rfl 79 5 _ HYY.out size79 hcl.out (by rw [nums_length]; rfl) ?_; intro w9 hZ hg9; have HZ := Aside0.mk hZ; have HG9 := Aside0.mk hg9; clear hZ hg9))
      refine bodyPost_ret (v := .agg (nums .u64 S).toArray) ?_ rfl ⟨by rw [HS.out], HBB.out.grown HG9.out HBB.out.size (fun k hk => by cases hk; omega)⟩
      exact results_arr (p := 2) (ty := 79) rfl _ w9 (w.heap.size + 1) 79 5 36 .u64 S rfl HZ.out Try.underlying79 size79 hcl.out
end Go.Proofs.Ytkjmjgiklelpiaa.OtC
