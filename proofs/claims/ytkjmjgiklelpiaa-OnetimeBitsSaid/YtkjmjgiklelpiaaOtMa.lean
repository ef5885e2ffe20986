/- Merged out of OtC, OtR, OtL, OtM, OtT, OtV, OtK, OtN, OtO, OtP, OtQ. -/
import Derived.Test.YtkjmjgiklelpiaaApp
import Derived.Test.YtkjmjgiklelpiaaQuart
import Derived.Test.YtkjmjgiklelpiaaPlainCipherBlocks
import Derived.Deep.RegionHeld3
import Derived.Deep.Cut
import Derived.Deep.CutRange
import Derived.Test.YtkjmjgiklelpiaaCiC
import Derived.Test.YtkjmjgiklelpiaaCiD
import Derived.Deep.MidRow
import Derived.Test.YtkjmjgiklelpiaaCiL
/- onetime.carried, walked. -/
namespace Go.Proofs.Ytkjmjgiklelpiaa.OtC
open Go.RowKit Go.Proofs.YtkjmjgiklelpiaaW.PrintWords Go.Proofs.Ytkjmjgiklelpiaa.Num Go.Proofs.Ytkjmjgiklelpiaa.WordC Go.Proofs.Ytkjmjgiklelpiaa.Arr Go.Proofs.Ytkjmjgiklelpiaa.App Go.Proofs.Ytkjmjgiklelpiaa.CiC
set_option linter.unusedVariables false
set_option linter.unusedSimpArgs false

/-- Numbers below 2^63. -/
def IsL (l : List Int) : Prop := ∀ x ∈ l, 0 ≤ x ∧ x < 9223372036854775808
theorem getD_isL {l : List Int} (h : IsL l) (i : Nat) : 0 ≤ l.getD i 0 ∧ l.getD i 0 < 9223372036854775808 := by
  rw [List.getD_eq_getElem?_getD]
  by_cases hi : i < l.length
  · rw [List.getElem?_eq_getElem hi]; exact h _ (List.getElem_mem hi)
  · rw [List.getElem?_eq_none (by omega)]; exact ⟨Int.le_refl _, by decide⟩
theorem set_isL {l : List Int} (h : IsL l) (i : Nat) {x : Int} (h0 : 0 ≤ x) (h1 : x < 9223372036854775808) : IsL (l.set i x) := by
  intro y hy
  rcases List.mem_or_eq_of_mem_set hy with hy | rfl
  · exact h y hy
  · exact ⟨h0, h1⟩
/-- Carries, from the first limb on. -/
def cst (d : List Int) : Nat → List Int × Int
  | 0 => (d, 0)
  | i + 1 => ((cst d i).1.set i (((cst d i).1.getD i 0 + (cst d i).2) % 67108864), ((cst d i).1.getD i 0 + (cst d i).2) / 67108864)
def top5 (l : List Int) (c : Int) : List Int := ((l.set 0 (l.getD 0 0 + 5 * c)).set 1 (l.getD 1 0 + (l.getD 0 0 + 5 * c) / 67108864)).set 0 ((l.getD 0 0 + 5 * c) % 67108864)
def carS (d : List Int) : List Int := top5 (cst d 5).1 (cst d 5).2
theorem cst_length (d : List Int) (i : Nat) : (cst d i).1.length = d.length := by
  induction i with
  | zero => rfl
  | succ i ih => simp [cst, ih]
theorem cst_ok {d : List Int} (h : IsL d) (i : Nat) : IsL (cst d i).1 ∧ 0 ≤ (cst d i).2 ∧ (cst d i).2 < 274877906944 := by
  induction i with
  | zero => exact ⟨h, Int.le_refl _, by show (0 : Int) < _; decide⟩
  | succ i ih =>
    obtain ⟨h1, h2, h3⟩ := ih
    have := getD_isL h1 i
    simp only [cst]
    generalize (cst d i).1.getD i 0 = x at *
    generalize (cst d i).2 = c at *
    exact ⟨set_isL h1 i (by omega) (by omega), by omega, by omega⟩
theorem cst_low (d : List Int) (hl : d.length = 5) : (cst d 5).1.getD 0 0 < 67108864 ∧ (cst d 5).1.getD 1 0 < 67108864 := by
  match d, hl with
  | [a, b, c, e, f], _ =>
    simp [cst]
    omega
theorem and26 (x : Int) (h0 : 0 ≤ x) (h1 : x < 18446744073709551616) : Go.bits .and .u64 x 67108863 = x % 67108864 := by
  rw [u64_and x 67108863 h0 h1 (by decide) (by decide)]
  obtain ⟨X, rfl⟩ := Int.eq_ofNat_of_zero_le h0
  rw [Int.toNat_natCast, show (67108863 : Int).toNat = 2 ^ 26 - 1 from rfl, Nat.and_two_pow_sub_one_eq_mod]; rfl
theorem size79 : (Try.prog.info? 79).map (·.size) = some 5 := by kernel_rfl
set_option maxHeartbeats 8000000 in
set_option maxRecDepth 100000 in
theorem carried_c {d : List Int} {w : World} (hl : d.length = 5) (h : IsL d) :
    Calls Try.prog 71 #[.agg (nums .u64 d).toArray] w fun e w' => e = .returned (.agg (nums .u64 (carS d)).toArray) ∧ Below w.heap.size w w' := by
  have HL := Aside0.mk hl
  have HD := Aside0.mk h
  clear hl h
  go_enter Try.func71, Try.ntmps71
  go_wp2_with fail
  generalize hW : (w.alloc _).alloc _ = W0
  have hX : Aside0 (Blk W0 w.heap.size 79 (nums .u64 (cst d 0).1)) := ⟨by rw [← hW]; exact heap_alloc2_old _ _ _⟩
  have hY : Aside0 (Blk W0 (w.heap.size + 1) 79 (nums .u64 (List.replicate 5 0))) := ⟨by rw [← hW]; exact heap_alloc2_new _ _ _⟩
  have hB : Below w.heap.size w W0 := by rw [← hW]; exact ((Below.refl _ w).alloc (Nat.le_refl _) _).alloc (by simp) _
  clear hW
  go_loopw [5, 3] (fun i v wr => ∃ t : Nat, t ≤ 5 ∧ i = .int .i64 t ∧ v = .int .u64 (cst d t).2 ∧ Aside0 (Blk wr w.heap.size 79 (nums .u64 (cst d t).1)) ∧ Aside0 (Blk wr (w.heap.size + 1) 79 (nums .u64 (List.replicate 5 0))) ∧ Below w.heap.size w wr) (fun i _ _ => 5 - (intOf i).toNat)
  case atStart => exact ⟨0, by omega, rfl, rfl, hX, hY, hB⟩
  case round =>
    clear hX hY hB
    obtain ⟨t, ht, rfl, rfl, hX, hY, hB⟩ := hrel
    have hlc : Aside0 ((cst d t).1.length = 5) := ⟨by rw [cst_length]; exact HL.out⟩
    have hok := cst_ok HD.out t
    have hg := getD_isL hok.1 t
    by_cases hlt : t < 5
    · have hlt' : (t : Int) < 5 := by omega
      have f0 := blk_num hX.out t (by rw [hlc.out]; exact hlt)
      have f1 := Blk.frozen hX.out t
      have hn1 : Aside0 ((cst d (t + 1)).1 = (cst d t).1.set t (((cst d t).1.getD t 0 + (cst d t).2) % 67108864)) := ⟨rfl⟩
      have hn2 : Aside0 ((cst d (t + 1)).2 = ((cst d t).1.getD t 0 + (cst d t).2) / 67108864) := ⟨rfl⟩
      generalize (cst d t).1.getD t 0 = x at *
      generalize (cst d t).2 = c at *
      have hs : (x + c) % 18446744073709551616 = x + c := by omega
      have hm := and26 (x + c) (by omega) (by omega)
      have hsh : shr .u64 (x + c) 26 = (x + c) / 67108864 := by rfl
      go_wp2_with fail
      have R1 : Aside0 (Blk ((wr.setCell ⟨w.heap.size, t, none⟩ (.int .u64 (x + c))).setCell ⟨w.heap.size, t, none⟩ (.int .u64 ((x + c) % 67108864))) w.heap.size 79 (nums .u64 (cst d (t + 1)).1)) := ⟨by
        have h1 := CiC.blk_put (CiC.blk_put hX.out t (x + c)) t ((x + c) % 67108864)
        rw [List.set_set] at h1
        rw [hn1.out]; exact h1⟩
      have R2 : Aside0 (Blk ((wr.setCell ⟨w.heap.size, t, none⟩ (.int .u64 (x + c))).setCell ⟨w.heap.size, t, none⟩ (.int .u64 ((x + c) % 67108864))) (w.heap.size + 1) 79 (nums .u64 (List.replicate 5 0))) := ⟨Blk.far (Blk.far hY.out (p := ⟨w.heap.size, t, none⟩) (by simp) _) (p := ⟨w.heap.size, t, none⟩) (by simp) _⟩
      go_roundw
      case rel => exact ⟨t + 1, by omega, by go_num, by rw [hn2.out], R1, R2, (hB.setCell (p := ⟨w.heap.size, t, none⟩) (Nat.le_refl _) _).setCell (p := ⟨w.heap.size, t, none⟩) (Nat.le_refl _) _⟩
      case measure => simp [intOf]; omega
    · have hge : ¬ (t : Int) < 5 := by omega
      obtain rfl : t = 5 := by omega
      have k0 := blk_num hX.out 0 (by rw [hlc.out]; decide)
      have k1 := blk_num hX.out 1 (by rw [hlc.out]; decide)
      have f0 := Blk.frozen hX.out 0
      have f1 := Blk.frozen hX.out 1
      have g0 := getD_isL hok.1 0
      have g1 := getD_isL hok.1 1
      have hcar : Aside0 (carS d = top5 (cst d 5).1 (cst d 5).2) := ⟨rfl⟩
      have hcl : Aside0 ((carS d).length = 5) := ⟨by simp [carS, top5, cst_length]; exact HL.out⟩
      have hm0 : (cst d 5).1.getD 0 0 < 67108864 ∧ (cst d 5).1.getD 1 0 < 67108864 := cst_low d HL.out
      obtain ⟨L, HLL⟩ : ∃ L, Aside0 ((cst d 5).1 = L) := ⟨_, ⟨rfl⟩⟩
      obtain ⟨c, HC⟩ : ∃ c, Aside0 ((cst d 5).2 = c) := ⟨_, ⟨rfl⟩⟩
      rw [HLL.out] at hX k0 k1 g0 g1 hcar hm0 hlc
      rw [HC.out] at hok hcar ⊢
      obtain ⟨x0, HX0⟩ : ∃ x, Aside0 (L.getD 0 0 = x) := ⟨_, ⟨rfl⟩⟩
      obtain ⟨x1, HX1⟩ : ∃ x, Aside0 (L.getD 1 0 = x) := ⟨_, ⟨rfl⟩⟩
      rw [HX0.out] at k0 g0 hm0
      rw [HX1.out] at k1 g1 hm0
      have htop : Aside0 (top5 L c = ((L.set 0 (x0 + 5 * c)).set 1 (x1 + (x0 + 5 * c) / 67108864)).set 0 ((x0 + 5 * c) % 67108864)) := ⟨by unfold top5; rw [HX0.out, HX1.out]⟩
      have e1 : (5 * c) % 18446744073709551616 = 5 * c := by omega
      have e2 : (x0 + 5 * c) % 18446744073709551616 = x0 + 5 * c := by omega
      have e3 : shr .u64 (x0 + 5 * c) 26 = (x0 + 5 * c) / 67108864 := rfl
      have e4 : (x1 + (x0 + 5 * c) / 67108864) % 18446744073709551616 = x1 + (x0 + 5 * c) / 67108864 := by omega
      have e5 := and26 (x0 + 5 * c) (by omega) (by omega)
      have HXX : Aside0 (Blk (((wr.setCell ⟨w.heap.size, 0, none⟩ (.int .u64 (x0 + 5 * c))).setCell ⟨w.heap.size, 1, none⟩ (.int .u64 (x1 + (x0 + 5 * c) / 67108864))).setCell ⟨w.heap.size, 0, none⟩ (.int .u64 ((x0 + 5 * c) % 67108864))) w.heap.size 79 (nums .u64 (carS d))) := ⟨by
        rw [hcar.out, htop.out]; exact CiC.blk_put (CiC.blk_put (CiC.blk_put hX.out 0 _) 1 _) 0 _⟩
      have HYY : Aside0 (Blk (((wr.setCell ⟨w.heap.size, 0, none⟩ (.int .u64 (x0 + 5 * c))).setCell ⟨w.heap.size, 1, none⟩ (.int .u64 (x1 + (x0 + 5 * c) / 67108864))).setCell ⟨w.heap.size, 0, none⟩ (.int .u64 ((x0 + 5 * c) % 67108864))) (w.heap.size + 1) 79 (nums .u64 (List.replicate 5 0))) := ⟨Blk.far (Blk.far (Blk.far hY.out (p := ⟨w.heap.size, 0, none⟩) (by simp) _) (p := ⟨w.heap.size, 1, none⟩) (by simp) _) (p := ⟨w.heap.size, 0, none⟩) (by simp) _⟩
      have HBB : Aside0 (Below w.heap.size w (((wr.setCell ⟨w.heap.size, 0, none⟩ (.int .u64 (x0 + 5 * c))).setCell ⟨w.heap.size, 1, none⟩ (.int .u64 (x1 + (x0 + 5 * c) / 67108864))).setCell ⟨w.heap.size, 0, none⟩ (.int .u64 ((x0 + 5 * c) % 67108864)))) := ⟨((hB.setCell (p := ⟨w.heap.size, 0, none⟩) (Nat.le_refl _) _).setCell (p := ⟨w.heap.size, 1, none⟩) (Nat.le_refl _) _).setCell (p := ⟨w.heap.size, 0, none⟩) (Nat.le_refl _) _⟩
      obtain ⟨S, HS⟩ : ∃ S, Aside0 (carS d = S) := ⟨_, ⟨rfl⟩⟩
      rw [HS.out] at HXX hcl
      go_wp2_with (first
        | (refine load_arr rfl 79 (.tmp 1) rfl w.heap.size rfl 79 .u64 S 5 36 HXX.out Try.underlying79 size79 hcl.out ?_)
        | (refine store_arr rfl 79 (.tmp 2) (.tmp 41) rfl (w.heap.size + 1) .u64 S rfl rfl 79 5 _ HYY.out size79 hcl.out (by rw [nums_length]; rfl) ?_; intro w9 hZ hg9; have HZ := Aside0.mk hZ; have HG9 := Aside0.mk hg9; clear hZ hg9))
      refine bodyPost_ret (v := .agg (nums .u64 S).toArray) ?_ rfl ⟨by rw [HS.out], HBB.out.grown HG9.out HBB.out.size (fun k hk => by cases hk; omega)⟩
      exact results_arr (p := 2) (ty := 79) rfl _ w9 (w.heap.size + 1) 79 5 36 .u64 S rfl HZ.out Try.underlying79 size79 hcl.out
end Go.Proofs.Ytkjmjgiklelpiaa.OtC
/- onetime.read, walked. -/
namespace Go.Proofs.Ytkjmjgiklelpiaa.OtR
open Go.RowKit Go.Proofs.YtkjmjgiklelpiaaW.PrintWords Go.Proofs.Ytkjmjgiklelpiaa.Num Go.Proofs.Ytkjmjgiklelpiaa.WordC Go.Proofs.Ytkjmjgiklelpiaa.Arr Go.Proofs.Ytkjmjgiklelpiaa.App Go.Proofs.Ytkjmjgiklelpiaa.CiC Go.Proofs.Ytkjmjgiklelpiaa.OtC
set_option linter.unusedVariables false
set_option linter.unusedSimpArgs false

/-- The word at place 3*i, cut to its 26 bits. -/
def limb (b : List Int) (i : Nat) : Int := (loadW ((b.take (3 * i + 4)).drop (3 * i)) true).1 / 2 ^ (2 * i) % 67108864
def rdT (b : List Int) : Nat → List Int
  | 0 => [0, 0, 0, 0, 0]
  | i + 1 => (rdT b i).set i (limb b i)
def readS (b : List Int) (top : Int) : List Int := (rdT b 4).set 4 ((loadW ((b.take 16).drop 12) true).1 / 256 + top * 16777216)
theorem rdT_length (b : List Int) (i : Nat) : (rdT b i).length = 5 := by
  induction i with
  | zero => rfl
  | succ i ih => simp [rdT, ih]
theorem shr_var64 (x : Int) (n : Nat) (hn : n ≤ 64) : shr .u64 x (n : Int) = x / 2 ^ n := by
  unfold shr
  rw [show min ((n : Int)).toNat IntKind.u64.bits = n from by simp [IntKind.bits]; omega]
theorem or24 (x top : Int) (h0 : 0 ≤ x) (h1 : x < 16777216) (ht : top = 0 ∨ top = 1) : Go.bits .or .u64 x (top * 16777216) = x + top * 16777216 := by
  obtain ⟨X, rfl⟩ := Int.eq_ofNat_of_zero_le h0
  rcases ht with rfl | rfl
  · rw [show (0 : Int) * 16777216 = ((0 : Nat) : Int) from rfl, u64_or_nat X 0 (by omega) (by omega)]; simp
  · rw [show (1 : Int) * 16777216 = ((16777216 : Nat) : Int) from rfl, u64_or_nat X 16777216 (by omega) (by omega)]
    have h := Nat.two_pow_add_eq_or_of_lt (i := 24) (b := X) (by omega) 1
    rw [Nat.or_comm, show (16777216 : Nat) = 2 ^ 24 * 1 from rfl, ← h]; omega
set_option maxHeartbeats 8000000 in
set_option maxRecDepth 100000 in
theorem read_c {A : Option Addr} {c : Nat} {b : List Int} {n : Nat} {top : Int} {w : World} (hr : Rd w A n c b) (hn : 16 ≤ n) (hb : IsB b) (ht : top = 0 ∨ top = 1) :
    Calls Try.prog 53 #[.slice A n c, .int .u64 top] w fun e w' => e = .returned (.agg (nums .u64 (readS b top)).toArray) ∧ Below w.heap.size w w' := by
  have HR := Aside0.mk hr
  clear hr
  go_enter Try.func53, Try.ntmps53
  go_wp2_with fail
  generalize hW : (w.alloc _).alloc _ = W0
  have hX : Aside0 (Blk W0 (w.heap.size + 1) 79 (nums .u64 (rdT b 0))) := ⟨by rw [← hW]; exact heap_alloc2_new _ _ _⟩
  have hY : Aside0 (Blk W0 w.heap.size 79 (nums .u64 (List.replicate 5 0))) := ⟨by rw [← hW]; exact heap_alloc2_old _ _ _⟩
  have hB : Below w.heap.size w W0 := by rw [← hW]; exact ((Below.refl _ w).alloc (Nat.le_refl _) _).alloc (by simp) _
  clear hW
  go_loopw [11] (fun i wr => ∃ t : Nat, t ≤ 4 ∧ i = .int .i64 t ∧ Aside0 (Blk wr (w.heap.size + 1) 79 (nums .u64 (rdT b t))) ∧ Aside0 (Blk wr w.heap.size 79 (nums .u64 (List.replicate 5 0))) ∧ Below w.heap.size w wr) (fun i _ => 4 - (intOf i).toNat)
  case atStart => exact ⟨0, by omega, rfl, hX, hY, hB⟩
  case round =>
    clear hX hY hB
    obtain ⟨t, htt, rfl, hX, hY, hB⟩ := hrel
    by_cases hlt : t < 4
    · have hlt' : (t : Int) < 4 := by omega
      obtain ⟨A', c', hcut, hrd⟩ := rd_slice (HR.out.below hB) (3 * t) (3 * t + 4) (x := 3 * (t : Int)) (y := 3 * (t : Int) + 4) (by omega) (by omega) (by omega) (by omega)
      rw [show 3 * t + 4 - 3 * t = 4 by omega] at hcut hrd
      have hI : IsB ((b.take (3 * t + 4)).drop (3 * t)) := fun x hx => hb x (List.mem_of_mem_take (List.mem_of_mem_drop hx))
      go_wp2_with fail
      refine (Load_c hrd hI true).mono ?_
      rintro x w2 ⟨rfl, ⟨n2, rfl⟩⟩
      have hlr := load_range hI true
      have hlim : Aside0 (limb b t = (loadW ((b.take (3 * t + 4)).drop (3 * t)) true).1 / 2 ^ (2 * t) % 67108864) := ⟨rfl⟩
      generalize (loadW ((b.take (3 * t + 4)).drop (3 * t)) true).1 = x at *
      have f0 := blk_num hX.out t (by rw [rdT_length]; omega)
      have f1 := Blk.frozen hX.out t
      have i5 : (t : Int) < 5 := by omega
      have p0 : (0 : Int) ≤ 2 * (t : Int) := by omega
      have e1 : x % 18446744073709551616 = x := by omega
      have e2 : shr .u64 x (2 * (t : Int)) = x / 2 ^ (2 * t) := by
        have := shr_var64 x (2 * t) (by omega)
        rw [show (2 * (t : Int)) = ((2 * t : Nat) : Int) by omega]; exact this
      have e3 : Go.bits .and .u64 (x / 2 ^ (2 * t)) 67108863 = x / 2 ^ (2 * t) % 67108864 := and26 _ (Int.ediv_nonneg hlr.1 (Int.le_of_lt (Int.pow_pos (by omega)))) (by
        have h1 : x / 2 ^ (2 * t) ≤ x := Int.ediv_le_self _ hlr.1
        omega)
      go_wp2_with fail
      have R1 : Aside0 (Blk ((wr.drewN n2).setCell ⟨w.heap.size + 1, t, none⟩ (.int .u64 (x / 2 ^ (2 * t) % 67108864))) (w.heap.size + 1) 79 (nums .u64 (rdT b (t + 1)))) := ⟨by
        have h1 := CiC.blk_put hX.out t (x / 2 ^ (2 * t) % 67108864)
        rw [show rdT b (t + 1) = (rdT b t).set t (limb b t) from rfl, hlim.out]; exact h1⟩
      have R2 : Aside0 (Blk ((wr.drewN n2).setCell ⟨w.heap.size + 1, t, none⟩ (.int .u64 (x / 2 ^ (2 * t) % 67108864))) w.heap.size 79 (nums .u64 (List.replicate 5 0))) := ⟨Blk.far hY.out (p := ⟨w.heap.size + 1, t, none⟩) (by simp) _⟩
      go_roundw
      case rel => exact ⟨t + 1, by omega, by go_num, R1, R2, (pw_below_drewN hB _).setCell (p := ⟨w.heap.size + 1, t, none⟩) (by simp) _⟩
      case measure => simp [intOf]; omega
    · have hge : ¬ (t : Int) < 4 := by omega
      obtain rfl : t = 4 := by omega
      obtain ⟨A', c', hcut, hrd⟩ := rd_slice (HR.out.below hB) 12 16 (x := 12) (y := 16) (by omega) (by omega) (by omega) (by omega)
      rw [show 16 - 12 = 4 from rfl] at hcut hrd
      have hI : IsB ((b.take 16).drop 12) := fun x hx => hb x (List.mem_of_mem_take (List.mem_of_mem_drop hx))
      go_wp2_with fail
      refine (Load_c hrd hI true).mono ?_
      rintro x w2 ⟨rfl, ⟨n2, rfl⟩⟩
      have hlr := load_range hI true
      have hrs : Aside0 (readS b top = (rdT b 4).set 4 ((loadW ((b.take 16).drop 12) true).1 / 256 + top * 16777216)) := ⟨rfl⟩
      have hcl : Aside0 ((readS b top).length = 5) := ⟨by simp [readS, rdT_length]⟩
      generalize (loadW ((b.take 16).drop 12) true).1 = x at *
      have f0 := blk_num hX.out 4 (by rw [rdT_length]; omega)
      have f1 := Blk.frozen hX.out 4
      have e1 : x % 18446744073709551616 = x := by omega
      have e2 : shr .u64 x 8 = x / 256 := shr_var64 x 8 (by omega)
      have e3 : shl .u64 top 24 = top * 16777216 := by rcases ht with rfl | rfl <;> rfl
      have e4 := or24 (x / 256) top (by omega) (by omega) ht
      obtain ⟨V, HV⟩ : ∃ V, Aside0 (x / 256 + top * 16777216 = V) := ⟨_, ⟨rfl⟩⟩
      rw [HV.out] at e4 hrs
      have HXX : Aside0 (Blk ((wr.drewN n2).setCell ⟨w.heap.size + 1, 4, none⟩ (.int .u64 V)) (w.heap.size + 1) 79 (nums .u64 (readS b top))) := ⟨by rw [hrs.out]; exact CiC.blk_put hX.out 4 V⟩
      have HYY : Aside0 (Blk ((wr.drewN n2).setCell ⟨w.heap.size + 1, 4, none⟩ (.int .u64 V)) w.heap.size 79 (nums .u64 (List.replicate 5 0))) := ⟨Blk.far hY.out (p := ⟨w.heap.size + 1, 4, none⟩) (by simp) _⟩
      have HBB : Aside0 (Below w.heap.size w ((wr.drewN n2).setCell ⟨w.heap.size + 1, 4, none⟩ (.int .u64 V))) := ⟨(pw_below_drewN hB _).setCell (p := ⟨w.heap.size + 1, 4, none⟩) (by simp) _⟩
      obtain ⟨S, HS⟩ : ∃ S, Aside0 (readS b top = S) := ⟨_, ⟨rfl⟩⟩
      rw [HS.out] at HXX hcl
      go_wp2_with (first
        | (refine load_arr rfl 79 (.tmp 5) rfl (w.heap.size + 1) rfl 79 .u64 S 5 36 HXX.out Try.underlying79 size79 hcl.out ?_)
        | (refine store_arr rfl 79 (.tmp 4) (.tmp 47) rfl w.heap.size .u64 S rfl rfl 79 5 _ HYY.out size79 hcl.out (by rw [nums_length]; rfl) ?_; intro w9 hZ hg9; have HZ := Aside0.mk hZ; have HG9 := Aside0.mk hg9; clear hZ hg9))
      refine bodyPost_ret (v := .agg (nums .u64 S).toArray) ?_ rfl ⟨by rw [HS.out], HBB.out.grown HG9.out HBB.out.size (fun k hk => by cases hk; exact Nat.le_refl _)⟩
      exact results_arr (p := 4) (ty := 79) rfl _ w9 w.heap.size 79 5 36 .u64 S rfl HZ.out Try.underlying79 size79 hcl.out
end Go.Proofs.Ytkjmjgiklelpiaa.OtR
/- onetime.least: plain. -/
namespace Go.Proofs.Ytkjmjgiklelpiaa.OtL
open Go.RowKit Go.Proofs.YtkjmjgiklelpiaaW.PrintWords Go.Proofs.Ytkjmjgiklelpiaa.Num Go.Proofs.Ytkjmjgiklelpiaa.WordC Go.Proofs.Ytkjmjgiklelpiaa.Arr Go.Proofs.Ytkjmjgiklelpiaa.App Go.Proofs.Ytkjmjgiklelpiaa.CiC Go.Proofs.Ytkjmjgiklelpiaa.OtC Go.Proofs.Ytkjmjgiklelpiaa.OtR
set_option linter.unusedVariables false
set_option linter.unusedSimpArgs false

/-- Five more, and the carries. -/
def mst (l : List Int) : Nat → List Int
  | 0 => l.set 0 (l.getD 0 0 + 5)
  | i + 1 => ((mst l i).set (i + 1) ((mst l i).getD (i + 1) 0 + (mst l i).getD i 0 / 67108864)).set i ((mst l i).getD i 0 % 67108864)
def overS (l : List Int) : Int := (mst l 4).getD 4 0 / 67108864
def moreS (l : List Int) : List Int := (mst l 4).set 4 ((mst l 4).getD 4 0 % 67108864)
def pickS (l : List Int) : List Int := if overS l = 0 then l else moreS l
def leastS (a : List Int) : List Int := pickS (carS (carS a))
/-- Limbs as carried leaves them. -/
def Low (l : List Int) : Prop := ∃ a b c d e : Int, l = [a, b, c, d, e] ∧ (0 ≤ a ∧ a < 67108864) ∧ (0 ≤ b ∧ b < 67174400) ∧ (0 ≤ c ∧ c < 67108864) ∧ (0 ≤ d ∧ d < 67108864) ∧ (0 ≤ e ∧ e < 67108864)
theorem carS_low {d : List Int} (hl : d.length = 5) (h : IsL d) : Low (carS d) := by
  have hok := (cst_ok h 5).2
  match d, hl with
  | [a, b, c, d, e], _ =>
    have ha := h a (by simp)
    have hb := h b (by simp)
    have hc := h c (by simp)
    have hd := h d (by simp)
    have he := h e (by simp)
    refine ⟨_, _, _, _, _, rfl, ?_⟩
    simp [cst]
    omega
theorem Low.isL {l : List Int} (h : Low l) : IsL l := by
  obtain ⟨a, b, c, d, e, rfl, h1, h2, h3, h4, h5⟩ := h
  intro x hx
  simp at hx
  omega
theorem Low.length {l : List Int} (h : Low l) : l.length = 5 := by
  obtain ⟨a, b, c, d, e, rfl, _⟩ := h; rfl
theorem overS_01 {l : List Int} (h : Low l) : overS l = 0 ∨ overS l = 1 := by
  obtain ⟨a, b, c, d, e, rfl, h1, h2, h3, h4, h5⟩ := h
  simp [overS, mst]
  omega
theorem mst_ok {l : List Int} (h : Low l) (i : Nat) (hi : i ≤ 4) : (mst l i).length = 5 ∧ ∀ j, 0 ≤ (mst l i).getD j 0 ∧ (mst l i).getD j 0 < 4294967296 := by
  obtain ⟨a, b, c, d, e, rfl, h1, h2, h3, h4, h5⟩ := h
  have hc : i = 0 ∨ i = 1 ∨ i = 2 ∨ i = 3 ∨ i = 4 := by omega
  rcases hc with rfl | rfl | rfl | rfl | rfl <;> refine ⟨by simp [mst], fun j => ?_⟩ <;>
  · have hj : j = 0 ∨ j = 1 ∨ j = 2 ∨ j = 3 ∨ j = 4 ∨ 5 ≤ j := by omega
    rcases hj with rfl | rfl | rfl | rfl | rfl | hj
    all_goals first
      | (simp [mst]; omega)
      | (rw [List.getD_eq_getElem?_getD, List.getElem?_eq_none (by simp [mst]; omega)]; simp)
theorem andNot0 (x : Int) (h0 : 0 ≤ x) (h1 : x < 18446744073709551616) : Go.bits .andNot .u64 x 0 = x := by
  obtain ⟨X, rfl⟩ := Int.eq_ofNat_of_zero_le h0
  rw [show (0 : Int) = ((0 : Nat) : Int) from rfl, u64_andNot_nat X 0 (by omega) (by omega)]
  rw [show (18446744073709551615 - 0 : Nat) = 2 ^ 64 - 1 from rfl, Nat.and_two_pow_sub_one_eq_mod, Nat.mod_eq_of_lt (by omega)]
theorem andNot1 (x : Int) (h0 : 0 ≤ x) (h1 : x < 18446744073709551616) : Go.bits .andNot .u64 x 18446744073709551615 = 0 := by
  obtain ⟨X, rfl⟩ := Int.eq_ofNat_of_zero_le h0
  rw [show (18446744073709551615 : Int) = ((18446744073709551615 : Nat) : Int) from rfl, u64_andNot_nat X _ (by omega) (by omega)]; simp
theorem and0 (x : Int) (h0 : 0 ≤ x) (h1 : x < 18446744073709551616) : Go.bits .and .u64 x 0 = 0 := by
  obtain ⟨X, rfl⟩ := Int.eq_ofNat_of_zero_le h0
  rw [show (0 : Int) = ((0 : Nat) : Int) from rfl, u64_and_nat X 0 (by omega) (by omega)]; simp
theorem and1 (x : Int) (h0 : 0 ≤ x) (h1 : x < 18446744073709551616) : Go.bits .and .u64 x 18446744073709551615 = x := by
  obtain ⟨X, rfl⟩ := Int.eq_ofNat_of_zero_le h0
  rw [show (18446744073709551615 : Int) = ((18446744073709551615 : Nat) : Int) from rfl, u64_and_nat X _ (by omega) (by omega)]
  rw [show (18446744073709551615 : Nat) = 2 ^ 64 - 1 from rfl, Nat.and_two_pow_sub_one_eq_mod, Nat.mod_eq_of_lt (by omega)]
theorem or0 (x : Int) (h0 : 0 ≤ x) (h1 : x < 18446744073709551616) : Go.bits .or .u64 x 0 = x := by
  obtain ⟨X, rfl⟩ := Int.eq_ofNat_of_zero_le h0
  rw [show (0 : Int) = ((0 : Nat) : Int) from rfl, u64_or_nat X 0 (by omega) (by omega)]; simp
theorem or1 (x : Int) (h0 : 0 ≤ x) (h1 : x < 18446744073709551616) : Go.bits .or .u64 0 x = x := by
  obtain ⟨X, rfl⟩ := Int.eq_ofNat_of_zero_le h0
  rw [show (0 : Int) = ((0 : Nat) : Int) from rfl, u64_or_nat 0 X (by omega) (by omega)]; simp
theorem moreS_ok {l : List Int} (h : Low l) (j : Nat) : 0 ≤ (moreS l).getD j 0 ∧ (moreS l).getD j 0 < 4294967296 := by
  have hm := mst_ok h 4 (Nat.le_refl _)
  unfold moreS
  by_cases hj : j = 4
  · subst hj
    have h4 := hm.2 4
    rw [List.getD_eq_getElem?_getD, List.getElem?_set_self (by rw [hm.1]; decide), Option.getD_some]
    omega
  · rw [List.getD_eq_getElem?_getD, List.getElem?_set_ne (by omega), ← List.getD_eq_getElem?_getD]
    exact hm.2 j
theorem low_lt {l : List Int} (h : Low l) (j : Nat) : 0 ≤ l.getD j 0 ∧ l.getD j 0 < 4294967296 := by
  have h5 := h.length
  obtain ⟨a, b, c, d, e, rfl, h1, h2, h3, h4, h5⟩ := h
  have hj : j = 0 ∨ j = 1 ∨ j = 2 ∨ j = 3 ∨ j = 4 ∨ 5 ≤ j := by omega
  rcases hj with rfl | rfl | rfl | rfl | rfl | hj
  all_goals first
    | (simp; omega)
    | (rw [List.getD_eq_getElem?_getD, List.getElem?_eq_none (by simpa using hj)]; simp)
theorem set_take_drop (p a : List Int) (t : Nat) (hp : t < p.length) (ha : t < a.length) : (p.take t ++ a.drop t).set t (p.getD t 0) = p.take (t + 1) ++ a.drop (t + 1) := by
  have hl : (p.take t).length = t := by rw [List.length_take]; omega
  have e : p.take (t + 1) = p.take t ++ [p[t]] := by
    rw [List.take_add_one, List.getElem?_eq_getElem hp]; rfl
  rw [e, List.set_append_right _ _ (by omega), hl, Nat.sub_self, List.drop_eq_getElem_cons ha, List.set_cons_zero, List.getD_eq_getElem?_getD, List.getElem?_eq_getElem hp]
  rw [List.append_assoc]; rfl
end Go.Proofs.Ytkjmjgiklelpiaa.OtL
/- onetime.least, walked. -/
namespace Go.Proofs.Ytkjmjgiklelpiaa.OtM
open Go.RowKit Go.Proofs.YtkjmjgiklelpiaaW.PrintWords Go.Proofs.Ytkjmjgiklelpiaa.Num Go.Proofs.Ytkjmjgiklelpiaa.WordC Go.Proofs.Ytkjmjgiklelpiaa.Arr Go.Proofs.Ytkjmjgiklelpiaa.App Go.Proofs.Ytkjmjgiklelpiaa.CiC Go.Proofs.Ytkjmjgiklelpiaa.CiD Go.Proofs.Ytkjmjgiklelpiaa.OtC Go.Proofs.Ytkjmjgiklelpiaa.OtR Go.Proofs.Ytkjmjgiklelpiaa.OtL
set_option linter.unusedVariables false
set_option linter.unusedSimpArgs false

theorem blk_u64 {w : World} {g : Nat} {l : List Int} (h : Blk w g 79 (nums .u64 l)) (i : Nat) (hi : i < l.length) : w.cell? ⟨g, i, none⟩ = some (.int .u64 (l.getD i 0)) := blk_num h i hi
set_option maxHeartbeats 8000000 in
set_option maxRecDepth 100000 in
theorem least_c {a : List Int} {w : World} (hl : a.length = 5) (h : IsL a) :
    Calls Try.prog 56 #[.agg (nums .u64 a).toArray] w fun e w' => e = .returned (.agg (nums .u64 (leastS a)).toArray) ∧ Below w.heap.size w w' := by
  have HL := Aside0.mk hl
  have HA := Aside0.mk h
  clear hl h
  have hlow1 := carS_low HL.out HA.out
  have hlow2 := carS_low hlow1.length hlow1.isL
  have H1 := Aside0.mk hlow1
  have H2 := Aside0.mk hlow2
  have hls : Aside0 (leastS a = pickS (carS (carS a))) := ⟨rfl⟩
  clear hlow1 hlow2
  go_enter Try.func56, Try.ntmps56
  go_upto_region 1 with (fail)
  generalize hW : (w.alloc _).alloc _ = W0
  have hX : Blk W0 w.heap.size 79 (nums .u64 a) := by rw [← hW]; exact heap_alloc2_old _ _ _
  have hY : Blk W0 (w.heap.size + 1) 79 (nums .u64 (List.replicate 5 0)) := by rw [← hW]; exact heap_alloc2_new _ _ _
  have hB : Below w.heap.size w W0 := by rw [← hW]; exact ((Below.refl _ w).alloc (Nat.le_refl _) _).alloc (by simp) _
  clear hW
  have HX := Aside0.mk hX
  have HY := Aside0.mk hY
  have HB := Aside0.mk hB
  clear hX hY hB
  go_wp2_with (first
    | (refine load_arr rfl 79 (.tmp 1) rfl w.heap.size rfl 79 .u64 a 5 36 HX.out Try.underlying79 size79 HL.out ?_))
  refine (carried_c HL.out HA.out).mono ?_
  rintro x w1 ⟨rfl, hb1⟩
  obtain ⟨a1, HA1⟩ : ∃ z, Aside0 (carS a = z) := ⟨_, ⟨rfl⟩⟩
  rw [HA1.out] at H1 H2 hls ⊢
  go_wp2_with fail
  refine (carried_c H1.out.length H1.out.isL).mono ?_
  rintro x w2 ⟨rfl, hb2⟩
  obtain ⟨a2, HA2⟩ : ∃ z, Aside0 (carS a1 = z) := ⟨_, ⟨rfl⟩⟩
  rw [HA2.out] at H2 hls ⊢
  have HX2 := Aside0.mk ((HX.out.below hb1).below hb2)
  have HY2 := Aside0.mk ((HY.out.below hb1).below hb2)
  have HB2 := Aside0.mk (below_next (below_next HB.out hb1) hb2)
  have HLL := Aside0.mk H2.out.length
  clear hb1 hb2
  go_wp2_with (first
    | (refine store_arr rfl 79 (.tmp 1) (.tmp 10) rfl w.heap.size .u64 a2 rfl rfl 79 5 _ HX2.out size79 HLL.out (by rw [nums_length]; exact HL.out) ?_; intro w3 hZ hg3
       have HX3 := Aside0.mk hZ
       have HB3 := Aside0.mk (HB2.out.grown hg3 HB2.out.size (fun k hk => by cases hk; exact Nat.le_refl _))
       have HY3 : Aside0 (Blk w3 (w.heap.size + 1) 79 (nums .u64 (List.replicate 5 0))) := ⟨(hg3.block (w.heap.size + 1) (Blk.lt HY2.out) (by simp)).trans HY2.out⟩
       clear hZ hg3)
    | (refine load_arr rfl 79 (.tmp 1) rfl w.heap.size rfl 79 .u64 a2 5 36 HX3.out Try.underlying79 size79 HLL.out ?_
       have HZ4 : Aside0 (Blk (w3.alloc (.cells (nums .u64 (List.replicate 5 0)).toArray 79)) w3.heap.size 79 (nums .u64 (List.replicate 5 0))) := ⟨heap_alloc_new _ _⟩
       have HX4 := Aside0.mk (Blk.alloc HX3.out (.cells (nums .u64 (List.replicate 5 0)).toArray 79))
       have HY4 := Aside0.mk (Blk.alloc HY3.out (.cells (nums .u64 (List.replicate 5 0)).toArray 79))
       have HB4 := Aside0.mk (HB3.out.alloc HB3.out.size (.cells (nums .u64 (List.replicate 5 0)).toArray 79))
       have HYL := Aside0.mk (Blk.lt HY3.out))
    | (refine store_arr rfl 79 (.tmp 3) (.tmp 11) rfl w3.heap.size .u64 a2 rfl rfl 79 5 _ HZ4.out size79 HLL.out (by rw [nums_length]; rfl) ?_; intro w5 hZ hg5
       have HZ5 := Aside0.mk hZ
       have HB5 := Aside0.mk (HB4.out.grown hg5 HB4.out.size (fun k hk => by cases hk; exact HB3.out.size))
       have HBU := Aside0.mk ((Below.refl w3.heap.size (w3.alloc (.cells (nums .u64 (List.replicate 5 0)).toArray 79))).grown hg5 (by simp) (fun k hk => by cases hk; exact Nat.le_refl _))
       have HX5 := Aside0.mk (blk_under HX4.out HBU.out (Nat.lt_trans (Nat.lt_succ_self _) HYL.out))
       have HY5 := Aside0.mk (blk_under HY4.out HBU.out HYL.out)
       have k0 := blk_u64 HZ5.out 0 (by rw [HLL.out]; decide)
       have f0 := Blk.frozen HZ5.out 0
       have q0 := getD_isL H2.out.isL 0
       clear hZ hg5))
  have ev : IntKind.u64.wrap (a2[0]?.getD 0 + 5) = a2.getD 0 0 + 5 := by
    rw [IntKind.wrap_u64, ← List.getD_eq_getElem?_getD]; omega
  rw [ev]
  generalize hW6 : World.setCell _ _ _ = w6
  have HM : Aside0 (Blk w6 w3.heap.size 79 (nums .u64 (mst a2 0))) := ⟨by rw [← hW6]; exact CiC.blk_put HZ5.out 0 _⟩
  have HX6 : Aside0 (Blk w6 w.heap.size 79 (nums .u64 a2)) := ⟨by rw [← hW6]; exact Blk.far HX5.out (p := ⟨w3.heap.size, 0, none⟩) (by have := HYL.out; show w.heap.size ≠ w3.heap.size; omega) _⟩
  have HY6 : Aside0 (Blk w6 (w.heap.size + 1) 79 (nums .u64 (List.replicate 5 0))) := ⟨by rw [← hW6]; exact Blk.far HY5.out (p := ⟨w3.heap.size, 0, none⟩) (by have := HYL.out; show w.heap.size + 1 ≠ w3.heap.size; omega) _⟩
  have HB6 : Aside0 (Below w.heap.size w w6) := ⟨by rw [← hW6]; exact HB5.out.setCell (p := ⟨w3.heap.size, 0, none⟩) (by have := HYL.out; show w.heap.size ≤ w3.heap.size; omega) _⟩
  have hG := HYL.out
  clear hW6 k0 f0 q0 ev
  generalize w3.heap.size = G at HM hG ⊢
  go_loopw [16] (fun i wr => ∃ t : Nat, t ≤ 4 ∧ i = .int .i64 t ∧ Aside0 (Blk wr G 79 (nums .u64 (mst a2 t))) ∧ Aside0 (Blk wr w.heap.size 79 (nums .u64 a2)) ∧ Aside0 (Blk wr (w.heap.size + 1) 79 (nums .u64 (List.replicate 5 0))) ∧ Below w.heap.size w wr) (fun i _ => 4 - (intOf i).toNat)
  case atStart => exact ⟨0, by omega, rfl, HM, HX6, HY6, HB6.out⟩
  case round =>
    clear HM HX6 HY6 HB6
    obtain ⟨t, ht, rfl, hM, hX, hY, hB⟩ := hrel
    by_cases hlt : t < 4
    · have hlt' : (t : Int) < 4 := by omega
      have hmo := mst_ok H2.out t ht
      have hx := hmo.2 t
      have hy := hmo.2 (t + 1)
      have kx := blk_u64 hM.out t (by rw [hmo.1]; omega)
      have ky := blk_u64 hM.out (t + 1) (by rw [hmo.1]; omega)
      have fx := Blk.frozen hM.out t
      have fy := Blk.frozen hM.out (t + 1)
      have hnx : Aside0 (mst a2 (t + 1) = ((mst a2 t).set (t + 1) ((mst a2 t).getD (t + 1) 0 + (mst a2 t).getD t 0 / 67108864)).set t ((mst a2 t).getD t 0 % 67108864)) := ⟨rfl⟩
      have HMO := Aside0.mk hmo
      clear hmo
      generalize (mst a2 t).getD t 0 = x at *
      generalize (mst a2 t).getD (t + 1) 0 = y at *
      have i1 : (0 : Int) ≤ (t : Int) + 1 := by omega
      have i2 : (t : Int) + 1 < 5 := by omega
      have i3 : (t : Int) < 5 := by omega
      have i4 : ((t : Int) + 1).toNat = t + 1 := by omega
      have e1 : shr .u64 x 26 = x / 67108864 := rfl
      have e2 : (y + x / 67108864) % 18446744073709551616 = y + x / 67108864 := by omega
      have e3 := and26 x (by omega) (by omega)
      go_wp2_with fail
      go_region
      generalize hW7 : World.drew _ = w7
      have kx7 : w7.cell? ⟨G, t, none⟩ = some (.int .u64 x) := by rw [← hW7]; exact (World.cell?_setCell_other _ _ _ _ (by intro e; injection e with _ e2; omega)).trans kx
      have hM7 : Blk w7 G 79 (nums .u64 ((mst a2 t).set (t + 1) (y + x / 67108864))) := by rw [← hW7]; exact CiC.blk_put hM.out (t + 1) _
      have fx7 := Blk.frozen hM7 t
      have HM7 := Aside0.mk hM7
      have HX7 : Aside0 (Blk w7 w.heap.size 79 (nums .u64 a2)) := ⟨by rw [← hW7]; exact Blk.far hX.out (p := ⟨G, t + 1, none⟩) (by show w.heap.size ≠ G; omega) _⟩
      have HY7 : Aside0 (Blk w7 (w.heap.size + 1) 79 (nums .u64 (List.replicate 5 0))) := ⟨by rw [← hW7]; exact Blk.far hY.out (p := ⟨G, t + 1, none⟩) (by show w.heap.size + 1 ≠ G; omega) _⟩
      have hB7 : Below w.heap.size w w7 := by rw [← hW7]; exact (hB.setCell (p := ⟨G, t + 1, none⟩) (by show w.heap.size ≤ G; omega) _).drew
      clear hW7 hM7 kx ky fx fy
      go_wp2_with fail
      have R1 : Aside0 (Blk (w7.setCell ⟨G, t, none⟩ (.int .u64 (x % 67108864))) G 79 (nums .u64 (mst a2 (t + 1)))) := ⟨by rw [hnx.out]; exact CiC.blk_put HM7.out t _⟩
      have R2 : Aside0 (Blk (w7.setCell ⟨G, t, none⟩ (.int .u64 (x % 67108864))) w.heap.size 79 (nums .u64 a2)) := ⟨Blk.far HX7.out (p := ⟨G, t, none⟩) (by show w.heap.size ≠ G; omega) _⟩
      have R3 : Aside0 (Blk (w7.setCell ⟨G, t, none⟩ (.int .u64 (x % 67108864))) (w.heap.size + 1) 79 (nums .u64 (List.replicate 5 0))) := ⟨Blk.far HY7.out (p := ⟨G, t, none⟩) (by show w.heap.size + 1 ≠ G; omega) _⟩
      go_roundw
      case rel => exact ⟨t + 1, by omega, by go_num, R1, R2, R3, hB7.setCell (p := ⟨G, t, none⟩) (by show w.heap.size ≤ G; omega) _⟩
      case measure => simp [intOf]; omega
    · have hge : ¬ (t : Int) < 4 := by omega
      obtain rfl : t = 4 := by omega
      have hmo := mst_ok H2.out 4 (Nat.le_refl _)
      have hx := hmo.2 4
      have kx := blk_u64 hM.out 4 (by rw [hmo.1]; decide)
      have fx := Blk.frozen hM.out 4
      have hov := overS_01 H2.out
      have hove : Aside0 (overS a2 = (mst a2 4).getD 4 0 / 67108864) := ⟨rfl⟩
      have hmre : Aside0 (moreS a2 = (mst a2 4).set 4 ((mst a2 4).getD 4 0 % 67108864)) := ⟨rfl⟩
      have HML : Aside0 ((moreS a2).length = 5) := ⟨by simp [moreS]; exact hmo.1⟩
      have HMR : Aside0 (∀ j, 0 ≤ (moreS a2).getD j 0 ∧ (moreS a2).getD j 0 < 4294967296) := ⟨moreS_ok H2.out⟩
      have HPK : Aside0 (pickS a2 = if overS a2 = 0 then a2 else moreS a2) := ⟨rfl⟩
      obtain ⟨ov, HOV⟩ : ∃ z, Aside0 (overS a2 = z) := ⟨_, ⟨rfl⟩⟩
      obtain ⟨mr, HMM⟩ : ∃ z, Aside0 (moreS a2 = z) := ⟨_, ⟨rfl⟩⟩
      rw [HOV.out] at hov hove HPK
      rw [HMM.out] at hmre HML HMR HPK
      generalize (mst a2 4).getD 4 0 = x at *
      have hq : x / 67108864 = ov := hove.out.symm
      have e3 := and26 x (by omega) (by omega)
      have HM4 : Aside0 (Blk (wr.setCell ⟨G, 4, none⟩ (.int .u64 (x % 67108864))) G 79 (nums .u64 mr)) := ⟨by rw [hmre.out]; exact CiC.blk_put hM.out 4 _⟩
      have HX4 : Aside0 (Blk (wr.setCell ⟨G, 4, none⟩ (.int .u64 (x % 67108864))) w.heap.size 79 (nums .u64 a2)) := ⟨Blk.far hX.out (p := ⟨G, 4, none⟩) (by show w.heap.size ≠ G; omega) _⟩
      have HY4 : Aside0 (Blk (wr.setCell ⟨G, 4, none⟩ (.int .u64 (x % 67108864))) (w.heap.size + 1) 79 (nums .u64 (List.replicate 5 0))) := ⟨Blk.far hY.out (p := ⟨G, 4, none⟩) (by show w.heap.size + 1 ≠ G; omega) _⟩
      have HB4 : Aside0 (Below w.heap.size w (wr.setCell ⟨G, 4, none⟩ (.int .u64 (x % 67108864)))) := ⟨hB.setCell (p := ⟨G, 4, none⟩) (by show w.heap.size ≤ G; omega) _⟩
      clear hmo hove
      go_wp2_with fail
      obtain ⟨wo, HWO⟩ : ∃ wo : World, Aside0 (wo = wr.setCell ⟨G, 4, none⟩ (.int .u64 (x % 67108864))) := ⟨_, ⟨rfl⟩⟩
      rw [← HWO.out] at HM4 HX4 HY4 HB4 ⊢
      -- what is picked, limb by limb
      have hsel : ∀ u v : Int, (0 ≤ u ∧ u < 4294967296) → (0 ≤ v ∧ v < 4294967296) → Go.bits .or .u64 (Go.bits .andNot .u64 u (IntKind.u64.wrap (-ov))) (Go.bits .and .u64 v (IntKind.u64.wrap (-ov))) = if ov = 0 then u else v := by
        intro u v hu hv
        rcases hov with rfl | rfl
        · rw [if_pos rfl, show IntKind.u64.wrap (-0) = 0 from by decide, andNot0 u (by omega) (by omega), and0 v (by omega) (by omega), or0 u (by omega) (by omega)]
        · rw [if_neg (by decide), show IntKind.u64.wrap (-1) = 18446744073709551615 from by decide, andNot1 u (by omega) (by omega), and1 v (by omega) (by omega), or1 v (by omega) (by omega)]
      have HSEL := Aside0.mk hsel
      have hP : Aside0 ((pickS a2).length = 5) := ⟨by rw [HPK.out]; split; exact HLL.out; exact HML.out⟩
      obtain ⟨pk, HP⟩ : ∃ z, Aside0 (pickS a2 = z) := ⟨_, ⟨rfl⟩⟩
      rw [HP.out] at hP HPK hls
      have hX0 : Aside0 (Blk wo w.heap.size 79 (nums .u64 (pk.take 0 ++ a2.drop 0))) := ⟨HX4.out⟩
      generalize IntKind.u64.wrap (-ov) = M at *
      clear hsel
      go_loopw [44] (fun i wr => ∃ t : Nat, t ≤ 5 ∧ i = .int .i64 t ∧ Aside0 (Blk wr G 79 (nums .u64 mr)) ∧ Aside0 (Blk wr w.heap.size 79 (nums .u64 (pk.take t ++ a2.drop t))) ∧ Aside0 (Blk wr (w.heap.size + 1) 79 (nums .u64 (List.replicate 5 0))) ∧ Below w.heap.size w wr) (fun i _ => 5 - (intOf i).toNat)
      case atStart => exact ⟨0, by omega, rfl, HM4, hX0, HY4, HB4.out⟩
      case round =>
        clear HM4 hX0 HX4 HY4 HB4
        obtain ⟨t, htt, rfl, hM, hX, hY, hB⟩ := hrel
        have hlen : Aside0 ((pk.take t ++ a2.drop t).length = 5) := ⟨by rw [List.length_append, List.length_take, List.length_drop, hP.out, HLL.out]; omega⟩
        by_cases hlt : t < 5
        · have hlt' : (t : Int) < 5 := by omega
          have kx := blk_u64 hX.out t (by rw [hlen.out]; exact hlt)
          have km := blk_u64 hM.out t (by rw [HML.out]; exact hlt)
          have fx := Blk.frozen hX.out t
          have gu : (pk.take t ++ a2.drop t).getD t 0 = a2.getD t 0 := by
            rw [List.getD_eq_getElem?_getD, List.getElem?_append_right (by rw [List.length_take]; omega), List.length_take, hP.out, show t - min t 5 = 0 by omega, List.getElem?_drop, ← List.getD_eq_getElem?_getD]; rfl
          rw [gu] at kx
          have hu := low_lt H2.out t
          have hv := HMR.out t
          have hs := HSEL.out _ _ hu hv
          have hset : Aside0 ((pk.take t ++ a2.drop t).set t (if ov = 0 then a2.getD t 0 else mr.getD t 0) = pk.take (t + 1) ++ a2.drop (t + 1)) := ⟨by
            have e : (if ov = 0 then a2.getD t 0 else mr.getD t 0) = pk.getD t 0 := by rw [HPK.out]; split <;> rfl
            rw [e]
            exact set_take_drop pk a2 t (by rw [hP.out]; exact hlt) (by rw [HLL.out]; exact hlt)⟩
          generalize a2.getD t 0 = u at *
          generalize mr.getD t 0 = v at *
          generalize (if ov = 0 then u else v) = z at *
          go_wp2_with fail
          go_region
          have R1 : Aside0 (Blk (wr.setCell ⟨w.heap.size, t, none⟩ (.int .u64 z)) w.heap.size 79 (nums .u64 (pk.take (t + 1) ++ a2.drop (t + 1)))) := ⟨by rw [← hset.out]; exact CiC.blk_put hX.out t z⟩
          have R2 : Aside0 (Blk (wr.setCell ⟨w.heap.size, t, none⟩ (.int .u64 z)) G 79 (nums .u64 mr)) := ⟨Blk.far hM.out (p := ⟨w.heap.size, t, none⟩) (by show G ≠ w.heap.size; omega) _⟩
          have R3 : Aside0 (Blk (wr.setCell ⟨w.heap.size, t, none⟩ (.int .u64 z)) (w.heap.size + 1) 79 (nums .u64 (List.replicate 5 0))) := ⟨Blk.far hY.out (p := ⟨w.heap.size, t, none⟩) (by simp) _⟩
          clear hs
          go_wp2_with fail
          go_roundw
          case rel => exact ⟨t + 1, by omega, by go_num, ⟨R2.out⟩, ⟨R1.out⟩, ⟨R3.out⟩, (hB.setCell (p := ⟨w.heap.size, t, none⟩) (Nat.le_refl _) _).drew⟩
          case measure => simp [intOf]; omega
        · have hge : ¬ (t : Int) < 5 := by omega
          obtain rfl : t = 5 := by omega
          have hXX : Aside0 (Blk wr w.heap.size 79 (nums .u64 pk)) := ⟨by
            have h1 := hX.out
            rw [List.take_of_length_le (by rw [hP.out]; omega), List.drop_of_length_le (by rw [HLL.out]; omega), List.append_nil] at h1
            exact h1⟩
          clear hX
          go_wp2_with (first
            | (refine load_arr rfl 79 (.tmp 1) rfl w.heap.size rfl 79 .u64 pk 5 36 hXX.out Try.underlying79 size79 hP.out ?_)
            | (refine store_arr rfl 79 (.tmp 2) (.tmp 61) rfl (w.heap.size + 1) .u64 pk rfl rfl 79 5 _ hY.out size79 hP.out (by rw [nums_length]; rfl) ?_; intro w9 hZ hg9; have HZ := Aside0.mk hZ; have HG9 := Aside0.mk hg9; clear hZ hg9))
          refine bodyPost_ret (v := .agg (nums .u64 pk).toArray) ?_ rfl ⟨by rw [hls.out], hB.grown HG9.out hB.size (fun k hk => by cases hk; omega)⟩
          exact results_arr (p := 2) (ty := 79) rfl _ w9 (w.heap.size + 1) 79 5 36 .u64 pk rfl HZ.out Try.underlying79 size79 hP.out
end Go.Proofs.Ytkjmjgiklelpiaa.OtM
/- onetime.times, walked. -/
namespace Go.Proofs.Ytkjmjgiklelpiaa.OtT
open Go.RowKit Go.Proofs.YtkjmjgiklelpiaaW.PrintWords Go.Proofs.Ytkjmjgiklelpiaa.Num Go.Proofs.Ytkjmjgiklelpiaa.WordC Go.Proofs.Ytkjmjgiklelpiaa.Arr Go.Proofs.Ytkjmjgiklelpiaa.App Go.Proofs.Ytkjmjgiklelpiaa.CiC Go.Proofs.Ytkjmjgiklelpiaa.CiD Go.Proofs.Ytkjmjgiklelpiaa.OtC Go.Proofs.Ytkjmjgiklelpiaa.OtR Go.Proofs.Ytkjmjgiklelpiaa.OtL Go.Proofs.Ytkjmjgiklelpiaa.OtM
set_option linter.unusedVariables false
set_option linter.unusedSimpArgs false

/-- The product's limbs, one product of two limbs behind the other. -/
def tx (a r : List Int) (i k : Nat) : Int := if 4 < i + k then a.getD i 0 * r.getD k 0 * 5 else a.getD i 0 * r.getD k 0
def tst (a r : List Int) : Nat → List Int
  | 0 => [0, 0, 0, 0, 0]
  | j + 1 => (tst a r j).set ((j / 5 + j % 5) % 5) ((tst a r j).getD ((j / 5 + j % 5) % 5) 0 + tx a r (j / 5) (j % 5))
def timesS (a r : List Int) : List Int := carS (tst a r 25)
def IsBd (m : Int) (l : List Int) : Prop := ∀ j, 0 ≤ l.getD j 0 ∧ l.getD j 0 < m
theorem tst_length (a r : List Int) (j : Nat) : (tst a r j).length = 5 := by
  induction j with
  | zero => rfl
  | succ j ih => simp [tst, ih]
theorem mul_bd {x y : Int} (hx : 0 ≤ x ∧ x < 268435456) (hy : 0 ≤ y ∧ y < 67108864) : 0 ≤ x * y ∧ x * y < 18014398509481984 := by
  constructor
  · exact Int.mul_nonneg hx.1 hy.1
  · have h1 : x * y ≤ x * 67108863 := Int.mul_le_mul_of_nonneg_left (by omega) hx.1
    omega
theorem tx_bd {a r : List Int} (ha : IsBd 268435456 a) (hr : IsBd 67108864 r) (i k : Nat) : 0 ≤ tx a r i k ∧ tx a r i k < 90071992547409920 := by
  have := mul_bd (ha i) (hr k)
  unfold tx
  split <;> omega
theorem tst_bd {a r : List Int} (ha : IsBd 268435456 a) (hr : IsBd 67108864 r) (j : Nat) : ∀ m, 0 ≤ (tst a r j).getD m 0 ∧ (tst a r j).getD m 0 ≤ (j : Int) * 90071992547409920 := by
  induction j with
  | zero =>
    intro m
    have hm : m = 0 ∨ m = 1 ∨ m = 2 ∨ m = 3 ∨ m = 4 ∨ 5 ≤ m := by omega
    rcases hm with rfl | rfl | rfl | rfl | rfl | hm
    all_goals first
      | (simp [tst]; done)
      | (rw [List.getD_eq_getElem?_getD, List.getElem?_eq_none (by rw [tst_length]; exact hm)]; simp)
  | succ j ih =>
    intro m
    have hx := tx_bd ha hr (j / 5) (j % 5)
    simp only [tst]
    by_cases hm : (j / 5 + j % 5) % 5 = m
    · have h0 := ih m
      rw [hm, List.getD_eq_getElem?_getD, List.getElem?_set_self (by rw [tst_length]; omega), Option.getD_some]
      push_cast
      omega
    · have h0 := ih m
      rw [List.getD_eq_getElem?_getD, List.getElem?_set_ne hm, ← List.getD_eq_getElem?_getD]
      push_cast
      omega
theorem tst_isL {a r : List Int} (ha : IsBd 268435456 a) (hr : IsBd 67108864 r) : IsL (tst a r 25) := by
  intro x hx
  obtain ⟨m, hm, rfl⟩ := List.getElem_of_mem hx
  have h := tst_bd ha hr 25 m
  rw [List.getD_eq_getElem?_getD, List.getElem?_eq_getElem hm, Option.getD_some] at h
  omega
set_option maxHeartbeats 8000000 in
set_option maxRecDepth 100000 in
theorem times_c {a r : List Int} {w : World} (hla : a.length = 5) (hlr : r.length = 5) (ha : IsBd 268435456 a) (hr : IsBd 67108864 r) :
    Calls Try.prog 70 #[.agg (nums .u64 a).toArray, .agg (nums .u64 r).toArray] w fun e w' => e = .returned (.agg (nums .u64 (timesS a r)).toArray) ∧ Below w.heap.size w w' := by
  have HLA := Aside0.mk hla
  have HLR := Aside0.mk hlr
  have HA := Aside0.mk ha
  have HR := Aside0.mk hr
  clear hla hlr ha hr
  go_enter Try.func70, Try.ntmps70
  go_upto_region 1 with (fail)
  generalize hW : ((w.alloc _).alloc _).alloc _ = W0
  have hA : Aside0 (Blk W0 w.heap.size 79 (nums .u64 a)) := ⟨by rw [← hW]; exact Blk.alloc (heap_alloc2_old _ _ _) _⟩
  have hR : Aside0 (Blk W0 (w.heap.size + 1) 79 (nums .u64 r)) := ⟨by rw [← hW]; exact Blk.alloc (heap_alloc2_new _ _ _) _⟩
  have hB : Below w.heap.size w W0 := by rw [← hW]; exact (((Below.refl _ w).alloc (Nat.le_refl _) _).alloc (by simp) _).alloc (by simp; omega) _
  have hsz : W0.heap.size = w.heap.size + 3 := by rw [← hW]; simp
  have hY : Aside0 (Blk W0 (w.heap.size + 1 + 1) 79 (nums .u64 (List.replicate 5 0))) := ⟨by
    rw [← hW]
    have := heap_alloc_new ((w.alloc (.cells (nums .u64 a).toArray 79)).alloc (.cells (nums .u64 r).toArray 79)) (.cells (nums .u64 (List.replicate 5 0)).toArray 79)
    have hs : ((w.alloc (.cells (nums .u64 a).toArray 79)).alloc (.cells (nums .u64 r).toArray 79)).heap.size = w.heap.size + 1 + 1 := by simp
    rw [hs] at this
    exact this⟩
  clear hW
  have hD1 : Aside0 (Blk (W0.alloc (.cells (nums .u64 (List.replicate 5 0)).toArray 79)) (w.heap.size + 3) 79 (nums .u64 (tst a r 0))) := ⟨by rw [← hsz]; exact heap_alloc_new _ _⟩
  have hA1 : Aside0 (Blk (W0.alloc (.cells (nums .u64 (List.replicate 5 0)).toArray 79)) w.heap.size 79 (nums .u64 a)) := ⟨Blk.alloc hA.out _⟩
  have hR1 : Aside0 (Blk (W0.alloc (.cells (nums .u64 (List.replicate 5 0)).toArray 79)) (w.heap.size + 1) 79 (nums .u64 r)) := ⟨Blk.alloc hR.out _⟩
  have hY1 : Aside0 (Blk (W0.alloc (.cells (nums .u64 (List.replicate 5 0)).toArray 79)) (w.heap.size + 1 + 1) 79 (nums .u64 (List.replicate 5 0))) := ⟨Blk.alloc hY.out _⟩
  have hB1 : Below w.heap.size w (W0.alloc (.cells (nums .u64 (List.replicate 5 0)).toArray 79)) := hB.alloc hB.size _
  clear hA hR hY hB
  go_wp2_with fail
  generalize hW1 : W0.alloc _ = W1
  rw [show W0.alloc (.cells (nums .u64 (List.replicate 5 0)).toArray 79) = W1 from hW1] at hD1 hA1 hR1 hY1 hB1
  clear hW1 hsz
  go_loopw [9] (fun i wr => ∃ t : Nat, t ≤ 5 ∧ i = .int .i64 t ∧ Aside0 (Blk wr (w.heap.size + 3) 79 (nums .u64 (tst a r (5 * t)))) ∧ Aside0 (Blk wr w.heap.size 79 (nums .u64 a)) ∧ Aside0 (Blk wr (w.heap.size + 1) 79 (nums .u64 r)) ∧ Aside0 (Blk wr (w.heap.size + 1 + 1) 79 (nums .u64 (List.replicate 5 0))) ∧ Below w.heap.size w wr) (fun i _ => 5 - (intOf i).toNat)
  case atStart => exact ⟨0, by omega, rfl, hD1, hA1, hR1, hY1, hB1⟩
  case round =>
    clear hD1 hA1 hR1 hY1 hB1
    obtain ⟨t, ht, rfl, hD, hA, hR, hY, hB⟩ := hrel
    by_cases hlt : t < 5
    · have hlt' : (t : Int) < 5 := by omega
      go_wp2_with fail
      go_loopw [12] (fun i wr => ∃ k : Nat, k ≤ 5 ∧ i = .int .i64 k ∧ Aside0 (Blk wr (w.heap.size + 3) 79 (nums .u64 (tst a r (5 * t + k)))) ∧ Aside0 (Blk wr w.heap.size 79 (nums .u64 a)) ∧ Aside0 (Blk wr (w.heap.size + 1) 79 (nums .u64 r)) ∧ Aside0 (Blk wr (w.heap.size + 1 + 1) 79 (nums .u64 (List.replicate 5 0))) ∧ Below w.heap.size w wr) (fun i _ => 5 - (intOf i).toNat)
      case atStart => exact ⟨0, by omega, rfl, hD, hA, hR, hY, hB⟩
      case round =>
        clear hD hA hR hY hB
        obtain ⟨k, hk, rfl, hD, hA, hR, hY, hB⟩ := hrel
        by_cases hlk : k < 5
        · have hlk' : (k : Int) < 5 := by omega
          have ka := blk_u64 hA.out t (by rw [HLA.out]; exact hlt)
          have kr := blk_u64 hR.out k (by rw [HLR.out]; exact hlk)
          have kd := blk_u64 hD.out ((t + k) % 5) (by rw [tst_length]; omega)
          have fd := Blk.frozen hD.out ((t + k) % 5)
          have hmb := mul_bd (HA.out t) (HR.out k)
          have hdb := tst_bd HA.out HR.out (5 * t + k) ((t + k) % 5)
          have hnx : Aside0 (tst a r (5 * t + (k + 1)) = (tst a r (5 * t + k)).set ((t + k) % 5) ((tst a r (5 * t + k)).getD ((t + k) % 5) 0 + (if 4 < t + k then a.getD t 0 * r.getD k 0 * 5 else a.getD t 0 * r.getD k 0))) := ⟨by
            rw [show 5 * t + (k + 1) = (5 * t + k) + 1 by omega]
            show (tst a r (5 * t + k)).set _ _ = _
            rw [show (5 * t + k) / 5 = t by omega, show (5 * t + k) % 5 = k by omega]; rfl⟩
          generalize a.getD t 0 = x at *
          generalize r.getD k 0 = y at *
          generalize (tst a r (5 * t + k)).getD ((t + k) % 5) 0 = z at *
          generalize hpq : x * y = pq at *
          have HPQ := Aside0.mk hpq
          clear hpq
          have e1 : IntKind.u64.wrap (x * y) = pq := by rw [HPQ.out, IntKind.wrap_u64]; omega
          have e0 : (x * y) % 18446744073709551616 = pq := by rw [HPQ.out]; omega
          have j1 : (0 : Int) ≤ ((t : Int) + (k : Int)) % 5 := by omega
          have j2 : ((t : Int) + (k : Int)) % 5 < 5 := by omega
          have j3 : (((t : Int) + (k : Int)) % 5).toNat = (t + k) % 5 := by omega
          go_upto_region 8 with (fail)
          go_region
          have hnx' := hnx.out
          clear hnx
          have hnx := hnx'
          clear hnx'
          by_cases h4 : 4 < t + k
          · have hk4 : (4 : Int) < (t : Int) + (k : Int) := by omega
            rw [if_pos h4] at hnx
            have e5 : (pq * 5) % 18446744073709551616 = pq * 5 := by omega
            have e6 : (z + pq * 5) % 18446744073709551616 = (z + pq * 5) := by omega
            have HNX := Aside0.mk hnx
            clear hnx
            go_wp2_with fail
            have R1 : Aside0 (Blk (wr.setCell ⟨w.heap.size + 3, (t + k) % 5, none⟩ (.int .u64 (z + pq * 5))).drew (w.heap.size + 3) 79 (nums .u64 (tst a r (5 * t + (k + 1))))) := ⟨by rw [HNX.out]; exact CiC.blk_put hD.out ((t + k) % 5) _⟩
            have R2 : Aside0 (Blk (wr.setCell ⟨w.heap.size + 3, (t + k) % 5, none⟩ (.int .u64 (z + pq * 5))).drew w.heap.size 79 (nums .u64 a)) := ⟨Blk.far hA.out (p := ⟨w.heap.size + 3, (t + k) % 5, none⟩) (by show w.heap.size ≠ w.heap.size + 3; omega) _⟩
            have R3 : Aside0 (Blk (wr.setCell ⟨w.heap.size + 3, (t + k) % 5, none⟩ (.int .u64 (z + pq * 5))).drew (w.heap.size + 1) 79 (nums .u64 r)) := ⟨Blk.far hR.out (p := ⟨w.heap.size + 3, (t + k) % 5, none⟩) (by show w.heap.size + 1 ≠ w.heap.size + 3; omega) _⟩
            have R4 : Aside0 (Blk (wr.setCell ⟨w.heap.size + 3, (t + k) % 5, none⟩ (.int .u64 (z + pq * 5))).drew (w.heap.size + 1 + 1) 79 (nums .u64 (List.replicate 5 0))) := ⟨Blk.far hY.out (p := ⟨w.heap.size + 3, (t + k) % 5, none⟩) (by show w.heap.size + 1 + 1 ≠ w.heap.size + 3; omega) _⟩
            go_roundw
            case rel => exact ⟨k + 1, by omega, by go_num, R1, R2, R3, R4, (hB.setCell (p := ⟨w.heap.size + 3, (t + k) % 5, none⟩) (by show w.heap.size ≤ w.heap.size + 3; omega) _).drew⟩
            case measure => simp [intOf]; omega
          · have hk4 : ¬ (4 : Int) < (t : Int) + (k : Int) := by omega
            rw [if_neg h4] at hnx
            have e6 : (z + pq) % 18446744073709551616 = (z + pq) := by omega
            have HNX := Aside0.mk hnx
            clear hnx
            go_wp2_with fail
            have R1 : Aside0 (Blk (wr.setCell ⟨w.heap.size + 3, (t + k) % 5, none⟩ (.int .u64 (z + pq))).drew (w.heap.size + 3) 79 (nums .u64 (tst a r (5 * t + (k + 1))))) := ⟨by rw [HNX.out]; exact CiC.blk_put hD.out ((t + k) % 5) _⟩
            have R2 : Aside0 (Blk (wr.setCell ⟨w.heap.size + 3, (t + k) % 5, none⟩ (.int .u64 (z + pq))).drew w.heap.size 79 (nums .u64 a)) := ⟨Blk.far hA.out (p := ⟨w.heap.size + 3, (t + k) % 5, none⟩) (by show w.heap.size ≠ w.heap.size + 3; omega) _⟩
            have R3 : Aside0 (Blk (wr.setCell ⟨w.heap.size + 3, (t + k) % 5, none⟩ (.int .u64 (z + pq))).drew (w.heap.size + 1) 79 (nums .u64 r)) := ⟨Blk.far hR.out (p := ⟨w.heap.size + 3, (t + k) % 5, none⟩) (by show w.heap.size + 1 ≠ w.heap.size + 3; omega) _⟩
            have R4 : Aside0 (Blk (wr.setCell ⟨w.heap.size + 3, (t + k) % 5, none⟩ (.int .u64 (z + pq))).drew (w.heap.size + 1 + 1) 79 (nums .u64 (List.replicate 5 0))) := ⟨Blk.far hY.out (p := ⟨w.heap.size + 3, (t + k) % 5, none⟩) (by show w.heap.size + 1 + 1 ≠ w.heap.size + 3; omega) _⟩
            go_roundw
            case rel => exact ⟨k + 1, by omega, by go_num, R1, R2, R3, R4, (hB.setCell (p := ⟨w.heap.size + 3, (t + k) % 5, none⟩) (by show w.heap.size ≤ w.heap.size + 3; omega) _).drew⟩
            case measure => simp [intOf]; omega
        · have hgk : ¬ (k : Int) < 5 := by omega
          obtain rfl : k = 5 := by omega
          go_wp2_with fail
          go_roundw
          case rel => exact ⟨t + 1, by omega, by go_num, hD, hA, hR, hY, hB⟩
          case measure => simp [intOf]; omega
    · have hge : ¬ (t : Int) < 5 := by omega
      obtain rfl : t = 5 := by omega
      have hdl : Aside0 ((tst a r 25).length = 5) := ⟨tst_length a r 25⟩
      have hdi := Aside0.mk (tst_isL HA.out HR.out)
      have hD25 : Aside0 (Blk wr (w.heap.size + 3) 79 (nums .u64 (tst a r 25))) := hD
      have htm : Aside0 (timesS a r = carS (tst a r 25)) := ⟨rfl⟩
      obtain ⟨D, HD⟩ : ∃ D, Aside0 (tst a r 25 = D) := ⟨_, ⟨rfl⟩⟩
      rw [HD.out] at hdl hdi hD25 htm
      clear hD
      go_wp2_with (first
        | (refine load_arr rfl 79 (.tmp 5) rfl (w.heap.size + 3) rfl 79 .u64 D 5 36 hD25.out Try.underlying79 size79 hdl.out ?_))
      refine (carried_c hdl.out hdi.out).mono ?_
      rintro x w2 ⟨rfl, hb2⟩
      have hcl : Aside0 ((carS D).length = 5) := ⟨by simp [carS, top5, cst_length]; exact hdl.out⟩
      obtain ⟨S, HS⟩ : ∃ S, Aside0 (carS D = S) := ⟨_, ⟨rfl⟩⟩
      rw [HS.out] at hcl htm ⊢
      have HY2 := Aside0.mk (hY.out.below hb2)
      have HB2 := Aside0.mk (below_next hB hb2)
      clear hb2
      go_wp2_with (first
        | (refine store_arr rfl 79 (.tmp 4) (.tmp 40) rfl (w.heap.size + 1 + 1) .u64 S rfl rfl 79 5 _ HY2.out size79 hcl.out (by rw [nums_length]; rfl) ?_; intro w9 hZ hg9; have HZ := Aside0.mk hZ; have HG9 := Aside0.mk hg9; clear hZ hg9))
      refine bodyPost_ret (v := .agg (nums .u64 S).toArray) ?_ rfl ⟨by rw [htm.out], HB2.out.grown HG9.out HB2.out.size (fun k hk => by cases hk; omega)⟩
      exact results_arr (p := 4) (ty := 79) rfl _ w9 (w.heap.size + 1 + 1) 79 5 36 .u64 S rfl HZ.out Try.underlying79 size79 hcl.out
end Go.Proofs.Ytkjmjgiklelpiaa.OtT
/- onetime: what the limbs are worth. -/
namespace Go.Proofs.Ytkjmjgiklelpiaa.OtV
open Go.RowKit Go.Proofs.YtkjmjgiklelpiaaW.PrintWords Go.Proofs.Ytkjmjgiklelpiaa.Num Go.Proofs.Ytkjmjgiklelpiaa.WordC Go.Proofs.Ytkjmjgiklelpiaa.Arr Go.Proofs.Ytkjmjgiklelpiaa.App Go.Proofs.Ytkjmjgiklelpiaa.CiC Go.Proofs.Ytkjmjgiklelpiaa.CiD Go.Proofs.Ytkjmjgiklelpiaa.OtC Go.Proofs.Ytkjmjgiklelpiaa.OtR Go.Proofs.Ytkjmjgiklelpiaa.OtL Go.Proofs.Ytkjmjgiklelpiaa.OtM Go.Proofs.Ytkjmjgiklelpiaa.OtT
set_option linter.unusedVariables false
set_option linter.unusedSimpArgs false

/-- What limbs are worth. -/
def val (l : List Int) : Int := l.getD 0 0 + l.getD 1 0 * 67108864 + l.getD 2 0 * 4503599627370496 + l.getD 3 0 * 302231454903657293676544 + l.getD 4 0 * 20282409603651670423947251286016
/-- 2^130 - 5 -/
def P130 : Int := 1361129467683753853853498429727072845819
theorem car_val (d : List Int) (hl : d.length = 5) (h : IsL d) : ∃ k : Int, val (carS d) = val d - k * P130 := by
  match d, hl with
  | [a, b, c, e, f], _ =>
    refine ⟨(cst [a, b, c, e, f] 5).2, ?_⟩
    simp only [val, carS, top5, cst, P130, List.getD_cons_zero, List.getD_cons_succ, List.set_cons_zero, List.set_cons_succ]
    omega
theorem tst_val (a r : List Int) (hla : a.length = 5) (hlr : r.length = 5) : ∃ k : Int, val (tst a r 25) = val a * val r - k * P130 := by
  match a, hla, r, hlr with
  | [a0, a1, a2, a3, a4], _, [r0, r1, r2, r3, r4], _ =>
    refine ⟨(a1 * r4 + a2 * r3 + a3 * r2 + a4 * r1) + (a2 * r4 + a3 * r3 + a4 * r2) * 67108864 + (a3 * r4 + a4 * r3) * 4503599627370496 + a4 * r4 * 302231454903657293676544, ?_⟩
    simp [val, tst, tx, P130]
    grind
/-- Bytes' number, the lowest first. -/
def le (b : List Int) : Int := be b.reverse
theorem read_val (b : List Int) (top : Int) (hl : b.length = 16) (h : IsB b) : val (readS b top) = le b + top * 340282366920938463463374607431768211456 := by
  match b, hl with
  | [b0, b1, b2, b3, b4, b5, b6, b7, b8, b9, b10, b11, b12, b13, b14, b15], _ =>
    have h0 := h b0 (by simp)
    have h1 := h b1 (by simp)
    have h2 := h b2 (by simp)
    have h3 := h b3 (by simp)
    have h4 := h b4 (by simp)
    have h5 := h b5 (by simp)
    have h6 := h b6 (by simp)
    have h7 := h b7 (by simp)
    have h8 := h b8 (by simp)
    have h9 := h b9 (by simp)
    have h10 := h b10 (by simp)
    have h11 := h b11 (by simp)
    have h12 := h b12 (by simp)
    have h13 := h b13 (by simp)
    have h14 := h b14 (by simp)
    have h15 := h b15 (by simp)
    clear h
    simp [val, readS, rdT, limb, loadW, le, be]
    omega
/-- Limbs of 26 bits. -/
def Can (l : List Int) : Prop := ∃ a b c d e : Int, l = [a, b, c, d, e] ∧ (0 ≤ a ∧ a < 67108864) ∧ (0 ≤ b ∧ b < 67108864) ∧ (0 ≤ c ∧ c < 67108864) ∧ (0 ≤ d ∧ d < 67108864) ∧ (0 ≤ e ∧ e < 67108864)
theorem car_can {l : List Int} (h : Low l) : Can (carS l) := by
  obtain ⟨a, b, c, d, e, rfl, h1, h2, h3, h4, h5⟩ := h
  refine ⟨_, _, _, _, _, rfl, ?_⟩
  simp [cst]
  omega
theorem pick_val {l : List Int} (h : Can l) : Can (pickS l) ∧ val (pickS l) = val l % P130 := by
  obtain ⟨a, b, c, d, e, rfl, h1, h2, h3, h4, h5⟩ := h
  unfold pickS
  split
  · rename_i ho
    refine ⟨⟨a, b, c, d, e, rfl, h1, h2, h3, h4, h5⟩, ?_⟩
    simp [overS, mst] at ho
    simp [val, P130]
    omega
  · rename_i ho
    simp [overS, mst] at ho
    refine ⟨⟨_, _, _, _, _, rfl, ?_⟩, ?_⟩
    · simp [mst]
      omega
    · simp [val, moreS, mst, P130]
      have o1 : (a + 5) / 67108864 ≤ 1 := by omega
      have o2 : (b + (a + 5) / 67108864) / 67108864 ≤ 1 := by omega
      have o3 : (c + (b + (a + 5) / 67108864) / 67108864) / 67108864 ≤ 1 := by omega
      have o4 : (d + (c + (b + (a + 5) / 67108864) / 67108864) / 67108864) / 67108864 ≤ 1 := by omega
      have o5 : (e + (d + (c + (b + (a + 5) / 67108864) / 67108864) / 67108864) / 67108864) / 67108864 = 1 := by omega
      have n1 := Int.emod_add_mul_ediv (a + 5) 67108864
      have n2 := Int.emod_add_mul_ediv (b + (a + 5) / 67108864) 67108864
      have n3 := Int.emod_add_mul_ediv (c + (b + (a + 5) / 67108864) / 67108864) 67108864
      have n4 := Int.emod_add_mul_ediv (d + (c + (b + (a + 5) / 67108864) / 67108864) / 67108864) 67108864
      have n5 := Int.emod_add_mul_ediv (e + (d + (c + (b + (a + 5) / 67108864) / 67108864) / 67108864) / 67108864) 67108864
      have m1 := Int.emod_nonneg (a + 5) (show (67108864 : Int) ≠ 0 by decide)
      have m2 := Int.emod_nonneg (b + (a + 5) / 67108864) (show (67108864 : Int) ≠ 0 by decide)
      have m3 := Int.emod_nonneg (c + (b + (a + 5) / 67108864) / 67108864) (show (67108864 : Int) ≠ 0 by decide)
      have m4 := Int.emod_nonneg (d + (c + (b + (a + 5) / 67108864) / 67108864) / 67108864) (show (67108864 : Int) ≠ 0 by decide)
      have m5 := Int.emod_nonneg (e + (d + (c + (b + (a + 5) / 67108864) / 67108864) / 67108864) / 67108864) (show (67108864 : Int) ≠ 0 by decide)
      rw [o5] at n5
      generalize (e + (d + (c + (b + (a + 5) / 67108864) / 67108864) / 67108864) / 67108864) % 67108864 = y5 at *
      generalize (d + (c + (b + (a + 5) / 67108864) / 67108864) / 67108864) % 67108864 = y4 at *
      generalize (d + (c + (b + (a + 5) / 67108864) / 67108864) / 67108864) / 67108864 = x4 at *
      generalize (c + (b + (a + 5) / 67108864) / 67108864) % 67108864 = y3 at *
      generalize (c + (b + (a + 5) / 67108864) / 67108864) / 67108864 = x3 at *
      generalize (b + (a + 5) / 67108864) % 67108864 = y2 at *
      generalize (b + (a + 5) / 67108864) / 67108864 = x2 at *
      generalize (a + 5) % 67108864 = y1 at *
      generalize (a + 5) / 67108864 = x1 at *
      clear o1 o2 o3 o4 o5 ho
      generalize hV : a + b * 67108864 + c * 4503599627370496 + d * 302231454903657293676544 + e * 20282409603651670423947251286016 = V
      have hV1 : y1 + y2 * 67108864 + y3 * 4503599627370496 + y4 * 302231454903657293676544 + y5 * 20282409603651670423947251286016 = V - 1361129467683753853853498429727072845819 := by omega
      rw [hV1]
      have hV2 : V < 1361129467683753853853498429727072845824 := by omega
      have hV3 : 0 ≤ V - 1361129467683753853853498429727072845819 := by omega
      rw [show V % 1361129467683753853853498429727072845819 = (V - 1361129467683753853853498429727072845819) % 1361129467683753853853498429727072845819 by omega]
      exact (Int.emod_eq_of_lt hV3 (by omega)).symm
theorem least_val {a : List Int} (hl : a.length = 5) (h : IsL a) : Can (leastS a) ∧ val (leastS a) = val a % P130 := by
  have hlow := carS_low hl h
  obtain ⟨k1, e1⟩ := car_val a hl h
  obtain ⟨k2, e2⟩ := car_val (carS a) hlow.length hlow.isL
  have hp := pick_val (car_can hlow)
  refine ⟨hp.1, ?_⟩
  have h2 := hp.2
  unfold leastS
  rw [h2, e2, e1]
  unfold P130
  omega
/-- One block more: what the accumulator is worth. -/
theorem times_val {a r : List Int} (hla : a.length = 5) (hlr : r.length = 5) (ha : IsBd 268435456 a) (hr : IsBd 67108864 r) : Low (timesS a r) ∧ val (timesS a r) % P130 = val a * val r % P130 := by
  have hi := tst_isL ha hr
  obtain ⟨k1, e1⟩ := tst_val a r hla hlr
  obtain ⟨k2, e2⟩ := car_val _ (tst_length a r 25) hi
  refine ⟨carS_low (tst_length a r 25) hi, ?_⟩
  unfold timesS
  rw [e2, e1]
  generalize val a * val r = z
  unfold P130
  omega
end Go.Proofs.Ytkjmjgiklelpiaa.OtV
/- onetime.take, walked. -/
namespace Go.Proofs.Ytkjmjgiklelpiaa.OtK
open Go.RowKit Go.Proofs.YtkjmjgiklelpiaaW.PrintWords Go.Proofs.Ytkjmjgiklelpiaa.Num Go.Proofs.Ytkjmjgiklelpiaa.WordC Go.Proofs.Ytkjmjgiklelpiaa.Arr Go.Proofs.Ytkjmjgiklelpiaa.App Go.Proofs.Ytkjmjgiklelpiaa.CiC Go.Proofs.Ytkjmjgiklelpiaa.CiD Go.Proofs.Ytkjmjgiklelpiaa.OtC Go.Proofs.Ytkjmjgiklelpiaa.OtR Go.Proofs.Ytkjmjgiklelpiaa.OtL Go.Proofs.Ytkjmjgiklelpiaa.OtM Go.Proofs.Ytkjmjgiklelpiaa.OtT Go.Proofs.Ytkjmjgiklelpiaa.OtV
set_option linter.unusedVariables false
set_option linter.unusedSimpArgs false

theorem range_blk {w : World} {g t : Nat} {cs : List Value} (h : Blk w g t cs) : w.rangeAt g 0 cs := fun j v hj => by
  rw [Nat.zero_add, Blk.cell h]; exact hj
theorem range_under {w w1 : World} {g o B : Nat} {cs : List Value} (h : w.rangeAt g o cs) (hb : Below B w w1) (hg : g < B) : w1.rangeAt g o cs := fun j v hj =>
  (hb.cell (p := ⟨g, o + j, none⟩) hg).trans (h j v hj)
theorem range_num {w : World} {g o : Nat} {l : List Int} (h : w.rangeAt g o (nums .u64 l)) (i : Nat) (hi : i < l.length) : w.cell? ⟨g, o + i, none⟩ = some (.int .u64 (l.getD i 0)) := h i _ (nums_get .u64 l i hi)
/-- Limbs added. -/
def addT (b a : List Int) : Nat → List Int
  | 0 => b
  | t + 1 => (addT b a t).set t ((addT b a t).getD t 0 + a.getD t 0)
def takeS (a r b : List Int) : List Int := timesS (addT b a 5) r
theorem addT_length (b a : List Int) (t : Nat) : (addT b a t).length = b.length := by
  induction t with
  | zero => rfl
  | succ t ih => simp [addT, ih]
theorem addT_get (b a : List Int) (hb : b.length = 5) (t m : Nat) : (addT b a t).getD m 0 = if m < t ∧ m < 5 then b.getD m 0 + a.getD m 0 else b.getD m 0 := by
  induction t with
  | zero => simp [addT]
  | succ t ih =>
    simp only [addT]
    by_cases hm : t = m
    · subst hm
      by_cases h5 : t < 5
      · rw [List.getD_eq_getElem?_getD, List.getElem?_set_self (by rw [addT_length, hb]; exact h5), Option.getD_some, ih]
        rw [if_neg (by omega), if_pos (by omega)]
      · rw [List.getD_eq_getElem?_getD, List.getElem?_eq_none (by simp [addT_length, hb]; omega), if_neg (by omega), List.getD_eq_getElem?_getD, List.getElem?_eq_none (by omega)]
    · rw [List.getD_eq_getElem?_getD, List.getElem?_set_ne hm, ← List.getD_eq_getElem?_getD, ih]
      by_cases h1 : m < t ∧ m < 5
      · rw [if_pos h1, if_pos (by omega)]
      · rw [if_neg h1, if_neg (by omega)]
theorem addT_bd {a b : List Int} (hb : b.length = 5) (ha : IsBd 134217728 a) (hb2 : IsBd 134217728 b) (t : Nat) : IsBd 268435456 (addT b a t) := by
  intro m
  have h1 := ha m
  have h2 := hb2 m
  rw [addT_get b a hb t m]
  split <;> omega
set_option maxHeartbeats 8000000 in
set_option maxRecDepth 100000 in
theorem take_c {g : Nat} {a r b : List Int} {w : World} (hr : w.rangeAt g 0 (nums .u64 r)) (ha : w.rangeAt g 5 (nums .u64 a)) (hg : g < w.heap.size) (hla : a.length = 5) (hlr : r.length = 5) (hlb : b.length = 5) (ba : IsBd 134217728 a) (br : IsBd 67108864 r) (bb : IsBd 134217728 b) :
    Calls Try.prog 55 #[.pointer (some ⟨g, 0, none⟩), .agg (nums .u64 b).toArray] w fun e w' => e = .returned (.agg (nums .u64 (takeS a r b)).toArray) ∧ Below w.heap.size w w' := by
  have HLA := Aside0.mk hla
  have HLR := Aside0.mk hlr
  have HLB := Aside0.mk hlb
  have BA := Aside0.mk ba
  have BR := Aside0.mk br
  have BB := Aside0.mk bb
  have HRG := Aside0.mk hr
  have HAG := Aside0.mk ha
  clear hla hlr hlb ba br bb hr ha
  go_enter Try.func55, Try.ntmps55
  go_wp2_with fail
  generalize hW : (w.alloc _).alloc _ = W0
  have hX : Aside0 (Blk W0 w.heap.size 79 (nums .u64 (addT b a 0))) := ⟨by rw [← hW]; exact heap_alloc2_old _ _ _⟩
  have hY : Aside0 (Blk W0 (w.heap.size + 1) 79 (nums .u64 (List.replicate 5 0))) := ⟨by rw [← hW]; exact heap_alloc2_new _ _ _⟩
  have hB : Below w.heap.size w W0 := by rw [← hW]; exact ((Below.refl _ w).alloc (Nat.le_refl _) _).alloc (by simp) _
  clear hW
  go_loopw [6] (fun i wr => ∃ t : Nat, t ≤ 5 ∧ i = .int .i64 t ∧ Aside0 (Blk wr w.heap.size 79 (nums .u64 (addT b a t))) ∧ Aside0 (Blk wr (w.heap.size + 1) 79 (nums .u64 (List.replicate 5 0))) ∧ Below w.heap.size w wr) (fun i _ => 5 - (intOf i).toNat)
  case atStart => exact ⟨0, by omega, rfl, hX, hY, hB⟩
  case round =>
    clear hX hY hB
    obtain ⟨t, ht, rfl, hX, hY, hB⟩ := hrel
    by_cases hlt : t < 5
    · have hlt' : (t : Int) < 5 := by omega
      have kx := blk_u64 hX.out t (by rw [addT_length, HLB.out]; exact hlt)
      have fx := Blk.frozen hX.out t
      have ka := range_num (range_under HAG.out hB hg) t (by rw [HLA.out]; exact hlt)
      have hx := addT_bd HLB.out BA.out BB.out t t
      have hy := BA.out t
      have hnx : Aside0 (addT b a (t + 1) = (addT b a t).set t ((addT b a t).getD t 0 + a.getD t 0)) := ⟨rfl⟩
      generalize (addT b a t).getD t 0 = x at *
      generalize a.getD t 0 = y at *
      have e1 : (x + y) % 18446744073709551616 = x + y := by omega
      go_wp2_with fail
      go_region
      have R1 : Aside0 (Blk (wr.setCell ⟨w.heap.size, t, none⟩ (.int .u64 (x + y))).drew w.heap.size 79 (nums .u64 (addT b a (t + 1)))) := ⟨by rw [hnx.out]; exact CiC.blk_put hX.out t _⟩
      have R2 : Aside0 (Blk (wr.setCell ⟨w.heap.size, t, none⟩ (.int .u64 (x + y))).drew (w.heap.size + 1) 79 (nums .u64 (List.replicate 5 0))) := ⟨Blk.far hY.out (p := ⟨w.heap.size, t, none⟩) (by simp) _⟩
      go_wp2_with fail
      go_roundw
      case rel => exact ⟨t + 1, by omega, by go_num, R1, R2, (hB.setCell (p := ⟨w.heap.size, t, none⟩) (Nat.le_refl _) _).drew⟩
      case measure => simp [intOf]; omega
    · have hge : ¬ (t : Int) < 5 := by omega
      obtain rfl : t = 5 := by omega
      have hls : Aside0 ((addT b a 5).length = 5) := ⟨by rw [addT_length]; exact HLB.out⟩
      have hbs := Aside0.mk (addT_bd HLB.out BA.out BB.out 5)
      have htk : Aside0 (takeS a r b = timesS (addT b a 5) r) := ⟨rfl⟩
      obtain ⟨D, HD⟩ : ∃ D, Aside0 (addT b a 5 = D) := ⟨_, ⟨rfl⟩⟩
      rw [HD.out] at hls hbs htk hX
      have hRg := range_under HRG.out hB hg
      have hXg := range_blk hX.out
      have hu79 := Try.underlying79
      have hi1 : (Try.prog.info? 79).map (·.size) = some (nums .u64 D).length := by rw [nums_length, hls.out]; exact size79
      have hi2 : (Try.prog.info? 79).map (·.size) = some (nums .u64 r).length := by rw [nums_length, HLR.out]; exact size79
      have HI1 := Aside0.mk hi1
      have HI2 := Aside0.mk hi2
      clear hi1 hi2
      go_wp2_with fail
      refine wp_region_held_drew (S := fun w' => w'.rangeAt w.heap.size 0 (nums .u64 D) ∧ w'.rangeAt g 0 (nums .u64 r)) (by kernel_rfl) ?_ (fun hHeld => ?_)
      · exact ⟨hXg, hRg⟩
      refine wpAnyH_take (i := 0) (List.getElem?_toArray.trans rfl) (by kernel_rfl) (by kernel_rfl) (by kernel_rfl) (fun _ _ _ h => h) (yieldsIf_load_mid (by rfl) 79 (.tmp 3) rfl w.heap.size 0 rfl (nums .u64 D) _ (fun _ h => h.1) hu79 rfl HI1.out) (by assumption) ?_
      (try simp only [Act.put, List.setIfInBounds_toArray, List.set_cons_zero, List.set_cons_succ])
      refine wpAnyH_take (i := 1) (v := ?_) (List.getElem?_toArray.trans rfl) (by kernel_rfl) (by kernel_rfl) (by kernel_rfl) (fun _ _ _ h => h) (Or.inl ⟨by rfl, ?_⟩) (by assumption) ?_
      rotate_left
      · (intro w hSw; (try dsimp only at hSw); go_simp; try with_reducible rfl)
      (try simp only [Act.put, List.setIfInBounds_toArray, List.set_cons_zero, List.set_cons_succ])
      refine wpAnyH_take (i := 2) (v := ?_) (List.getElem?_toArray.trans rfl) (by kernel_rfl) (by kernel_rfl) (by kernel_rfl) (fun _ _ _ h => h) (Or.inl ⟨by rfl, ?_⟩) (by assumption) ?_
      rotate_left
      · (intro w hSw; (try dsimp only at hSw); go_simp; try with_reducible rfl)
      (try simp only [Act.put, List.setIfInBounds_toArray, List.set_cons_zero, List.set_cons_succ])
      refine wpAnyH_take (i := 3) (v := ?_) (List.getElem?_toArray.trans rfl) (by kernel_rfl) (by kernel_rfl) (by kernel_rfl) (fun _ _ _ h => h) (Or.inl ⟨by rfl, ?_⟩) (by assumption) ?_
      rotate_left
      · (intro w hSw; (try dsimp only at hSw); go_simp; try with_reducible rfl)
      (try simp only [Act.put, List.setIfInBounds_toArray, List.set_cons_zero, List.set_cons_succ])
      refine wpAnyH_take (i := 4) (List.getElem?_toArray.trans rfl) (by kernel_rfl) (by kernel_rfl) (by kernel_rfl) (fun _ _ _ h => h) (yieldsIf_load_mid (by rfl) 79 (.tmp 24) rfl g 0 rfl (nums .u64 r) _ (fun _ h => h.2) hu79 rfl HI2.out) (by assumption) ?_
      (try simp only [Act.put, List.setIfInBounds_toArray, List.set_cons_zero, List.set_cons_succ])
      refine wpAnyH_ready (rs := [5]) (by kernel_rfl) (by simp) (AllReadyH.cons (List.getElem?_toArray.trans rfl) (fun Kx hKx => ?_) AllReadyH.nil)
      go_simp
      refine (times_c hls.out HLR.out hbs.out BR.out).mono ?_
      rintro x w2 ⟨rfl, hb2⟩
      have hcl : Aside0 ((timesS D r).length = 5) := ⟨by simp [timesS, carS, top5, cst_length, tst_length]⟩
      obtain ⟨S, HS⟩ : ∃ S, Aside0 (timesS D r = S) := ⟨_, ⟨rfl⟩⟩
      rw [HS.out] at hcl htk ⊢
      have HY2 := Aside0.mk (Blk.below (w := wr.drew) hY.out hb2)
      have HB2 := Aside0.mk (below_next hB.drew hb2)
      have hX2 : w2.rangeAt w.heap.size 0 (nums .u64 D) ∧ w2.rangeAt g 0 (nums .u64 r) := ⟨range_blk (Blk.below (w := wr.drew) hX.out hb2), range_under HRG.out HB2.out hg⟩
      go_wp2_with fail
      refine hKx.out _ _ ?_ (fun hHeld => ?_)
      · exact hX2
      clear hKx Kx
      (try simp only [Act.put, List.setIfInBounds_toArray, List.set_cons_zero, List.set_cons_succ])
      refine wpAnyH_ready (rs := [6]) (by kernel_rfl) (by simp) (AllReadyH.cons (List.getElem?_toArray.trans rfl) (fun Kx hKx => ?_) AllReadyH.nil)
      rw [if_pos (by rfl)]
      refine wp_store_row 79 (.tmp 4) (.tmp 26) rfl (w.heap.size + 1) (nums .u64 S).toArray rfl rfl 79 (nums .u64 (List.replicate 5 0)).toArray HY2.out (by rw [size_nums, hcl.out]; exact size79) (by rw [size_nums, size_nums, hcl.out]; rfl) (all_nums _ _) ?_
      have hZ : Blk (w2.setRow (w.heap.size + 1) (nums .u64 S).toArray) (w.heap.size + 1) 79 (nums .u64 S) := setRow_heap w2 (w.heap.size + 1) _ _ 79 _ HY2.out
      have hgr : w2.grownBy (w2.setRow (w.heap.size + 1) (nums .u64 S).toArray) (some (w.heap.size + 1)) := ⟨rfl, rfl, rfl, by simp [World.setRow], fun j hj hne => setRow_other w2 (w.heap.size + 1) j _ (fun e => hne (by rw [e]))⟩
      generalize w2.setRow (w.heap.size + 1) (nums .u64 S).toArray = w3 at hZ hgr ⊢
      have hbu : Below (w.heap.size + 1) w2 w3 := (Below.refl _ _).grown hgr (Nat.le_of_lt (Blk.lt HY2.out)) (fun k hk => by cases hk; exact Nat.le_refl _)
      have HZ := Aside0.mk hZ
      have HB3 := Aside0.mk (HB2.out.grown hgr HB2.out.size (fun k hk => by cases hk; omega))
      have hX3 : w3.rangeAt w.heap.size 0 (nums .u64 D) ∧ w3.rangeAt g 0 (nums .u64 r) := ⟨range_under hX2.1 hbu (by omega), range_under hX2.2 hbu (by omega)⟩
      refine hKx.out _ _ ?_ (fun hHeld => ?_)
      · exact hX3
      clear hKx Kx
      (try simp only [Act.put, List.setIfInBounds_toArray, List.set_cons_zero, List.set_cons_succ])
      refine wpAnyH_done (by kernel_rfl) ?_ _
      go_wp2_with fail
      refine bodyPost_ret (v := .agg (nums .u64 S).toArray) ?_ rfl ⟨by rw [htk.out], HB3.out⟩
      exact results_arr (p := 4) (ty := 79) rfl _ w3 (w.heap.size + 1) 79 5 36 .u64 S rfl HZ.out Try.underlying79 size79 hcl.out
end Go.Proofs.Ytkjmjgiklelpiaa.OtK
/- onetime.New: what it lays. -/
namespace Go.Proofs.Ytkjmjgiklelpiaa.OtN
open Go.RowKit Go.Proofs.YtkjmjgiklelpiaaW.PrintWords Go.Proofs.Ytkjmjgiklelpiaa.Num Go.Proofs.Ytkjmjgiklelpiaa.WordC Go.Proofs.Ytkjmjgiklelpiaa.Arr Go.Proofs.Ytkjmjgiklelpiaa.App Go.Proofs.Ytkjmjgiklelpiaa.CiC Go.Proofs.Ytkjmjgiklelpiaa.CiD Go.Proofs.Ytkjmjgiklelpiaa.OtC Go.Proofs.Ytkjmjgiklelpiaa.OtR Go.Proofs.Ytkjmjgiklelpiaa.OtL Go.Proofs.Ytkjmjgiklelpiaa.OtM Go.Proofs.Ytkjmjgiklelpiaa.OtT Go.Proofs.Ytkjmjgiklelpiaa.OtV Go.Proofs.Ytkjmjgiklelpiaa.OtK
set_option linter.unusedVariables false
set_option linter.unusedSimpArgs false

theorem copy_top {P : Program} {ops : Array Oper} {rest : List Oper} {o : Oper} {a : Act} {w : World} {Q : Exit → Act → World → Prop} (hgd : o.guard = none) (d s : Operand) (dT sT : TypeId)
    (ho : o.op = .call { callee := .builtin .copy, args := #[d, s], argTypes := #[dT, sT] }) (elem : TypeId) (hu : P.underlying dT = some (.slice elem)) (hsz : (P.info? elem).map (·.size) = some 1)
    (g dLen dCap : Nat) (sp : Option Addr) (sLen sCap : Nat) (hd : a.eval d = .slice (some ⟨g, 0, none⟩) dLen dCap) (hs : a.eval s = .slice sp sLen sCap)
    (cur : List Value) (t : Nat) (hg : Blk w g t cur) (l : List Int) (hr : Rd w sp sLen sCap l) (hn : dLen ≤ sLen) (hp : 0 < dLen) (hc : cur.length = dLen)
    (h : ∀ w', Blk w' g t (nums .u8 (l.take dLen)) → w.grownBy w' (some g) → wpList P ops Q rest (a.put o.dst (.int .i64 dLen)) w') : wpList P ops Q (o :: rest) a w :=
  wpList_plain hgd fun _ hK => by
    have hl := hr.len
    obtain ⟨ad, rfl, hsrc⟩ := rd_cells hr (by omega)
    have hlen : (nums .u8 (l.take dLen)).length = dLen := by rw [nums_length, List.length_take]; omega
    have hrun := run_copy_row (P := P) w dT sT o.type elem g 0 dLen dCap ad sLen sCap cur.toArray t (nums .u8 (l.take dLen)) hu hsz hg (by rw [hlen]; exact (Nat.min_eq_right hn).symm)
      (fun j v hj => hsrc j v (by
        have hj1 : j < dLen := by have := (List.getElem?_eq_some_iff.1 hj).1; omega
        rw [← hj]; simp [nums, List.getElem?_take, hj1])) (by simpa [hlen] using (by omega : dLen ≤ cur.length)) (nums_one _ _)
    unfold Oper.wp
    simp [execOp, ho, resolve, invoke, builtin, hd, hs, hrun, Result.andThen]
    have h1 := h (w.setRow g (nums .u8 (l.take dLen)).toArray) (setRow_heap w g _ _ t _ hg) ⟨rfl, rfl, rfl, by simp [World.setRow], fun k hk hne => setRow_other w g k _ (fun e => hne (by rw [e]))⟩
    rw [hlen, List.drop_of_length_le (by omega), List.append_nil]
    exact hK _ _ h1
theorem and15 (x : Int) (h0 : 0 ≤ x) (h1 : x < 256) : Go.bits .and .u8 x 15 = x % 16 := by
  obtain ⟨X, rfl⟩ := Int.eq_ofNat_of_zero_le h0
  have h : ∀ x : Fin 256, Go.bits .and .u8 (x.1 : Int) 15 = (x.1 : Int) % 16 := by decide +kernel
  exact h ⟨X, by omega⟩
theorem and252 (x : Int) (h0 : 0 ≤ x) (h1 : x < 256) : Go.bits .and .u8 x 252 = x - x % 4 := by
  obtain ⟨X, rfl⟩ := Int.eq_ofNat_of_zero_le h0
  have h : ∀ x : Fin 256, Go.bits .and .u8 (x.1 : Int) 252 = (x.1 : Int) - (x.1 : Int) % 4 := by decide +kernel
  exact h ⟨X, by omega⟩
/-- The key's first half, cut. -/
def cutA (b : List Int) : Nat → List Int
  | 0 => b
  | t + 1 => (cutA b t).set (3 + 4 * t) ((cutA b t).getD (3 + 4 * t) 0 % 16)
def cutB (b : List Int) : Nat → List Int
  | 0 => b
  | t + 1 => (cutB b t).set (4 + 4 * t) ((cutB b t).getD (4 + 4 * t) 0 - (cutB b t).getD (4 + 4 * t) 0 % 4)
def cutS (b : List Int) : List Int := cutB (cutA b 4) 3
theorem cutA_length (b : List Int) (t : Nat) : (cutA b t).length = b.length := by
  induction t with
  | zero => rfl
  | succ t ih => simp [cutA, ih]
theorem cutB_length (b : List Int) (t : Nat) : (cutB b t).length = b.length := by
  induction t with
  | zero => rfl
  | succ t ih => simp [cutB, ih]
theorem getD_isB {l : List Int} (h : IsB l) (i : Nat) : 0 ≤ l.getD i 0 ∧ l.getD i 0 < 256 := by
  rw [List.getD_eq_getElem?_getD]
  by_cases hi : i < l.length
  · rw [List.getElem?_eq_getElem hi]; exact h _ (List.getElem_mem hi)
  · rw [List.getElem?_eq_none (by omega)]; exact ⟨Int.le_refl _, by decide⟩
theorem set_isB {l : List Int} (h : IsB l) (i : Nat) {x : Int} (h0 : 0 ≤ x) (h1 : x < 256) : IsB (l.set i x) := by
  intro y hy
  rcases List.mem_or_eq_of_mem_set hy with hy | rfl
  · exact h y hy
  · exact ⟨h0, h1⟩
theorem cutA_isB {b : List Int} (h : IsB b) (t : Nat) : IsB (cutA b t) := by
  induction t with
  | zero => exact h
  | succ t ih =>
    have := getD_isB ih (3 + 4 * t)
    exact set_isB ih _ (by omega) (by omega)
theorem cutB_isB {b : List Int} (h : IsB b) (t : Nat) : IsB (cutB b t) := by
  induction t with
  | zero => exact h
  | succ t ih =>
    have := getD_isB ih (4 + 4 * t)
    exact set_isB ih _ (by omega) (by omega)
end Go.Proofs.Ytkjmjgiklelpiaa.OtN
/- onetime.New, walked. -/
namespace Go.Proofs.Ytkjmjgiklelpiaa.OtO
open Go.RowKit Go.Proofs.YtkjmjgiklelpiaaW.PrintWords Go.Proofs.Ytkjmjgiklelpiaa.Num Go.Proofs.Ytkjmjgiklelpiaa.WordC Go.Proofs.Ytkjmjgiklelpiaa.Arr Go.Proofs.Ytkjmjgiklelpiaa.App Go.Proofs.Ytkjmjgiklelpiaa.CiC Go.Proofs.Ytkjmjgiklelpiaa.CiD Go.Proofs.Ytkjmjgiklelpiaa.OtC Go.Proofs.Ytkjmjgiklelpiaa.OtR Go.Proofs.Ytkjmjgiklelpiaa.OtL Go.Proofs.Ytkjmjgiklelpiaa.OtM Go.Proofs.Ytkjmjgiklelpiaa.OtT Go.Proofs.Ytkjmjgiklelpiaa.OtV Go.Proofs.Ytkjmjgiklelpiaa.OtK Go.Proofs.Ytkjmjgiklelpiaa.OtN
set_option linter.unusedVariables false
set_option linter.unusedSimpArgs false

/-- An Adder's cells: r, what was added, s, what is left over. -/
def adr (r a s : List Int) (v : Value) : List Value := nums .u64 r ++ nums .u64 a ++ nums .u64 s ++ [v]
theorem adr_get_s {r a s : List Int} {v : Value} (hr : r.length = 5) (ha : a.length = 5) (i : Nat) (hi : i < s.length) : (adr r a s v)[10 + i]? = some (.int .u64 (s.getD i 0)) := by
  unfold adr
  rw [List.getElem?_append_left (by simp [nums_length, hr, ha]; omega), List.getElem?_append_right (by simp [nums_length, hr, ha]), List.length_append, nums_length, nums_length, hr, ha, show 10 + i - (5 + 5) = i by omega]
  exact nums_get .u64 s i hi
theorem adr_set_s {r a s : List Int} {v : Value} (hr : r.length = 5) (ha : a.length = 5) (i : Nat) (hi : i < s.length) (x : Int) : (adr r a s v).set (10 + i) (.int .u64 x) = adr r a (s.set i x) v := by
  unfold adr
  rw [List.set_append_left _ _ (by simp [nums_length, hr, ha]; omega), List.set_append_right _ _ (by simp [nums_length, hr, ha]), List.length_append, nums_length, nums_length, hr, ha, show 10 + i - (5 + 5) = i by omega, nums_set]
def sT (l : List Int) (t : Nat) : List Int := l.take t ++ List.replicate (4 - t) 0
theorem sT_length (l : List Int) (hl : l.length = 4) (t : Nat) (ht : t ≤ 4) : (sT l t).length = 4 := by simp [sT, hl]; omega
theorem sT_next (l : List Int) (hl : l.length = 4) (t : Nat) (ht : t < 4) : (sT l t).set t (l.getD t 0) = sT l (t + 1) := by
  match l, hl with
  | [a, b, c, d], _ =>
    have h : t = 0 ∨ t = 1 ∨ t = 2 ∨ t = 3 := by omega
    rcases h with rfl | rfl | rfl | rfl <;> rfl
set_option maxHeartbeats 8000000 in
set_option maxRecDepth 100000 in
theorem New_c {A : Option Addr} {c : Nat} {k : List Int} {w : World} (hk : Rd w A 32 c k) (bk : IsB k) :
    Calls Try.prog 29 #[.slice A 32 c] w fun e w' => ∃ g, e = .returned (.tuple #[.pointer (some ⟨g, 0, none⟩), .int .i64 0]) ∧ w.heap.size ≤ g ∧ Blk w' g 83 (nums .u64 (readS (cutS (k.take 16)) 0) ++ nums .u64 [0, 0, 0, 0, 0] ++ nums .u64 (ws (k.drop 16)) ++ [.slice none 0 0]) ∧ Below w.heap.size w w' := by
  have hmk : ∀ W : World, (Instr.makeSlice 22 (.int .i64 16) (.int .i64 16)).run Try.prog W = .ok (.slice (some ⟨W.heap.size, 0, none⟩) 16 16) (W.alloc (.cells (nums .u8 (List.replicate 16 0)).toArray 5)) := by
    intro W
    have h := print_make (P := Try.prog) 22 5 .u8 1 Try.underlying22 infoB (by omega) 16 (by omega) W
    have e : madeCells #[.int .u8 0] 16 = (nums .u8 (List.replicate 16 0)).toArray := by kernel_rfl
    rw [e] at h; exact h
  have HK := Aside0.mk hk
  have HMK := Aside0.mk hmk
  have hl : k.length = 32 := hk.len
  have HL := Aside0.mk hl
  clear hk hl
  have hX0 : Aside0 (Blk (w.alloc (.cells (nums .u8 (List.replicate 16 0)).toArray 5)) w.heap.size 5 (nums .u8 (List.replicate 16 0))) := ⟨heap_alloc_new _ _⟩
  have hB0 := Aside0.mk ((Below.refl w.heap.size w).alloc (Nat.le_refl _) (.cells (nums .u8 (List.replicate 16 0)).toArray 5))
  have hK0 := Aside0.mk (HK.out.alloc (.cells (nums .u8 (List.replicate 16 0)).toArray 5))
  go_enter Try.func29, Try.ntmps29
  go_wp2_with (first
    | (refine copy_top rfl (.tmp 15) (.tmp 16) 22 22 rfl 5 Try.underlying22 sizeU8 w.heap.size 16 16 A 32 c rfl rfl (nums .u8 (List.replicate 16 0)) 5 hX0.out k hK0.out (by omega) (by omega) (by rw [nums_length]; rfl) ?_; intro w1 hX1 hg1
       have HX1 := Aside0.mk hX1
       have HB1 := Aside0.mk (hB0.out.grown hg1 hB0.out.size (fun k hk => by cases hk; exact Nat.le_refl _))
       clear hX1 hg1))
  have hk16 : IsB (k.take 16) := fun x hx => bk x (List.mem_of_mem_take hx)
  have hl16 : Aside0 ((k.take 16).length = 16) := ⟨by rw [List.length_take, HL.out]; rfl⟩
  have HK16 := Aside0.mk hk16
  have hcut : Aside0 (cutS (k.take 16) = cutB (cutA (k.take 16) 4) 3) := ⟨rfl⟩
  clear hk16
  obtain ⟨b, HBB⟩ : ∃ b, Aside0 (k.take 16 = b) := ⟨_, ⟨rfl⟩⟩
  rw [HBB.out] at hl16 HK16 hcut HX1
  go_loopw [5] (fun i wr => ∃ t : Nat, t ≤ 4 ∧ i = .int .i64 (3 + 4 * (t : Int)) ∧ Aside0 (Blk wr w.heap.size 5 (nums .u8 (cutA b t))) ∧ Below w.heap.size w wr) (fun i _ => 20 - (intOf i).toNat)
  case atStart => exact ⟨0, by omega, rfl, HX1, HB1.out⟩
  case round =>
    clear HX1 HB1
    obtain ⟨t, ht, rfl, hX, hB⟩ := hrel
    by_cases hlt : t < 4
    · have hlt' : 3 + 4 * (t : Int) < 16 := by omega
      have n0 : 0 ≤ 3 + 4 * (t : Int) := by omega
      have n1 : (3 + 4 * (t : Int)).toNat = 3 + 4 * t := by omega
      have kx := blk_num hX.out (3 + 4 * t) (by rw [cutA_length, hl16.out]; omega)
      have fx := Blk.frozen hX.out (3 + 4 * t)
      have hx := getD_isB (cutA_isB HK16.out t) (3 + 4 * t)
      have hnx : Aside0 (cutA b (t + 1) = (cutA b t).set (3 + 4 * t) ((cutA b t).getD (3 + 4 * t) 0 % 16)) := ⟨rfl⟩
      generalize (cutA b t).getD (3 + 4 * t) 0 = x at *
      have e1 := and15 x hx.1 hx.2
      go_wp2_with fail
      have R1 : Aside0 (Blk (wr.setCell ⟨w.heap.size, 3 + 4 * t, none⟩ (.int .u8 (x % 16))) w.heap.size 5 (nums .u8 (cutA b (t + 1)))) := ⟨by rw [hnx.out]; exact CiC.blk_put hX.out _ _⟩
      go_roundw
      case rel => exact ⟨t + 1, by omega, by go_num, R1, hB.setCell (p := ⟨w.heap.size, 3 + 4 * t, none⟩) (Nat.le_refl _) _⟩
      case measure => simp [intOf]; omega
    · have hge : ¬ 3 + 4 * (t : Int) < 16 := by omega
      obtain rfl : t = 4 := by omega
      obtain ⟨b1, HB1⟩ : ∃ z, Aside0 (cutA b 4 = z) := ⟨_, ⟨rfl⟩⟩
      have hl1 : Aside0 ((cutA b 4).length = 16) := ⟨by rw [cutA_length]; exact hl16.out⟩
      have HI1 := Aside0.mk (cutA_isB HK16.out 4)
      rw [HB1.out] at hl1 HI1 hcut hX
      go_wp2_with fail
      go_loopw [6] (fun i wr => ∃ t : Nat, t ≤ 3 ∧ i = .int .i64 (4 + 4 * (t : Int)) ∧ Aside0 (Blk wr w.heap.size 5 (nums .u8 (cutB b1 t))) ∧ Below w.heap.size w wr) (fun i _ => 20 - (intOf i).toNat)
      case atStart => exact ⟨0, by omega, rfl, hX, hB⟩
      case round =>
        clear hX hB
        obtain ⟨t, ht, rfl, hX, hB⟩ := hrel
        by_cases hlt : t < 3
        · have hlt' : 4 + 4 * (t : Int) < 16 := by omega
          have n0 : 0 ≤ 4 + 4 * (t : Int) := by omega
          have n1 : (4 + 4 * (t : Int)).toNat = 4 + 4 * t := by omega
          have kx := blk_num hX.out (4 + 4 * t) (by rw [cutB_length, hl1.out]; omega)
          have fx := Blk.frozen hX.out (4 + 4 * t)
          have hx := getD_isB (cutB_isB HI1.out t) (4 + 4 * t)
          have hnx : Aside0 (cutB b1 (t + 1) = (cutB b1 t).set (4 + 4 * t) ((cutB b1 t).getD (4 + 4 * t) 0 - (cutB b1 t).getD (4 + 4 * t) 0 % 4)) := ⟨rfl⟩
          generalize (cutB b1 t).getD (4 + 4 * t) 0 = x at *
          have e1 := and252 x hx.1 hx.2
          go_wp2_with fail
          have R1 : Aside0 (Blk (wr.setCell ⟨w.heap.size, 4 + 4 * t, none⟩ (.int .u8 (x - x % 4))) w.heap.size 5 (nums .u8 (cutB b1 (t + 1)))) := ⟨by rw [hnx.out]; exact CiC.blk_put hX.out _ _⟩
          go_roundw
          case rel => exact ⟨t + 1, by omega, by go_num, R1, hB.setCell (p := ⟨w.heap.size, 4 + 4 * t, none⟩) (Nat.le_refl _) _⟩
          case measure => simp [intOf]; omega
        · have hge : ¬ 4 + 4 * (t : Int) < 16 := by omega
          obtain rfl : t = 3 := by omega
          have hl2 : (cutB b1 3).length = 16 := by rw [cutB_length]; exact hl1.out
          have hi2 := cutB_isB HI1.out 3
          rw [← hcut.out] at hX hl2 hi2
          obtain ⟨C, HC⟩ : ∃ z, Aside0 (cutS b = z) := ⟨_, ⟨rfl⟩⟩
          rw [HC.out] at hX hl2 hi2
          have hR : Rd wr (some ⟨w.heap.size, 0, none⟩) 16 16 C := by
            have h1 := rd_of_blk hX.out 0 C 16 (by omega) (by omega) (fun j hj => by rw [Nat.zero_add]; exact nums_get .u8 C j hj)
            rwa [hl2] at h1
          have HR := Aside0.mk hR
          have HI2 := Aside0.mk hi2
          clear hl2 hi2 hR
          go_wp2_with fail
          refine (read_c HR.out (by omega) HI2.out (.inl rfl)).mono ?_
          rintro x w2 ⟨rfl, hb2⟩
          have hB2 := below_next hB hb2
          have HB2 := Aside0.mk hB2
          have HK2 := Aside0.mk (HK.out.below hB2)
          clear hB2 hb2 hX
          obtain ⟨R, HRR⟩ : ∃ R, Aside0 (readS C 0 = R) := ⟨_, ⟨rfl⟩⟩
          have hrl : R.length = 5 := by rw [← HRR.out]; simp [readS, rdT_length]
          rw [HRR.out]
          obtain ⟨r0, r1, r2, r3, r4, HRE⟩ : ∃ r0 r1 r2 r3 r4, Aside0 (R = [r0, r1, r2, r3, r4]) := by
            match R, hrl with
            | [r0, r1, r2, r3, r4], _ => exact ⟨r0, r1, r2, r3, r4, ⟨rfl⟩⟩
          rw [HRE.out, show (nums .u64 [r0, r1, r2, r3, r4]).toArray = #[.int .u64 r0, .int .u64 r1, .int .u64 r2, .int .u64 r3, .int .u64 r4] from rfl]
          clear hrl
          go_wp2_with fail
          have hws : (ws (k.drop 16)).length = 4 := ws_length 4 _ (by rw [List.length_drop, HL.out])
          have HWS := Aside0.mk hws
          clear hws
          have hG : Aside0 (Blk (w2.alloc (.cells #[.int .u64 r0, .int .u64 r1, .int .u64 r2, .int .u64 r3, .int .u64 r4, .int .u64 0, .int .u64 0, .int .u64 0, .int .u64 0, .int .u64 0, .int .u64 0, .int .u64 0, .int .u64 0, .int .u64 0, .slice none 0 0] 83)) w2.heap.size 83 (adr [r0, r1, r2, r3, r4] [0, 0, 0, 0, 0] (sT (ws (k.drop 16)) 0) (.slice none 0 0))) := ⟨heap_alloc_new _ _⟩
          have hB3 := HB2.out.alloc HB2.out.size (.cells #[.int .u64 r0, .int .u64 r1, .int .u64 r2, .int .u64 r3, .int .u64 r4, .int .u64 0, .int .u64 0, .int .u64 0, .int .u64 0, .int .u64 0, .int .u64 0, .int .u64 0, .int .u64 0, .int .u64 0, .slice none 0 0] 83)
          have hsz := HB2.out.size
          generalize hW3 : w2.alloc _ = w3 at hG hB3 ⊢
          clear hW3
          generalize w2.heap.size = G at *
          go_loopw [42] (fun i wr => ∃ t : Nat, t ≤ 4 ∧ i = .int .i64 t ∧ Aside0 (Blk wr G 83 (adr [r0, r1, r2, r3, r4] [0, 0, 0, 0, 0] (sT (ws (k.drop 16)) t) (.slice none 0 0))) ∧ Below w.heap.size w wr) (fun i _ => 4 - (intOf i).toNat)
          case atStart => exact ⟨0, by omega, rfl, hG, hB3⟩
          case round =>
            clear hG hB3
            obtain ⟨t, ht, rfl, hG, hB⟩ := hrel
            by_cases hlt : t < 4
            · have hlt' : (t : Int) < 4 := by omega
              obtain ⟨A', c', hcut2, hrd⟩ := rd_slice (HK.out.below hB) (16 + 4 * t) (20 + 4 * t) (x := 16 + 4 * (t : Int)) (y := 20 + 4 * (t : Int)) (by omega) (by omega) (by omega) (by omega)
              rw [show 20 + 4 * t - (16 + 4 * t) = 4 by omega] at hcut2 hrd
              have hI : IsB ((k.take (20 + 4 * t)).drop (16 + 4 * t)) := fun x hx => bk x (List.mem_of_mem_take (List.mem_of_mem_drop hx))
              have hwg : (loadW ((k.take (20 + 4 * t)).drop (16 + 4 * t)) true).1 = (ws (k.drop 16)).getD t 0 := by
                have h1 := ws_get (k.drop 16) 4 (by rw [List.length_drop, HL.out]) t hlt
                rw [List.getD_eq_getElem?_getD, h1, Option.getD_some, List.take_drop, List.drop_drop, show 16 + (4 * t + 4) = 20 + 4 * t by omega]
              have hlr := load_range hI true
              go_wp2_with fail
              refine (Load_c hrd hI true).mono ?_
              rintro x w5 ⟨rfl, ⟨n5, rfl⟩⟩
              have hnx := sT_next (ws (k.drop 16)) HWS.out t hlt
              rw [← hwg] at hnx
              generalize (loadW ((k.take (20 + 4 * t)).drop (16 + 4 * t)) true).1 = x at *
              have e1 : x % 18446744073709551616 = x := by omega
              have k0 : wr.cell? ⟨G, 10 + t, none⟩ = some (.int .u64 ((sT (ws (k.drop 16)) t).getD t 0)) := (Blk.cell hG.out (10 + t)).trans (adr_get_s rfl rfl t (by rw [sT_length _ HWS.out t ht]; exact hlt))
              have f0 := Blk.frozen hG.out (10 + t)
              have HNX := Aside0.mk hnx
              clear hnx hwg
              go_wp2_with fail
              have R1 : Aside0 (Blk ((wr.drewN n5).setCell ⟨G, 10 + t, none⟩ (.int .u64 x)) G 83 (adr [r0, r1, r2, r3, r4] [0, 0, 0, 0, 0] (sT (ws (k.drop 16)) (t + 1)) (.slice none 0 0))) := ⟨by
                have h1 := Blk.set_ (w := wr.drewN n5) hG.out (10 + t) (.int .u64 x)
                rw [adr_set_s rfl rfl t (by rw [sT_length _ HWS.out t ht]; exact hlt), HNX.out] at h1
                exact h1⟩
              go_roundw
              case rel => exact ⟨t + 1, by omega, by go_num, R1, (pw_below_drewN hB _).setCell (p := ⟨G, 10 + t, none⟩) hsz _⟩
              case measure => simp [intOf]; omega
            · have hge : ¬ (t : Int) < 4 := by omega
              obtain rfl : t = 4 := by omega
              have hfin : Blk wr G 83 (nums .u64 (readS (cutS b) 0) ++ nums .u64 [0, 0, 0, 0, 0] ++ nums .u64 (ws (k.drop 16)) ++ [.slice none 0 0]) := by
                have h1 := hG.out
                have h2 : sT (ws (k.drop 16)) 4 = ws (k.drop 16) := by unfold sT; rw [List.take_of_length_le (by rw [HWS.out]; omega)]; simp
                rw [h2] at h1
                rw [HC.out, HRR.out, HRE.out]
                exact h1
              have HF := Aside0.mk hfin
              clear hfin
              go_wp2_with fail
              go_ret2
              rw [HBB.out]
              exact ⟨G, rfl, hsz, HF.out, hB⟩
theorem New_no {A : Option Addr} {n c : Nat} {w : World} (h : n ≠ 32) : Calls Try.prog 29 #[.slice A n c] w fun e w' => e = .returned (.tuple #[.pointer none, .int .i64 1]) ∧ w' = w := by
  have h2 : ((n : Int) != 32) = true := by rw [bne_iff_ne]; omega
  go_enter Try.func29, Try.ntmps29
  go_wp2_with fail
  go_ret2
  exact ⟨rfl, rfl⟩
theorem Add_nil {A : Option Addr} {n c : Nat} {w : World} : Calls Try.prog 30 #[.pointer none, .slice A n c] w fun e w' => e = .returned (.tuple #[]) ∧ w' = w := by
  go_enter Try.func30, Try.ntmps30
  go_wp2_with fail
  exact bodyPost_ret (v := .tuple #[]) (by simp [results, Try.results30, go_sem]) rfl ⟨rfl, rfl⟩
theorem Tag_nil {w : World} : Calls Try.prog 31 #[.pointer none] w fun e w' => e = .returned (.slice none 0 0) ∧ w' = w := by
  go_enter Try.func31, Try.ntmps31
  go_wp2_with fail
  go_ret
  exact ⟨rfl, rfl⟩
end Go.Proofs.Ytkjmjgiklelpiaa.OtO
/- Adder.Tag, walked. -/
namespace Go.Proofs.Ytkjmjgiklelpiaa.OtP
open Go.RowKit Go.Proofs.YtkjmjgiklelpiaaW.PrintWords Go.Proofs.Ytkjmjgiklelpiaa.Num Go.Proofs.Ytkjmjgiklelpiaa.WordC Go.Proofs.Ytkjmjgiklelpiaa.Arr Go.Proofs.Ytkjmjgiklelpiaa.App Go.Proofs.Ytkjmjgiklelpiaa.CiC Go.Proofs.Ytkjmjgiklelpiaa.CiD Go.Proofs.Ytkjmjgiklelpiaa.OtC Go.Proofs.Ytkjmjgiklelpiaa.OtR Go.Proofs.Ytkjmjgiklelpiaa.OtL Go.Proofs.Ytkjmjgiklelpiaa.OtM Go.Proofs.Ytkjmjgiklelpiaa.OtT Go.Proofs.Ytkjmjgiklelpiaa.OtV Go.Proofs.Ytkjmjgiklelpiaa.OtK Go.Proofs.Ytkjmjgiklelpiaa.OtN Go.Proofs.Ytkjmjgiklelpiaa.OtO
set_option linter.unusedVariables false
set_option linter.unusedSimpArgs false

theorem or_sh (x y : Int) (k : Nat) (hk : k ≤ 64) (h0 : 0 ≤ x) (h1 : x < 2 ^ k) (h2 : 0 ≤ y) (h3 : y * 2 ^ k < 18446744073709551616) : Go.bits .or .u64 x (y * 2 ^ k) = x + y * 2 ^ k := by
  obtain ⟨X, rfl⟩ := Int.eq_ofNat_of_zero_le h0
  obtain ⟨Y, rfl⟩ := Int.eq_ofNat_of_zero_le h2
  have e : (Y : Int) * 2 ^ k = ((2 ^ k * Y : Nat) : Int) := by push_cast; rw [Int.mul_comm]
  rw [e] at h3 ⊢
  have hX : X < 2 ^ k := by exact_mod_cast h1
  have h := Nat.two_pow_add_eq_or_of_lt (i := k) (b := X) hX Y
  have hlt : 2 ^ k * Y < 18446744073709551616 := by
    generalize 2 ^ k * Y = Z at h3
    omega
  have hp : (2 : Nat) ^ k ≤ 18446744073709551616 := Nat.pow_le_pow_right (n := 2) (by omega) hk
  have hX2 : X < 18446744073709551616 := Nat.lt_of_lt_of_le hX hp
  rw [u64_or_nat X _ hX2 hlt, Nat.or_comm, ← h, Int.natCast_add, Int.add_comm]
/-- The four words of a number in limbs. -/
def wordsS (l : List Int) : List Int := [l.getD 0 0 + l.getD 1 0 * 67108864, l.getD 1 0 / 64 + l.getD 2 0 * 1048576, l.getD 2 0 / 4096 + l.getD 3 0 * 16384, l.getD 3 0 / 262144 + l.getD 4 0 * 256]
/-- The tag's bytes, word by word, and the carry. -/
def tgS (W s : List Int) : Nat → List Int × Int
  | 0 => ([], 0)
  | i + 1 => ((tgS W s i).1 ++ storeW (((tgS W s i).2 + (W.getD i 0 % 4294967296 + s.getD i 0)) % 4294967296) true, ((tgS W s i).2 + (W.getD i 0 % 4294967296 + s.getD i 0)) / 4294967296)
def tagS (a s : List Int) : List Int := (tgS (wordsS (leastS a)) s 4).1
theorem range_adr_a {w : World} {g : Nat} {r a s : List Int} {v : Value} (h : Blk w g 83 (adr r a s v)) (hr : r.length = 5) : w.rangeAt g 5 (nums .u64 a) := fun j u hj => by
  have hj1 : j < a.length := by have := (List.getElem?_eq_some_iff.1 hj).1; rwa [nums_length] at this
  rw [Blk.cell h]
  unfold adr
  rw [List.getElem?_append_left (by simp [nums_length, hr]; omega), List.getElem?_append_left (by simp [nums_length, hr]; omega), List.getElem?_append_right (by simp [nums_length, hr]), nums_length, hr, show 5 + j - 5 = j by omega]
  exact hj
theorem adr_tail {r a s : List Int} {v : Value} (hr : r.length = 5) (ha : a.length = 5) (hs : s.length = 4) : (adr r a s v)[14]? = some v := by
  unfold adr
  rw [List.getElem?_append_right (by simp [nums_length, hr, ha, hs])]
  simp [nums_length, hr, ha, hs]
theorem tgS_length (W s : List Int) (t : Nat) : (tgS W s t).1.length = 4 * t := by
  induction t with
  | zero => rfl
  | succ t ih => simp only [tgS]; rw [List.length_append, ih, storeW_length]; omega
theorem and32 (x : Int) (h0 : 0 ≤ x) (h1 : x < 18446744073709551616) : Go.bits .and .u64 x 4294967295 = x % 4294967296 := by
  rw [u64_and x 4294967295 h0 h1 (by decide) (by decide)]
  obtain ⟨X, rfl⟩ := Int.eq_ofNat_of_zero_le h0
  rw [Int.toNat_natCast, show (4294967295 : Int).toNat = 2 ^ 32 - 1 from rfl, Nat.and_two_pow_sub_one_eq_mod]; rfl
theorem infoU64 : (Try.prog.info? 36).map (·.size) = some 1 := by kernel_rfl
theorem index4 (l : List Int) (hl : l.length = 4) (t : Nat) (ht : t < 4) (w : World) : (Instr.index 81 (.agg (nums .u64 l).toArray) (.int .i64 t)).run Try.prog w = .ok (.int .u64 (l.getD t 0)) w := by
  obtain ⟨i, hi, hz⟩ := Option.map_eq_some_iff.1 infoU64
  have hn : (0 : Int) ≤ (t : Int) ∧ (t : Int) < 4 := by omega
  have hk := nums_get .u64 l t (by omega)
  have hg : (isAgg 36).run Try.prog w = .ok false w := by
    unfold isAgg
    rw [Sem.run_bind, run_underlying Try.underlying36]
    rfl
  simp [Instr.index, run_underlying Try.underlying81, asIntOf, hn, go_sem, Go.sizeOf, typeInfo, hi, hz, ht, hg, hk]
set_option maxHeartbeats 8000000 in
set_option maxRecDepth 100000 in
theorem Tag_0 {g c : Nat} {A : Option Addr} {r a s : List Int} {w : World} (hg : Blk w g 83 (adr r a s (.slice A 0 c))) (hr : r.length = 5) (ha : a.length = 5) (hs : s.length = 4) (hal : IsL a) (hsw : IsW s) :
    Calls Try.prog 31 #[.pointer (some ⟨g, 0, none⟩)] w fun e w' => ∃ v, e = .returned v ∧ Ow w' w.heap.size v (tagS a s) ∧ Below w.heap.size w w' := by
  have HG := Aside0.mk hg
  have HR := Aside0.mk hr
  have HA := Aside0.mk ha
  have HS := Aside0.mk hs
  have HAL := Aside0.mk hal
  have HSW := Aside0.mk hsw
  have hglt := Blk.lt hg
  have HRA := Aside0.mk (range_adr_a hg hr)
  have k14 : w.cell? ⟨g, 14, none⟩ = some (.slice A 0 c) := (Blk.cell hg 14).trans (adr_tail hr ha hs)
  have hi : Aside0 ((Try.prog.info? 79).map (·.size) = some (nums .u64 a).length) := ⟨by rw [nums_length, ha]; exact size79⟩
  clear hg hr ha hs hal hsw
  go_enter Try.func31, Try.ntmps31
  go_wp2_with (first
    | (refine wpList_load_mid rfl 79 (.tmp 14) rfl g 5 rfl (nums .u64 a) _ HRA.out Try.underlying79 rfl hi.out ?_)
    | (have HZ0 : Aside0 (Blk (w.alloc (.cells (nums .u64 (List.replicate 5 0)).toArray 79)) w.heap.size 79 (nums .u64 (List.replicate 5 0))) := ⟨heap_alloc_new _ _⟩
       have HB0 := Aside0.mk ((Below.refl w.heap.size w).alloc (Nat.le_refl _) (.cells (nums .u64 (List.replicate 5 0)).toArray 79))
       refine store_arr rfl 79 (.tmp 3) (.tmp 15) rfl w.heap.size .u64 a rfl rfl 79 5 _ HZ0.out size79 HA.out (by rw [nums_length]; rfl) ?_; intro w1 hX1 hg1
       have HX1 := Aside0.mk hX1
       have HB1 := Aside0.mk (HB0.out.grown hg1 HB0.out.size (fun k hk => by cases hk; exact Nat.le_refl _))
       have k14' : w1.cell? ⟨g, 14, none⟩ = some (.slice A 0 c) := (HB1.out.cell (p := ⟨g, 14, none⟩) hglt).trans k14
       clear hX1 hg1)
    | (refine load_arr rfl 79 (.tmp 3) rfl w.heap.size rfl 79 .u64 a 5 36 HX1.out Try.underlying79 size79 HA.out ?_))
  refine (least_c HA.out HAL.out).mono ?_
  rintro x w2 ⟨rfl, hb2⟩
  have hlv := (least_val HA.out HAL.out).1
  have htg : Aside0 (tagS a s = (tgS (wordsS (leastS a)) s 4).1) := ⟨rfl⟩
  obtain ⟨S, HSS⟩ : ∃ z, Aside0 (leastS a = z) := ⟨_, ⟨rfl⟩⟩
  rw [HSS.out] at hlv htg ⊢
  have HX2 := Aside0.mk (HX1.out.below hb2)
  have HB2 := Aside0.mk (below_next HB1.out hb2)
  have HG2 := Aside0.mk (HG.out.below HB2.out)
  obtain ⟨l0, l1, l2, l3, l4, rfl, b0, b1, b2, b3, b4⟩ := hlv
  have hS5 : Aside0 (([l0, l1, l2, l3, l4] : List Int).length = 5) := ⟨rfl⟩
  have o1 : Go.bits .or .u64 l0 (l1 * 67108864) = l0 + l1 * 67108864 := or_sh l0 l1 26 (by omega) (by omega) (by omega) (by omega) (by omega)
  have o2 : Go.bits .or .u64 (l1 / 64) (l2 * 1048576) = l1 / 64 + l2 * 1048576 := or_sh (l1 / 64) l2 20 (by omega) (by omega) (by omega) (by omega) (by omega)
  have o3 : Go.bits .or .u64 (l2 / 4096) (l3 * 16384) = l2 / 4096 + l3 * 16384 := or_sh (l2 / 4096) l3 14 (by omega) (by omega) (by omega) (by omega) (by omega)
  have o4 : Go.bits .or .u64 (l3 / 262144) (l4 * 256) = l3 / 262144 + l4 * 256 := or_sh (l3 / 262144) l4 8 (by omega) (by omega) (by omega) (by omega) (by omega)
  clear hb2 k14
  go_wp2_with (first
    | (refine store_arr rfl 79 (.tmp 3) (.tmp 41) rfl w.heap.size .u64 [l0, l1, l2, l3, l4] rfl rfl 79 5 _ HX2.out size79 hS5.out (by rw [nums_length]; exact HA.out) ?_; intro w3 hX3 hg3
       have HX3 := Aside0.mk hX3
       have HB3 := Aside0.mk (HB2.out.grown hg3 HB2.out.size (fun k hk => by cases hk; exact Nat.le_refl _))
       have HG3 := Aside0.mk (HG.out.below HB3.out)
       have q0 : w3.cell? ⟨w.heap.size, 0, none⟩ = some (.int .u64 l0) := Blk.cell hX3 0
       have q1 : w3.cell? ⟨w.heap.size, 1, none⟩ = some (.int .u64 l1) := Blk.cell hX3 1
       have q2 : w3.cell? ⟨w.heap.size, 2, none⟩ = some (.int .u64 l2) := Blk.cell hX3 2
       have q3 : w3.cell? ⟨w.heap.size, 3, none⟩ = some (.int .u64 l3) := Blk.cell hX3 3
       have q4 : w3.cell? ⟨w.heap.size, 4, none⟩ = some (.int .u64 l4) := Blk.cell hX3 4
       clear hX3 hg3))
  obtain ⟨W, HWD⟩ : ∃ z, Aside0 (wordsS [l0, l1, l2, l3, l4] = z) := ⟨_, ⟨rfl⟩⟩
  have hwd : Aside0 (W = [l0 + l1 * 67108864, l1 / 64 + l2 * 1048576, l2 / 4096 + l3 * 16384, l3 / 262144 + l4 * 256]) := ⟨by rw [← HWD.out]; rfl⟩
  have hwb : Aside0 (∀ i, 0 ≤ W.getD i 0 ∧ W.getD i 0 < 18446744073709551616) := ⟨by
    intro i
    rw [hwd.out]
    have hi : i = 0 ∨ i = 1 ∨ i = 2 ∨ i = 3 ∨ 4 ≤ i := by omega
    rcases hi with rfl | rfl | rfl | rfl | hi
    all_goals first
      | (simp; omega)
      | (rw [List.getD_eq_getElem?_getD, List.getElem?_eq_none (by simpa using hi)]; simp)⟩
  rw [HWD.out] at htg
  have hbe : Aside0 (∀ t, 0 ≤ (tgS W s t).2 ∧ (tgS W s t).2 < 4294967296) := ⟨by
    intro t
    induction t with
    | zero => exact ⟨Int.le_refl _, by show (0 : Int) < _; decide⟩
    | succ t ih =>
      have h1 := hwb.out t
      have h2 := getD_isW HSW.out t
      simp only [tgS]
      omega⟩
  have hB4 := HB3.out.alloc HB3.out.size (.cells #[.int .u64 (l0 + l1 * 67108864), .int .u64 (l1 / 64 + l2 * 1048576), .int .u64 (l2 / 4096 + l3 * 16384), .int .u64 (l3 / 262144 + l4 * 256)] 81)
  generalize hW4 : w3.alloc _ = w4 at hB4 ⊢
  clear hW4
  have hagg : #[Value.int .u64 (l0 + l1 * 67108864), .int .u64 (l1 / 64 + l2 * 1048576), .int .u64 (l2 / 4096 + l3 * 16384), .int .u64 (l3 / 262144 + l4 * 256)] = (nums .u64 W).toArray := by rw [hwd.out]; rfl
  rw [hagg]
  go_loopw [71, 6, 7] (fun i v u wr => ∃ (t : Nat) (vv : Value), t ≤ 4 ∧ i = .int .i64 t ∧ vv = v ∧ u = .int .u64 (tgS W s t).2 ∧ Aside0 (Ow wr w.heap.size vv (tgS W s t).1) ∧ Below w.heap.size w wr) (fun i _ _ _ => 4 - (intOf i).toNat)
  case atStart => exact ⟨0, _, by omega, rfl, rfl, rfl, ⟨Kd.R_nil _ _ _ _ _⟩, hB4⟩
  case round =>
    clear hB4
    obtain ⟨t, vv, ht, rfl, rfl, rfl, hO, hB⟩ := hrel
    by_cases hlt : t < 4
    · have hlt' : (t : Int) < 4 := by omega
      have hGw := HG.out.below hB
      have ks : wr.cell? ⟨g, 10 + t, none⟩ = some (.int .u64 (s.getD t 0)) := (Blk.cell hGw (10 + t)).trans (adr_get_s HR.out HA.out t (by rw [HS.out]; exact hlt))
      have hx := hwb.out t
      have hy := getD_isW HSW.out t
      have hc := hbe.out t
      have hol : Aside0 ((tgS W s t).1.length = 4 * t) := ⟨tgS_length W s t⟩
      have hix := index4 W (by rw [hwd.out]; rfl) t hlt
      have hn1 : Aside0 ((tgS W s (t + 1)).1 = (tgS W s t).1 ++ storeW (((tgS W s t).2 + (W.getD t 0 % 4294967296 + s.getD t 0)) % 4294967296) true) := ⟨rfl⟩
      have hn2 : Aside0 ((tgS W s (t + 1)).2 = ((tgS W s t).2 + (W.getD t 0 % 4294967296 + s.getD t 0)) / 4294967296) := ⟨rfl⟩
      generalize W.getD t 0 = x at *
      generalize s.getD t 0 = y at *
      generalize (tgS W s t).2 = cc at *
      generalize (tgS W s t).1 = oo at *
      have e1 := and32 x hx.1 hx.2
      have e2 : (x % 4294967296 + y) % 18446744073709551616 = x % 4294967296 + y := by omega
      have e3 : (cc + (x % 4294967296 + y)) % 18446744073709551616 = cc + (x % 4294967296 + y) := by omega
      clear hGw
      go_wp2_with fail
      refine (Store_c (a := (cc + (x % 4294967296 + y)) % 4294967296) (by omega) (by omega) true).mono ?_
      rintro z w5 ⟨v5, rfl, ho5, hb5⟩
      obtain ⟨A5, c5, rfl, hr5⟩ := rd_of_own ho5
      have HO5 := Aside0.mk (Kd.R_below hO.out hb5)
      have HB5 := Aside0.mk (below_next hB hb5)
      have HR5 := Aside0.mk hr5
      have e4 : shr .u64 (cc + (x % 4294967296 + y)) 32 = (cc + (x % 4294967296 + y)) / 4294967296 := shr_var64 _ 32 (by omega)
      clear ho5 hb5 hr5 ks hix
      go_wp2_with (first
        | (refine append_ow (w0 := w) w.heap.size rfl (.tmp 86) (.tmp 89) rfl vv oo (storeW ((cc + (x % 4294967296 + y)) % 4294967296) true) A5 _ c5 rfl rfl HO5.out HR5.out HB5.out HB5.out.size (by rw [hol.out, storeW_length]; omega) ?_; intro v6 w6 ho6 hb6 hg6 ha6; have HO6 := Aside0.mk ho6; have HB6 := Aside0.mk hb6; clear ho6 hb6 hg6 ha6))
      have HN : Aside0 (Ow w6 w.heap.size v6 (tgS W s (t + 1)).1) := ⟨by rw [hn1.out]; exact HO6.out⟩
      go_roundw
      case rel => exact ⟨t + 1, v6, by omega, by go_num, rfl, by rw [hn2.out], HN, HB6.out⟩
      case measure => simp [intOf]; omega
    · have hge : ¬ (t : Int) < 4 := by omega
      obtain rfl : t = 4 := by omega
      have hfin : Aside0 (Ow wr w.heap.size vv (tagS a s)) := ⟨by rw [htg.out]; exact hO.out⟩
      clear hO
      go_wp2_with fail
      go_ret
      exact ⟨_, rfl, hfin.out, hB⟩
end Go.Proofs.Ytkjmjgiklelpiaa.OtP
/- onetime: a tag of no bytes. -/
namespace Go.Proofs.Ytkjmjgiklelpiaa.OtQ
open Go.RowKit Go.Proofs.YtkjmjgiklelpiaaW.PrintWords Go.Proofs.Ytkjmjgiklelpiaa.Num Go.Proofs.Ytkjmjgiklelpiaa.WordC Go.Proofs.Ytkjmjgiklelpiaa.Arr Go.Proofs.Ytkjmjgiklelpiaa.App Go.Proofs.Ytkjmjgiklelpiaa.CiC Go.Proofs.Ytkjmjgiklelpiaa.CiD Go.Proofs.Ytkjmjgiklelpiaa.OtC Go.Proofs.Ytkjmjgiklelpiaa.OtR Go.Proofs.Ytkjmjgiklelpiaa.OtL Go.Proofs.Ytkjmjgiklelpiaa.OtM Go.Proofs.Ytkjmjgiklelpiaa.OtT Go.Proofs.Ytkjmjgiklelpiaa.OtV Go.Proofs.Ytkjmjgiklelpiaa.OtK Go.Proofs.Ytkjmjgiklelpiaa.OtN Go.Proofs.Ytkjmjgiklelpiaa.OtO Go.Proofs.Ytkjmjgiklelpiaa.OtP
set_option linter.unusedVariables false
set_option linter.unusedSimpArgs false

theorem adr_set_tail {r a s : List Int} {v u : Value} (hr : r.length = 5) (ha : a.length = 5) (hs : s.length = 4) : (adr r a s v).set 14 u = adr r a s u := by
  unfold adr
  rw [List.set_append_right _ _ (by simp [nums_length, hr, ha, hs])]
  simp [nums_length, hr, ha, hs]
set_option maxHeartbeats 8000000 in
set_option maxRecDepth 100000 in
theorem Add_0 {g : Nat} {r a s : List Int} {w : World} (hg : Blk w g 83 (adr r a s (.slice none 0 0))) (hr : r.length = 5) (ha : a.length = 5) (hs : s.length = 4) :
    Calls Try.prog 30 #[.pointer (some ⟨g, 0, none⟩), .slice none 0 0] w fun e w' => e = .returned (.tuple #[]) ∧ Blk w' g 83 (adr r a s (.slice none 0 0)) ∧ Below g w w' := by
  have k14 : w.cell? ⟨g, 14, none⟩ = some (.slice none 0 0) := (Blk.cell hg 14).trans (adr_tail hr ha hs)
  have f14 := Blk.frozen hg 14
  have HN : Aside0 (Blk (w.setCell ⟨g, 14, none⟩ (.slice none 0 0)) g 83 (adr r a s (.slice none 0 0))) := ⟨by
    have h1 := Blk.set_ hg 14 (.slice none 0 0)
    rwa [adr_set_tail hr ha hs] at h1⟩
  have HB : Aside0 (Below g w (w.setCell ⟨g, 14, none⟩ (.slice none 0 0))) := ⟨(Below.refl _ _).setCell (p := ⟨g, 14, none⟩) (Nat.le_refl _) _⟩
  clear hg hr ha hs
  go_enter Try.func30, Try.ntmps30
  go_wp2_with fail
  generalize hW : World.setCell w _ _ = w1
  have HN1 : Aside0 (Blk w1 g 83 (adr r a s (.slice none 0 0))) := ⟨by rw [← hW]; exact HN.out⟩
  have HB1 : Aside0 (Below g w w1) := ⟨by rw [← hW]; exact HB.out⟩
  have k1 : w1.cell? ⟨g, 14, none⟩ = some (.slice none 0 0) := by rw [← hW]; exact World.cell?_setCell_same _ _ _ k14
  clear hW k14 f14
  go_loopw [15] (fun v wr => wr = w1) (fun _ _ => 0)
  case atStart => rfl
  case round =>
    subst hrel
    go_wp2_with fail
    go_end0
    exact ⟨rfl, HN1.out, HB1.out⟩
theorem readS_isL {b : List Int} (hl : b.length = 16) (h : IsB b) : (readS b 0).length = 5 := by simp [readS, rdT_length]
set_option maxHeartbeats 8000000 in
set_option maxRecDepth 100000 in
theorem OTag_0 {A : Option Addr} {c : Nat} {k : List Int} {w : World} (hk : Rd w A 32 c k) (bk : IsB k) :
    Calls Try.prog 27 #[.slice A 32 c, .slice none 0 0] w fun e w' => ∃ v, e = .returned (.tuple #[v, .int .i64 0]) ∧ Ow w' w.heap.size v (tagS [0, 0, 0, 0, 0] (ws (k.drop 16))) ∧ Below w.heap.size w w' := by
  have hl : k.length = 32 := hk.len
  have h4 : (ws (k.drop 16)).length = 4 := ws_length 4 _ (by rw [List.length_drop, hl])
  have hw4 : IsW (ws (k.drop 16)) := ws_isW 4 _ (by rw [List.length_drop, hl]) (fun x hx => bk x (List.mem_of_mem_drop hx))
  have h5 : (readS (cutS (k.take 16)) 0).length = 5 := by simp [readS, rdT_length]
  have H4 := Aside0.mk h4
  have HW4 := Aside0.mk hw4
  have H5 := Aside0.mk h5
  clear hl h4 hw4 h5
  go_enter Try.func27, Try.ntmps27
  go_wp2_with fail
  refine (New_c hk bk).mono ?_
  rintro x w1 ⟨g, rfl, hg0, hg, hb1⟩
  have HG := Aside0.mk hg
  clear hg
  go_wp2_with fail
  refine (Add_0 (r := readS (cutS (k.take 16)) 0) (a := [0, 0, 0, 0, 0]) (s := ws (k.drop 16)) HG.out H5.out rfl H4.out).mono ?_
  rintro x w2 ⟨rfl, hg2, hb2⟩
  have hB2 := hb1.trans (hb2.mono hg0)
  have HG2 := Aside0.mk hg2
  clear hg2
  go_wp2_with fail
  refine (Tag_0 HG2.out H5.out rfl H4.out (by intro x hx; simp at hx; omega) HW4.out).mono ?_
  rintro x w3 ⟨v3, rfl, ho3, hb3⟩
  have HO3 := Aside0.mk (Kd.R_lower ho3 hB2.size)
  have hB3 := below_next hB2 hb3
  clear ho3
  go_wp2_with fail
  go_ret2
  exact ⟨_, rfl, HO3.out, hB3⟩
end Go.Proofs.Ytkjmjgiklelpiaa.OtQ
