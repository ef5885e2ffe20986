/- Merged out of OtMa, OtMb; what the box laws do not use is left out. -/
import Derived.Test.YtkjmjgiklelpiaaBkW
import Derived.Test.YtkjmjgiklelpiaaBkQ
import Derived.Test.YtkjmjgiklelpiaaBkP
import Derived.Deep.RegionHeld3
import Derived.Deep.Cut
import Derived.Deep.CutRange
import Derived.Test.YtkjmjgiklelpiaaBkC
import Derived.Deep.MidRow
import Derived.Deep.Matrix
import Derived.Test.YtkjmjgiklelpiaaBkR
/- Merged out of OtC, OtR, OtL, OtM, OtT, OtV, OtK, OtN, OtO, OtP, OtQ. -/
/- onetime.carried, walked. -/
namespace Go.Proofs.Ytkjmjgiklelpiaa.OtC
open Go.RowKit Go.Proofs.YtkjmjgiklelpiaaW.PrintWords Go.Proofs.Ytkjmjgiklelpiaa.Num Go.Proofs.Ytkjmjgiklelpiaa.WordC Go.Proofs.Ytkjmjgiklelpiaa.Arr Go.Proofs.Ytkjmjgiklelpiaa.App Go.Proofs.Ytkjmjgiklelpiaa.CiC
set_option linter.unusedVariables false
set_option linter.unusedSimpArgs false

/-- Numbers below 2^63. -/
def IsL (l : List Int) : Prop := ∀ x ∈ l, 0 ≤ x ∧ x < 9223372036854775808
theorem getD_isL {l : List Int} (h : IsL l) (i : Nat) : 0 ≤ l.getD i 0 ∧ l.getD i 0 < 9223372036854775808 := by
  rw [List.getD_eq_getElem?_getD]
  by_cases hi : i < l.length
  · rw [List.getElem?_eq_getElem hi]; exact h _ (List.getElem_mem hi)
  · rw [List.getElem?_eq_none (by omega)]; exact ⟨Int.le_refl _, by decide⟩
theorem set_isL {l : List Int} (h : IsL l) (i : Nat) {x : Int} (h0 : 0 ≤ x) (h1 : x < 9223372036854775808) : IsL (l.set i x) := by
  intro y hy
  rcases List.mem_or_eq_of_mem_set hy with hy | rfl
  · exact h y hy
  · exact ⟨h0, h1⟩
/-- Carries, from the first limb on. -/
def cst (d : List Int) : Nat → List Int × Int
  | 0 => (d, 0)
  | i + 1 => ((cst d i).1.set i (((cst d i).1.getD i 0 + (cst d i).2) % 67108864), ((cst d i).1.getD i 0 + (cst d i).2) / 67108864)
def top5 (l : List Int) (c : Int) : List Int := ((l.set 0 (l.getD 0 0 + 5 * c)).set 1 (l.getD 1 0 + (l.getD 0 0 + 5 * c) / 67108864)).set 0 ((l.getD 0 0 + 5 * c) % 67108864)
def carS (d : List Int) : List Int := top5 (cst d 5).1 (cst d 5).2
theorem cst_length (d : List Int) (i : Nat) : (cst d i).1.length = d.length := by
  induction i with
  | zero => rfl
  | succ i ih => simp [cst, ih]
theorem cst_ok {d : List Int} (h : IsL d) (i : Nat) : IsL (cst d i).1 ∧ 0 ≤ (cst d i).2 ∧ (cst d i).2 < 274877906944 := by
  induction i with
  | zero => exact ⟨h, Int.le_refl _, by show (0 : Int) < _; decide⟩
  | succ i ih =>
    obtain ⟨h1, h2, h3⟩ := ih
    have := getD_isL h1 i
    simp only [cst]
    generalize (cst d i).1.getD i 0 = x at *
    generalize (cst d i).2 = c at *
    exact ⟨set_isL h1 i (by omega) (by omega), by omega, by omega⟩
theorem cst_low (d : List Int) (hl : d.length = 5) : (cst d 5).1.getD 0 0 < 67108864 ∧ (cst d 5).1.getD 1 0 < 67108864 := by
  match d, hl with
  | [a, b, c, e, f], _ =>
    simp [cst]
    omega
theorem and26 (x : Int) (h0 : 0 ≤ x) (h1 : x < 18446744073709551616) : Go.bits .and .u64 x 67108863 = x % 67108864 := by
  rw [u64_and x 67108863 h0 h1 (by decide) (by decide)]
  obtain ⟨X, rfl⟩ := Int.eq_ofNat_of_zero_le h0
  rw [Int.toNat_natCast, show (67108863 : Int).toNat = 2 ^ 26 - 1 from rfl, Nat.and_two_pow_sub_one_eq_mod]; rfl
theorem size79 : (Try.prog.info? 79).map (·.size) = some 5 := by kernel_rfl
set_option maxHeartbeats 8000000 in
set_option maxRecDepth 100000 in
theorem carried_c {d : List Int} {w : World} (hl : d.length = 5) (h : IsL d) :
    Calls Try.prog 71 #[.agg (nums .u64 d).toArray] w fun e w' => e = .returned (.agg (nums .u64 (carS d)).toArray) ∧ Below w.heap.size w w' := by
  have HL := Aside0.mk hl
  have HD := Aside0.mk h
  clear hl h
  go_enter Try.func71, Try.ntmps71
  go_wp2_with fail
  generalize hW : (w.alloc _).alloc _ = W0
  have hX : Aside0 (Blk W0 w.heap.size 79 (nums .u64 (cst d 0).1)) := ⟨by rw [← hW]; exact heap_alloc2_old _ _ _⟩
  have hY : Aside0 (Blk W0 (w.heap.size + 1) 79 (nums .u64 (List.replicate 5 0))) := ⟨by rw [← hW]; exact heap_alloc2_new _ _ _⟩
  have hB : Below w.heap.size w W0 := by rw [← hW]; exact ((Below.refl _ w).alloc (Nat.le_refl _) _).alloc (by simp) _
  clear hW
  go_loopw [5, 3] (fun i v wr => ∃ t : Nat, t ≤ 5 ∧ i = .int .i64 t ∧ v = .int .u64 (cst d t).2 ∧ Aside0 (Blk wr w.heap.size 79 (nums .u64 (cst d t).1)) ∧ Aside0 (Blk wr (w.heap.size + 1) 79 (nums .u64 (List.replicate 5 0))) ∧ Below w.heap.size w wr) (fun i _ _ => 5 - (intOf i).toNat)
  case atStart => exact ⟨0, by omega, rfl, rfl, hX, hY, hB⟩
  case round =>
    clear hX hY hB
    obtain ⟨t, ht, rfl, rfl, hX, hY, hB⟩ := hrel
    have hlc : Aside0 ((cst d t).1.length = 5) := ⟨by rw [cst_length]; exact HL.out⟩
    have hok := cst_ok HD.out t
    have hg := getD_isL hok.1 t
    by_cases hlt : t < 5
    · have hlt' : (t : Int) < 5 := by omega
      have f0 := blk_num hX.out t (by rw [hlc.out]; exact hlt)
      have f1 := Blk.frozen hX.out t
      have hn1 : Aside0 ((cst d (t + 1)).1 = (cst d t).1.set t (((cst d t).1.getD t 0 + (cst d t).2) % 67108864)) := ⟨rfl⟩
      have hn2 : Aside0 ((cst d (t + 1)).2 = ((cst d t).1.getD t 0 + (cst d t).2) / 67108864) := ⟨rfl⟩
      generalize (cst d t).1.getD t 0 = x at *
      generalize (cst d t).2 = c at *
      have hs : (x + c) % 18446744073709551616 = x + c := by omega
      have hm := and26 (x + c) (by omega) (by omega)
      have hsh : shr .u64 (x + c) 26 = (x + c) / 67108864 := by rfl
      go_wp2_with fail
      have R1 : Aside0 (Blk ((wr.setCell ⟨w.heap.size, t, none⟩ (.int .u64 (x + c))).setCell ⟨w.heap.size, t, none⟩ (.int .u64 ((x + c) % 67108864))) w.heap.size 79 (nums .u64 (cst d (t + 1)).1)) := ⟨by
        have h1 := CiC.blk_put (CiC.blk_put hX.out t (x + c)) t ((x + c) % 67108864)
        rw [List.set_set] at h1
        rw [hn1.out]; exact h1⟩
      have R2 : Aside0 (Blk ((wr.setCell ⟨w.heap.size, t, none⟩ (.int .u64 (x + c))).setCell ⟨w.heap.size, t, none⟩ (.int .u64 ((x + c) % 67108864))) (w.heap.size + 1) 79 (nums .u64 (List.replicate 5 0))) := ⟨Blk.far (Blk.far hY.out (p := ⟨w.heap.size, t, none⟩) (by simp) _) (p := ⟨w.heap.size, t, none⟩) (by simp) _⟩
      go_roundw
      case rel => exact ⟨t + 1, by omega, by go_num, by rw [hn2.out], R1, R2, (hB.setCell (p := ⟨w.heap.size, t, none⟩) (Nat.le_refl _) _).setCell (p := ⟨w.heap.size, t, none⟩) (Nat.le_refl _) _⟩
      case measure => simp [intOf]; omega
    · have hge : ¬ (t : Int) < 5 := by omega
      obtain rfl : t = 5 := by omega
      have k0 := blk_num hX.out 0 (by rw [hlc.out]; decide)
      have k1 := blk_num hX.out 1 (by rw [hlc.out]; decide)
      have f0 := Blk.frozen hX.out 0
      have f1 := Blk.frozen hX.out 1
      have g0 := getD_isL hok.1 0
      have g1 := getD_isL hok.1 1
      have hcar : Aside0 (carS d = top5 (cst d 5).1 (cst d 5).2) := ⟨rfl⟩
      have hcl : Aside0 ((carS d).length = 5) := ⟨by simp [carS, top5, cst_length]; exact HL.out⟩
      have hm0 : (cst d 5).1.getD 0 0 < 67108864 ∧ (cst d 5).1.getD 1 0 < 67108864 := cst_low d HL.out
      obtain ⟨L, HLL⟩ : ∃ L, Aside0 ((cst d 5).1 = L) := ⟨_, ⟨rfl⟩⟩
      obtain ⟨c, HC⟩ : ∃ c, Aside0 ((cst d 5).2 = c) := ⟨_, ⟨rfl⟩⟩
      rw [HLL.out] at hX k0 k1 g0 g1 hcar hm0 hlc
      rw [HC.out] at hok hcar ⊢
      obtain ⟨x0, HX0⟩ : ∃ x, Aside0 (L.getD 0 0 = x) := ⟨_, ⟨rfl⟩⟩
      obtain ⟨x1, HX1⟩ : ∃ x, Aside0 (L.getD 1 0 = x) := ⟨_, ⟨rfl⟩⟩
      rw [HX0.out] at k0 g0 hm0
      rw [HX1.out] at k1 g1 hm0
      have htop : Aside0 (top5 L c = ((L.set 0 (x0 + 5 * c)).set 1 (x1 + (x0 + 5 * c) / 67108864)).set 0 ((x0 + 5 * c) % 67108864)) := ⟨by unfold top5; rw [HX0.out, HX1.out]⟩
      have e1 : (5 * c) % 18446744073709551616 = 5 * c := by omega
      have e2 : (x0 + 5 * c) % 18446744073709551616 = x0 + 5 * c := by omega
      have e3 : shr .u64 (x0 + 5 * c) 26 = (x0 + 5 * c) / 67108864 := rfl
      have e4 : (x1 + (x0 + 5 * c) / 67108864) % 18446744073709551616 = x1 + (x0 + 5 * c) / 67108864 := by omega
      have e5 := and26 (x0 + 5 * c) (by omega) (by omega)
      have HXX : Aside0 (Blk (((wr.setCell ⟨w.heap.size, 0, none⟩ (.int .u64 (x0 + 5 * c))).setCell ⟨w.heap.size, 1, none⟩ (.int .u64 (x1 + (x0 + 5 * c) / 67108864))).setCell ⟨w.heap.size, 0, none⟩ (.int .u64 ((x0 + 5 * c) % 67108864))) w.heap.size 79 (nums .u64 (carS d))) := ⟨by
        rw [hcar.out, htop.out]; exact CiC.blk_put (CiC.blk_put (CiC.blk_put hX.out 0 _) 1 _) 0 _⟩
      have HYY : Aside0 (Blk (((wr.setCell ⟨w.heap.size, 0, none⟩ (.int .u64 (x0 + 5 * c))).setCell ⟨w.heap.size, 1, none⟩ (.int .u64 (x1 + (x0 + 5 * c) / 67108864))).setCell ⟨w.heap.size, 0, none⟩ (.int .u64 ((x0 + 5 * c) % 67108864))) (w.heap.size + 1) 79 (nums .u64 (List.replicate 5 0))) := ⟨Blk.far (Blk.far (Blk.far hY.out (p := ⟨w.heap.size, 0, none⟩) (by simp) _) (p := ⟨w.heap.size, 1, none⟩) (by simp) _) (p := ⟨w.heap.size, 0, none⟩) (by simp) _⟩
      have HBB : Aside0 (Below w.heap.size w (((wr.setCell ⟨w.heap.size, 0, none⟩ (.int .u64 (x0 + 5 * c))).setCell ⟨w.heap.size, 1, none⟩ (.int .u64 (x1 + (x0 + 5 * c) / 67108864))).setCell ⟨w.heap.size, 0, none⟩ (.int .u64 ((x0 + 5 * c) % 67108864)))) := ⟨((hB.setCell (p := ⟨w.heap.size, 0, none⟩) (Nat.le_refl _) _).setCell (p := ⟨w.heap.size, 1, none⟩) (Nat.le_refl _) _).setCell (p := ⟨w.heap.size, 0, none⟩) (Nat.le_refl _) _⟩
      obtain ⟨S, HS⟩ : ∃ S, Aside0 (carS d = S) := ⟨_, ⟨rfl⟩⟩
      rw [HS.out] at HXX hcl
      go_wp2_with (first
        | (refine load_arr rfl 79 (.tmp 1) rfl w.heap.size rfl 79 .u64 S 5 36 HXX.out Try.underlying79 size79 hcl.out ?_)
        | (refine store_arr rfl 79 (.tmp 2) (.tmp 41) rfl (w.heap.size + 1) .u64 S rfl rfl 79 5 _ HYY.out size79 hcl.out (by rw [nums_length]; rfl) ?_; intro w9 hZ hg9; have HZ := Aside0.mk hZ; have HG9 := Aside0.mk hg9; clear hZ hg9))
      refine bodyPost_ret (v := .agg (nums .u64 S).toArray) ?_ rfl ⟨by rw [HS.out], HBB.out.grown HG9.out HBB.out.size (fun k hk => by cases hk; omega)⟩
      exact results_arr (p := 2) (ty := 79) rfl _ w9 (w.heap.size + 1) 79 5 36 .u64 S rfl HZ.out Try.underlying79 size79 hcl.out
end Go.Proofs.Ytkjmjgiklelpiaa.OtC
/- onetime.read, walked. -/
namespace Go.Proofs.Ytkjmjgiklelpiaa.OtR
open Go.RowKit Go.Proofs.YtkjmjgiklelpiaaW.PrintWords Go.Proofs.Ytkjmjgiklelpiaa.Num Go.Proofs.Ytkjmjgiklelpiaa.WordC Go.Proofs.Ytkjmjgiklelpiaa.Arr Go.Proofs.Ytkjmjgiklelpiaa.App Go.Proofs.Ytkjmjgiklelpiaa.CiC Go.Proofs.Ytkjmjgiklelpiaa.OtC
set_option linter.unusedVariables false
set_option linter.unusedSimpArgs false

/-- The word at place 3*i, cut to its 26 bits. -/
def limb (b : List Int) (i : Nat) : Int := (loadW ((b.take (3 * i + 4)).drop (3 * i)) true).1 / 2 ^ (2 * i) % 67108864
def rdT (b : List Int) : Nat → List Int
  | 0 => [0, 0, 0, 0, 0]
  | i + 1 => (rdT b i).set i (limb b i)
def readS (b : List Int) (top : Int) : List Int := (rdT b 4).set 4 ((loadW ((b.take 16).drop 12) true).1 / 256 + top * 16777216)
theorem rdT_length (b : List Int) (i : Nat) : (rdT b i).length = 5 := by
  induction i with
  | zero => rfl
  | succ i ih => simp [rdT, ih]
theorem shr_var64 (x : Int) (n : Nat) (hn : n ≤ 64) : shr .u64 x (n : Int) = x / 2 ^ n := by
  unfold shr
  rw [show min ((n : Int)).toNat IntKind.u64.bits = n from by simp [IntKind.bits]; omega]
theorem or24 (x top : Int) (h0 : 0 ≤ x) (h1 : x < 16777216) (ht : top = 0 ∨ top = 1) : Go.bits .or .u64 x (top * 16777216) = x + top * 16777216 := by
  obtain ⟨X, rfl⟩ := Int.eq_ofNat_of_zero_le h0
  rcases ht with rfl | rfl
  · rw [show (0 : Int) * 16777216 = ((0 : Nat) : Int) from rfl, u64_or_nat X 0 (by omega) (by omega)]; simp
  · rw [show (1 : Int) * 16777216 = ((16777216 : Nat) : Int) from rfl, u64_or_nat X 16777216 (by omega) (by omega)]
    have h := Nat.two_pow_add_eq_or_of_lt (i := 24) (b := X) (by omega) 1
    rw [Nat.or_comm, show (16777216 : Nat) = 2 ^ 24 * 1 from rfl, ← h]; omega
set_option maxHeartbeats 8000000 in
set_option maxRecDepth 100000 in
theorem read_c {A : Option Addr} {c : Nat} {b : List Int} {n : Nat} {top : Int} {w : World} (hr : Rd w A n c b) (hn : 16 ≤ n) (hb : IsB b) (ht : top = 0 ∨ top = 1) :
    Calls Try.prog 53 #[.slice A n c, .int .u64 top] w fun e w' => e = .returned (.agg (nums .u64 (readS b top)).toArray) ∧ Below w.heap.size w w' := by
  have HR := Aside0.mk hr
  clear hr
  go_enter Try.func53, Try.ntmps53
  go_wp2_with fail
  generalize hW : (w.alloc _).alloc _ = W0
  have hX : Aside0 (Blk W0 (w.heap.size + 1) 79 (nums .u64 (rdT b 0))) := ⟨by rw [← hW]; exact heap_alloc2_new _ _ _⟩
  have hY : Aside0 (Blk W0 w.heap.size 79 (nums .u64 (List.replicate 5 0))) := ⟨by rw [← hW]; exact heap_alloc2_old _ _ _⟩
  have hB : Below w.heap.size w W0 := by rw [← hW]; exact ((Below.refl _ w).alloc (Nat.le_refl _) _).alloc (by simp) _
  clear hW
  go_loopw [11] (fun i wr => ∃ t : Nat, t ≤ 4 ∧ i = .int .i64 t ∧ Aside0 (Blk wr (w.heap.size + 1) 79 (nums .u64 (rdT b t))) ∧ Aside0 (Blk wr w.heap.size 79 (nums .u64 (List.replicate 5 0))) ∧ Below w.heap.size w wr) (fun i _ => 4 - (intOf i).toNat)
  case atStart => exact ⟨0, by omega, rfl, hX, hY, hB⟩
  case round =>
    clear hX hY hB
    obtain ⟨t, htt, rfl, hX, hY, hB⟩ := hrel
    by_cases hlt : t < 4
    · have hlt' : (t : Int) < 4 := by omega
      obtain ⟨A', c', hcut, hrd⟩ := rd_slice (HR.out.below hB) (3 * t) (3 * t + 4) (x := 3 * (t : Int)) (y := 3 * (t : Int) + 4) (by omega) (by omega) (by omega) (by omega)
      rw [show 3 * t + 4 - 3 * t = 4 by omega] at hcut hrd
      have hI : IsB ((b.take (3 * t + 4)).drop (3 * t)) := fun x hx => hb x (List.mem_of_mem_take (List.mem_of_mem_drop hx))
      go_wp2_with fail
      refine (Load_c hrd hI true).mono ?_
      rintro x w2 ⟨rfl, ⟨n2, rfl⟩⟩
      have hlr := load_range hI true
      have hlim : Aside0 (limb b t = (loadW ((b.take (3 * t + 4)).drop (3 * t)) true).1 / 2 ^ (2 * t) % 67108864) := ⟨rfl⟩
      generalize (loadW ((b.take (3 * t + 4)).drop (3 * t)) true).1 = x at *
      have f0 := blk_num hX.out t (by rw [rdT_length]; omega)
      have f1 := Blk.frozen hX.out t
      have i5 : (t : Int) < 5 := by omega
      have p0 : (0 : Int) ≤ 2 * (t : Int) := by omega
      have e1 : x % 18446744073709551616 = x := by omega
      have e2 : shr .u64 x (2 * (t : Int)) = x / 2 ^ (2 * t) := by
        have := shr_var64 x (2 * t) (by omega)
        rw [show (2 * (t : Int)) = ((2 * t : Nat) : Int) by omega]; exact this
      have e3 : Go.bits .and .u64 (x / 2 ^ (2 * t)) 67108863 = x / 2 ^ (2 * t) % 67108864 := and26 _ (Int.ediv_nonneg hlr.1 (Int.le_of_lt (Int.pow_pos (by omega)))) (by
        have h1 : x / 2 ^ (2 * t) ≤ x := Int.ediv_le_self _ hlr.1
        omega)
      go_wp2_with fail
      have R1 : Aside0 (Blk ((wr.drewN n2).setCell ⟨w.heap.size + 1, t, none⟩ (.int .u64 (x / 2 ^ (2 * t) % 67108864))) (w.heap.size + 1) 79 (nums .u64 (rdT b (t + 1)))) := ⟨by
        have h1 := CiC.blk_put hX.out t (x / 2 ^ (2 * t) % 67108864)
        rw [show rdT b (t + 1) = (rdT b t).set t (limb b t) from rfl, hlim.out]; exact h1⟩
      have R2 : Aside0 (Blk ((wr.drewN n2).setCell ⟨w.heap.size + 1, t, none⟩ (.int .u64 (x / 2 ^ (2 * t) % 67108864))) w.heap.size 79 (nums .u64 (List.replicate 5 0))) := ⟨Blk.far hY.out (p := ⟨w.heap.size + 1, t, none⟩) (by simp) _⟩
      go_roundw
      case rel => exact ⟨t + 1, by omega, by go_num, R1, R2, (pw_below_drewN hB _).setCell (p := ⟨w.heap.size + 1, t, none⟩) (by simp) _⟩
      case measure => simp [intOf]; omega
    · have hge : ¬ (t : Int) < 4 := by omega
      obtain rfl : t = 4 := by omega
      obtain ⟨A', c', hcut, hrd⟩ := rd_slice (HR.out.below hB) 12 16 (x := 12) (y := 16) (by omega) (by omega) (by omega) (by omega)
      rw [show 16 - 12 = 4 from rfl] at hcut hrd
      have hI : IsB ((b.take 16).drop 12) := fun x hx => hb x (List.mem_of_mem_take (List.mem_of_mem_drop hx))
      go_wp2_with fail
      refine (Load_c hrd hI true).mono ?_
      rintro x w2 ⟨rfl, ⟨n2, rfl⟩⟩
      have hlr := load_range hI true
      have hrs : Aside0 (readS b top = (rdT b 4).set 4 ((loadW ((b.take 16).drop 12) true).1 / 256 + top * 16777216)) := ⟨rfl⟩
      have hcl : Aside0 ((readS b top).length = 5) := ⟨by simp [readS, rdT_length]⟩
      generalize (loadW ((b.take 16).drop 12) true).1 = x at *
      have f0 := blk_num hX.out 4 (by rw [rdT_length]; omega)
      have f1 := Blk.frozen hX.out 4
      have e1 : x % 18446744073709551616 = x := by omega
      have e2 : shr .u64 x 8 = x / 256 := shr_var64 x 8 (by omega)
      have e3 : shl .u64 top 24 = top * 16777216 := by rcases ht with rfl | rfl <;> rfl
      have e4 := or24 (x / 256) top (by omega) (by omega) ht
      obtain ⟨V, HV⟩ : ∃ V, Aside0 (x / 256 + top * 16777216 = V) := ⟨_, ⟨rfl⟩⟩
      rw [HV.out] at e4 hrs
      have HXX : Aside0 (Blk ((wr.drewN n2).setCell ⟨w.heap.size + 1, 4, none⟩ (.int .u64 V)) (w.heap.size + 1) 79 (nums .u64 (readS b top))) := ⟨by rw [hrs.out]; exact CiC.blk_put hX.out 4 V⟩
      have HYY : Aside0 (Blk ((wr.drewN n2).setCell ⟨w.heap.size + 1, 4, none⟩ (.int .u64 V)) w.heap.size 79 (nums .u64 (List.replicate 5 0))) := ⟨Blk.far hY.out (p := ⟨w.heap.size + 1, 4, none⟩) (by simp) _⟩
      have HBB : Aside0 (Below w.heap.size w ((wr.drewN n2).setCell ⟨w.heap.size + 1, 4, none⟩ (.int .u64 V))) := ⟨(pw_below_drewN hB _).setCell (p := ⟨w.heap.size + 1, 4, none⟩) (by simp) _⟩
      obtain ⟨S, HS⟩ : ∃ S, Aside0 (readS b top = S) := ⟨_, ⟨rfl⟩⟩
      rw [HS.out] at HXX hcl
      go_wp2_with (first
        | (refine load_arr rfl 79 (.tmp 5) rfl (w.heap.size + 1) rfl 79 .u64 S 5 36 HXX.out Try.underlying79 size79 hcl.out ?_)
        | (refine store_arr rfl 79 (.tmp 4) (.tmp 47) rfl w.heap.size .u64 S rfl rfl 79 5 _ HYY.out size79 hcl.out (by rw [nums_length]; rfl) ?_; intro w9 hZ hg9; have HZ := Aside0.mk hZ; have HG9 := Aside0.mk hg9; clear hZ hg9))
      refine bodyPost_ret (v := .agg (nums .u64 S).toArray) ?_ rfl ⟨by rw [HS.out], HBB.out.grown HG9.out HBB.out.size (fun k hk => by cases hk; exact Nat.le_refl _)⟩
      exact results_arr (p := 4) (ty := 79) rfl _ w9 w.heap.size 79 5 36 .u64 S rfl HZ.out Try.underlying79 size79 hcl.out
end Go.Proofs.Ytkjmjgiklelpiaa.OtR
/- onetime.least: plain. -/
namespace Go.Proofs.Ytkjmjgiklelpiaa.OtL
open Go.RowKit Go.Proofs.YtkjmjgiklelpiaaW.PrintWords Go.Proofs.Ytkjmjgiklelpiaa.Num Go.Proofs.Ytkjmjgiklelpiaa.WordC Go.Proofs.Ytkjmjgiklelpiaa.Arr Go.Proofs.Ytkjmjgiklelpiaa.App Go.Proofs.Ytkjmjgiklelpiaa.CiC Go.Proofs.Ytkjmjgiklelpiaa.OtC Go.Proofs.Ytkjmjgiklelpiaa.OtR
set_option linter.unusedVariables false
set_option linter.unusedSimpArgs false

/-- Five more, and the carries. -/
def mst (l : List Int) : Nat → List Int
  | 0 => l.set 0 (l.getD 0 0 + 5)
  | i + 1 => ((mst l i).set (i + 1) ((mst l i).getD (i + 1) 0 + (mst l i).getD i 0 / 67108864)).set i ((mst l i).getD i 0 % 67108864)
def overS (l : List Int) : Int := (mst l 4).getD 4 0 / 67108864
def moreS (l : List Int) : List Int := (mst l 4).set 4 ((mst l 4).getD 4 0 % 67108864)
def pickS (l : List Int) : List Int := if overS l = 0 then l else moreS l
def leastS (a : List Int) : List Int := pickS (carS (carS a))
/-- Limbs as carried leaves them. -/
def Low (l : List Int) : Prop := ∃ a b c d e : Int, l = [a, b, c, d, e] ∧ (0 ≤ a ∧ a < 67108864) ∧ (0 ≤ b ∧ b < 67174400) ∧ (0 ≤ c ∧ c < 67108864) ∧ (0 ≤ d ∧ d < 67108864) ∧ (0 ≤ e ∧ e < 67108864)
theorem carS_low {d : List Int} (hl : d.length = 5) (h : IsL d) : Low (carS d) := by
  have hok := (cst_ok h 5).2
  match d, hl with
  | [a, b, c, d, e], _ =>
    have ha := h a (by simp)
    have hb := h b (by simp)
    have hc := h c (by simp)
    have hd := h d (by simp)
    have he := h e (by simp)
    refine ⟨_, _, _, _, _, rfl, ?_⟩
    simp [cst]
    omega
theorem Low.isL {l : List Int} (h : Low l) : IsL l := by
  obtain ⟨a, b, c, d, e, rfl, h1, h2, h3, h4, h5⟩ := h
  intro x hx
  simp at hx
  omega
theorem Low.length {l : List Int} (h : Low l) : l.length = 5 := by
  obtain ⟨a, b, c, d, e, rfl, _⟩ := h; rfl
theorem overS_01 {l : List Int} (h : Low l) : overS l = 0 ∨ overS l = 1 := by
  obtain ⟨a, b, c, d, e, rfl, h1, h2, h3, h4, h5⟩ := h
  simp [overS, mst]
  omega
theorem mst_ok {l : List Int} (h : Low l) (i : Nat) (hi : i ≤ 4) : (mst l i).length = 5 ∧ ∀ j, 0 ≤ (mst l i).getD j 0 ∧ (mst l i).getD j 0 < 4294967296 := by
  obtain ⟨a, b, c, d, e, rfl, h1, h2, h3, h4, h5⟩ := h
  have hc : i = 0 ∨ i = 1 ∨ i = 2 ∨ i = 3 ∨ i = 4 := by omega
  rcases hc with rfl | rfl | rfl | rfl | rfl <;> refine ⟨by simp [mst], fun j => ?_⟩ <;>
  · have hj : j = 0 ∨ j = 1 ∨ j = 2 ∨ j = 3 ∨ j = 4 ∨ 5 ≤ j := by omega
    rcases hj with rfl | rfl | rfl | rfl | rfl | hj
    all_goals first
      | (simp [mst]; omega)
      | (rw [List.getD_eq_getElem?_getD, List.getElem?_eq_none (by simp [mst]; omega)]; simp)
theorem andNot0 (x : Int) (h0 : 0 ≤ x) (h1 : x < 18446744073709551616) : Go.bits .andNot .u64 x 0 = x := by
  obtain ⟨X, rfl⟩ := Int.eq_ofNat_of_zero_le h0
  rw [show (0 : Int) = ((0 : Nat) : Int) from rfl, u64_andNot_nat X 0 (by omega) (by omega)]
  rw [show (18446744073709551615 - 0 : Nat) = 2 ^ 64 - 1 from rfl, Nat.and_two_pow_sub_one_eq_mod, Nat.mod_eq_of_lt (by omega)]
theorem andNot1 (x : Int) (h0 : 0 ≤ x) (h1 : x < 18446744073709551616) : Go.bits .andNot .u64 x 18446744073709551615 = 0 := by
  obtain ⟨X, rfl⟩ := Int.eq_ofNat_of_zero_le h0
  rw [show (18446744073709551615 : Int) = ((18446744073709551615 : Nat) : Int) from rfl, u64_andNot_nat X _ (by omega) (by omega)]; simp
theorem and0 (x : Int) (h0 : 0 ≤ x) (h1 : x < 18446744073709551616) : Go.bits .and .u64 x 0 = 0 := by
  obtain ⟨X, rfl⟩ := Int.eq_ofNat_of_zero_le h0
  rw [show (0 : Int) = ((0 : Nat) : Int) from rfl, u64_and_nat X 0 (by omega) (by omega)]; simp
theorem and1 (x : Int) (h0 : 0 ≤ x) (h1 : x < 18446744073709551616) : Go.bits .and .u64 x 18446744073709551615 = x := by
  obtain ⟨X, rfl⟩ := Int.eq_ofNat_of_zero_le h0
  rw [show (18446744073709551615 : Int) = ((18446744073709551615 : Nat) : Int) from rfl, u64_and_nat X _ (by omega) (by omega)]
  rw [show (18446744073709551615 : Nat) = 2 ^ 64 - 1 from rfl, Nat.and_two_pow_sub_one_eq_mod, Nat.mod_eq_of_lt (by omega)]
theorem or0 (x : Int) (h0 : 0 ≤ x) (h1 : x < 18446744073709551616) : Go.bits .or .u64 x 0 = x := by
  obtain ⟨X, rfl⟩ := Int.eq_ofNat_of_zero_le h0
  rw [show (0 : Int) = ((0 : Nat) : Int) from rfl, u64_or_nat X 0 (by omega) (by omega)]; simp
theorem or1 (x : Int) (h0 : 0 ≤ x) (h1 : x < 18446744073709551616) : Go.bits .or .u64 0 x = x := by
  obtain ⟨X, rfl⟩ := Int.eq_ofNat_of_zero_le h0
  rw [show (0 : Int) = ((0 : Nat) : Int) from rfl, u64_or_nat 0 X (by omega) (by omega)]; simp
theorem moreS_ok {l : List Int} (h : Low l) (j : Nat) : 0 ≤ (moreS l).getD j 0 ∧ (moreS l).getD j 0 < 4294967296 := by
  have hm := mst_ok h 4 (Nat.le_refl _)
  unfold moreS
  by_cases hj : j = 4
  · subst hj
    have h4 := hm.2 4
    rw [List.getD_eq_getElem?_getD, List.getElem?_set_self (by rw [hm.1]; decide), Option.getD_some]
    omega
  · rw [List.getD_eq_getElem?_getD, List.getElem?_set_ne (by omega), ← List.getD_eq_getElem?_getD]
    exact hm.2 j
theorem low_lt {l : List Int} (h : Low l) (j : Nat) : 0 ≤ l.getD j 0 ∧ l.getD j 0 < 4294967296 := by
  have h5 := h.length
  obtain ⟨a, b, c, d, e, rfl, h1, h2, h3, h4, h5⟩ := h
  have hj : j = 0 ∨ j = 1 ∨ j = 2 ∨ j = 3 ∨ j = 4 ∨ 5 ≤ j := by omega
  rcases hj with rfl | rfl | rfl | rfl | rfl | hj
  all_goals first
    | (simp; omega)
    | (rw [List.getD_eq_getElem?_getD, List.getElem?_eq_none (by simpa using hj)]; simp)
theorem set_take_drop (p a : List Int) (t : Nat) (hp : t < p.length) (ha : t < a.length) : (p.take t ++ a.drop t).set t (p.getD t 0) = p.take (t + 1) ++ a.drop (t + 1) := by
  have hl : (p.take t).length = t := by rw [List.length_take]; omega
  have e : p.take (t + 1) = p.take t ++ [p[t]] := by
    rw [List.take_add_one, List.getElem?_eq_getElem hp]; rfl
  rw [e, List.set_append_right _ _ (by omega), hl, Nat.sub_self, List.drop_eq_getElem_cons ha, List.set_cons_zero, List.getD_eq_getElem?_getD, List.getElem?_eq_getElem hp]
  rw [List.append_assoc]; rfl
end Go.Proofs.Ytkjmjgiklelpiaa.OtL
/- onetime.least, walked. -/
namespace Go.Proofs.Ytkjmjgiklelpiaa.OtM
open Go.RowKit Go.Proofs.YtkjmjgiklelpiaaW.PrintWords Go.Proofs.Ytkjmjgiklelpiaa.Num Go.Proofs.Ytkjmjgiklelpiaa.WordC Go.Proofs.Ytkjmjgiklelpiaa.Arr Go.Proofs.Ytkjmjgiklelpiaa.App Go.Proofs.Ytkjmjgiklelpiaa.CiC Go.Proofs.Ytkjmjgiklelpiaa.CiD Go.Proofs.Ytkjmjgiklelpiaa.OtC Go.Proofs.Ytkjmjgiklelpiaa.OtR Go.Proofs.Ytkjmjgiklelpiaa.OtL
set_option linter.unusedVariables false
set_option linter.unusedSimpArgs false

theorem blk_u64 {w : World} {g : Nat} {l : List Int} (h : Blk w g 79 (nums .u64 l)) (i : Nat) (hi : i < l.length) : w.cell? ⟨g, i, none⟩ = some (.int .u64 (l.getD i 0)) := blk_num h i hi
set_option maxHeartbeats 8000000 in
set_option maxRecDepth 100000 in
theorem least_c {a : List Int} {w : World} (hl : a.length = 5) (h : IsL a) :
    Calls Try.prog 56 #[.agg (nums .u64 a).toArray] w fun e w' => e = .returned (.agg (nums .u64 (leastS a)).toArray) ∧ Below w.heap.size w w' := by
  have HL := Aside0.mk hl
  have HA := Aside0.mk h
  clear hl h
  have hlow1 := carS_low HL.out HA.out
  have hlow2 := carS_low hlow1.length hlow1.isL
  have H1 := Aside0.mk hlow1
  have H2 := Aside0.mk hlow2
  have hls : Aside0 (leastS a = pickS (carS (carS a))) := ⟨rfl⟩
  clear hlow1 hlow2
  go_enter Try.func56, Try.ntmps56
  go_upto_region 1 with (fail)
  generalize hW : (w.alloc _).alloc _ = W0
  have hX : Blk W0 w.heap.size 79 (nums .u64 a) := by rw [← hW]; exact heap_alloc2_old _ _ _
  have hY : Blk W0 (w.heap.size + 1) 79 (nums .u64 (List.replicate 5 0)) := by rw [← hW]; exact heap_alloc2_new _ _ _
  have hB : Below w.heap.size w W0 := by rw [← hW]; exact ((Below.refl _ w).alloc (Nat.le_refl _) _).alloc (by simp) _
  clear hW
  have HX := Aside0.mk hX
  have HY := Aside0.mk hY
  have HB := Aside0.mk hB
  clear hX hY hB
  go_wp2_with (first
    | (refine load_arr rfl 79 (.tmp 1) rfl w.heap.size rfl 79 .u64 a 5 36 HX.out Try.underlying79 size79 HL.out ?_))
  refine (carried_c HL.out HA.out).mono ?_
  rintro x w1 ⟨rfl, hb1⟩
  obtain ⟨a1, HA1⟩ : ∃ z, Aside0 (carS a = z) := ⟨_, ⟨rfl⟩⟩
  rw [HA1.out] at H1 H2 hls ⊢
  go_wp2_with fail
  refine (carried_c H1.out.length H1.out.isL).mono ?_
  rintro x w2 ⟨rfl, hb2⟩
  obtain ⟨a2, HA2⟩ : ∃ z, Aside0 (carS a1 = z) := ⟨_, ⟨rfl⟩⟩
  rw [HA2.out] at H2 hls ⊢
  have HX2 := Aside0.mk ((HX.out.below hb1).below hb2)
  have HY2 := Aside0.mk ((HY.out.below hb1).below hb2)
  have HB2 := Aside0.mk (below_next (below_next HB.out hb1) hb2)
  have HLL := Aside0.mk H2.out.length
  clear hb1 hb2
  go_wp2_with (first
    | (refine store_arr rfl 79 (.tmp 1) (.tmp 10) rfl w.heap.size .u64 a2 rfl rfl 79 5 _ HX2.out size79 HLL.out (by rw [nums_length]; exact HL.out) ?_; intro w3 hZ hg3
       have HX3 := Aside0.mk hZ
       have HB3 := Aside0.mk (HB2.out.grown hg3 HB2.out.size (fun k hk => by cases hk; exact Nat.le_refl _))
       have HY3 : Aside0 (Blk w3 (w.heap.size + 1) 79 (nums .u64 (List.replicate 5 0))) := ⟨(hg3.block (w.heap.size + 1) (Blk.lt HY2.out) (by simp)).trans HY2.out⟩
       clear hZ hg3)
    | (refine load_arr rfl 79 (.tmp 1) rfl w.heap.size rfl 79 .u64 a2 5 36 HX3.out Try.underlying79 size79 HLL.out ?_
       have HZ4 : Aside0 (Blk (w3.alloc (.cells (nums .u64 (List.replicate 5 0)).toArray 79)) w3.heap.size 79 (nums .u64 (List.replicate 5 0))) := ⟨heap_alloc_new _ _⟩
       have HX4 := Aside0.mk (Blk.alloc HX3.out (.cells (nums .u64 (List.replicate 5 0)).toArray 79))
       have HY4 := Aside0.mk (Blk.alloc HY3.out (.cells (nums .u64 (List.replicate 5 0)).toArray 79))
       have HB4 := Aside0.mk (HB3.out.alloc HB3.out.size (.cells (nums .u64 (List.replicate 5 0)).toArray 79))
       have HYL := Aside0.mk (Blk.lt HY3.out))
    | (refine store_arr rfl 79 (.tmp 3) (.tmp 11) rfl w3.heap.size .u64 a2 rfl rfl 79 5 _ HZ4.out size79 HLL.out (by rw [nums_length]; rfl) ?_; intro w5 hZ hg5
       have HZ5 := Aside0.mk hZ
       have HB5 := Aside0.mk (HB4.out.grown hg5 HB4.out.size (fun k hk => by cases hk; exact HB3.out.size))
       have HBU := Aside0.mk ((Below.refl w3.heap.size (w3.alloc (.cells (nums .u64 (List.replicate 5 0)).toArray 79))).grown hg5 (by simp) (fun k hk => by cases hk; exact Nat.le_refl _))
       have HX5 := Aside0.mk (blk_under HX4.out HBU.out (Nat.lt_trans (Nat.lt_succ_self _) HYL.out))
       have HY5 := Aside0.mk (blk_under HY4.out HBU.out HYL.out)
       have k0 := blk_u64 HZ5.out 0 (by rw [HLL.out]; decide)
       have f0 := Blk.frozen HZ5.out 0
       have q0 := getD_isL H2.out.isL 0
       clear hZ hg5))
  have ev : IntKind.u64.wrap (a2[0]?.getD 0 + 5) = a2.getD 0 0 + 5 := by
    rw [IntKind.wrap_u64, ← List.getD_eq_getElem?_getD]; omega
  rw [ev]
  generalize hW6 : World.setCell _ _ _ = w6
  have HM : Aside0 (Blk w6 w3.heap.size 79 (nums .u64 (mst a2 0))) := ⟨by rw [← hW6]; exact CiC.blk_put HZ5.out 0 _⟩
  have HX6 : Aside0 (Blk w6 w.heap.size 79 (nums .u64 a2)) := ⟨by rw [← hW6]; exact Blk.far HX5.out (p := ⟨w3.heap.size, 0, none⟩) (by have := HYL.out; show w.heap.size ≠ w3.heap.size; omega) _⟩
  have HY6 : Aside0 (Blk w6 (w.heap.size + 1) 79 (nums .u64 (List.replicate 5 0))) := ⟨by rw [← hW6]; exact Blk.far HY5.out (p := ⟨w3.heap.size, 0, none⟩) (by have := HYL.out; show w.heap.size + 1 ≠ w3.heap.size; omega) _⟩
  have HB6 : Aside0 (Below w.heap.size w w6) := ⟨by rw [← hW6]; exact HB5.out.setCell (p := ⟨w3.heap.size, 0, none⟩) (by have := HYL.out; show w.heap.size ≤ w3.heap.size; omega) _⟩
  have hG := HYL.out
  clear hW6 k0 f0 q0 ev
  generalize w3.heap.size = G at HM hG ⊢
  go_loopw [16] (fun i wr => ∃ t : Nat, t ≤ 4 ∧ i = .int .i64 t ∧ Aside0 (Blk wr G 79 (nums .u64 (mst a2 t))) ∧ Aside0 (Blk wr w.heap.size 79 (nums .u64 a2)) ∧ Aside0 (Blk wr (w.heap.size + 1) 79 (nums .u64 (List.replicate 5 0))) ∧ Below w.heap.size w wr) (fun i _ => 4 - (intOf i).toNat)
  case atStart => exact ⟨0, by omega, rfl, HM, HX6, HY6, HB6.out⟩
  case round =>
    clear HM HX6 HY6 HB6
    obtain ⟨t, ht, rfl, hM, hX, hY, hB⟩ := hrel
    by_cases hlt : t < 4
    · have hlt' : (t : Int) < 4 := by omega
      have hmo := mst_ok H2.out t ht
      have hx := hmo.2 t
      have hy := hmo.2 (t + 1)
      have kx := blk_u64 hM.out t (by rw [hmo.1]; omega)
      have ky := blk_u64 hM.out (t + 1) (by rw [hmo.1]; omega)
      have fx := Blk.frozen hM.out t
      have fy := Blk.frozen hM.out (t + 1)
      have hnx : Aside0 (mst a2 (t + 1) = ((mst a2 t).set (t + 1) ((mst a2 t).getD (t + 1) 0 + (mst a2 t).getD t 0 / 67108864)).set t ((mst a2 t).getD t 0 % 67108864)) := ⟨rfl⟩
      have HMO := Aside0.mk hmo
      clear hmo
      generalize (mst a2 t).getD t 0 = x at *
      generalize (mst a2 t).getD (t + 1) 0 = y at *
      have i1 : (0 : Int) ≤ (t : Int) + 1 := by omega
      have i2 : (t : Int) + 1 < 5 := by omega
      have i3 : (t : Int) < 5 := by omega
      have i4 : ((t : Int) + 1).toNat = t + 1 := by omega
      have e1 : shr .u64 x 26 = x / 67108864 := rfl
      have e2 : (y + x / 67108864) % 18446744073709551616 = y + x / 67108864 := by omega
      have e3 := and26 x (by omega) (by omega)
      go_wp2_with fail
      go_region
      generalize hW7 : World.drew _ = w7
      have kx7 : w7.cell? ⟨G, t, none⟩ = some (.int .u64 x) := by rw [← hW7]; exact (World.cell?_setCell_other _ _ _ _ (by intro e; injection e with _ e2; omega)).trans kx
      have hM7 : Blk w7 G 79 (nums .u64 ((mst a2 t).set (t + 1) (y + x / 67108864))) := by rw [← hW7]; exact CiC.blk_put hM.out (t + 1) _
      have fx7 := Blk.frozen hM7 t
      have HM7 := Aside0.mk hM7
      have HX7 : Aside0 (Blk w7 w.heap.size 79 (nums .u64 a2)) := ⟨by rw [← hW7]; exact Blk.far hX.out (p := ⟨G, t + 1, none⟩) (by show w.heap.size ≠ G; omega) _⟩
      have HY7 : Aside0 (Blk w7 (w.heap.size + 1) 79 (nums .u64 (List.replicate 5 0))) := ⟨by rw [← hW7]; exact Blk.far hY.out (p := ⟨G, t + 1, none⟩) (by show w.heap.size + 1 ≠ G; omega) _⟩
      have hB7 : Below w.heap.size w w7 := by rw [← hW7]; exact (hB.setCell (p := ⟨G, t + 1, none⟩) (by show w.heap.size ≤ G; omega) _).drew
      clear hW7 hM7 kx ky fx fy
      go_wp2_with fail
      have R1 : Aside0 (Blk (w7.setCell ⟨G, t, none⟩ (.int .u64 (x % 67108864))) G 79 (nums .u64 (mst a2 (t + 1)))) := ⟨by rw [hnx.out]; exact CiC.blk_put HM7.out t _⟩
      have R2 : Aside0 (Blk (w7.setCell ⟨G, t, none⟩ (.int .u64 (x % 67108864))) w.heap.size 79 (nums .u64 a2)) := ⟨Blk.far HX7.out (p := ⟨G, t, none⟩) (by show w.heap.size ≠ G; omega) _⟩
      have R3 : Aside0 (Blk (w7.setCell ⟨G, t, none⟩ (.int .u64 (x % 67108864))) (w.heap.size + 1) 79 (nums .u64 (List.replicate 5 0))) := ⟨Blk.far HY7.out (p := ⟨G, t, none⟩) (by show w.heap.size + 1 ≠ G; omega) _⟩
      go_roundw
      case rel => exact ⟨t + 1, by omega, by go_num, R1, R2, R3, hB7.setCell (p := ⟨G, t, none⟩) (by show w.heap.size ≤ G; omega) _⟩
      case measure => simp [intOf]; omega
    · have hge : ¬ (t : Int) < 4 := by omega
      obtain rfl : t = 4 := by omega
      have hmo := mst_ok H2.out 4 (Nat.le_refl _)
      have hx := hmo.2 4
      have kx := blk_u64 hM.out 4 (by rw [hmo.1]; decide)
      have fx := Blk.frozen hM.out 4
      have hov := overS_01 H2.out
      have hove : Aside0 (overS a2 = (mst a2 4).getD 4 0 / 67108864) := ⟨rfl⟩
      have hmre : Aside0 (moreS a2 = (mst a2 4).set 4 ((mst a2 4).getD 4 0 % 67108864)) := ⟨rfl⟩
      have HML : Aside0 ((moreS a2).length = 5) := ⟨by simp [moreS]; exact hmo.1⟩
      have HMR : Aside0 (∀ j, 0 ≤ (moreS a2).getD j 0 ∧ (moreS a2).getD j 0 < 4294967296) := ⟨moreS_ok H2.out⟩
      have HPK : Aside0 (pickS a2 = if overS a2 = 0 then a2 else moreS a2) := ⟨rfl⟩
      obtain ⟨ov, HOV⟩ : ∃ z, Aside0 (overS a2 = z) := ⟨_, ⟨rfl⟩⟩
      obtain ⟨mr, HMM⟩ : ∃ z, Aside0 (moreS a2 = z) := ⟨_, ⟨rfl⟩⟩
      rw [HOV.out] at hov hove HPK
      rw [HMM.out] at hmre HML HMR HPK
      generalize (mst a2 4).getD 4 0 = x at *
      have hq : x / 67108864 = ov := hove.out.symm
      have e3 := and26 x (by omega) (by omega)
      have HM4 : Aside0 (Blk (wr.setCell ⟨G, 4, none⟩ (.int .u64 (x % 67108864))) G 79 (nums .u64 mr)) := ⟨by rw [hmre.out]; exact CiC.blk_put hM.out 4 _⟩
      have HX4 : Aside0 (Blk (wr.setCell ⟨G, 4, none⟩ (.int .u64 (x % 67108864))) w.heap.size 79 (nums .u64 a2)) := ⟨Blk.far hX.out (p := ⟨G, 4, none⟩) (by show w.heap.size ≠ G; omega) _⟩
      have HY4 : Aside0 (Blk (wr.setCell ⟨G, 4, none⟩ (.int .u64 (x % 67108864))) (w.heap.size + 1) 79 (nums .u64 (List.replicate 5 0))) := ⟨Blk.far hY.out (p := ⟨G, 4, none⟩) (by show w.heap.size + 1 ≠ G; omega) _⟩
      have HB4 : Aside0 (Below w.heap.size w (wr.setCell ⟨G, 4, none⟩ (.int .u64 (x % 67108864)))) := ⟨hB.setCell (p := ⟨G, 4, none⟩) (by show w.heap.size ≤ G; omega) _⟩
      clear hmo hove
      go_wp2_with fail
      obtain ⟨wo, HWO⟩ : ∃ wo : World, Aside0 (wo = wr.setCell ⟨G, 4, none⟩ (.int .u64 (x % 67108864))) := ⟨_, ⟨rfl⟩⟩
      rw [← HWO.out] at HM4 HX4 HY4 HB4 ⊢
      -- what is picked, limb by limb
      have hsel : ∀ u v : Int, (0 ≤ u ∧ u < 4294967296) → (0 ≤ v ∧ v < 4294967296) → Go.bits .or .u64 (Go.bits .andNot .u64 u (IntKind.u64.wrap (-ov))) (Go.bits .and .u64 v (IntKind.u64.wrap (-ov))) = if ov = 0 then u else v := by
        intro u v hu hv
        rcases hov with rfl | rfl
        · rw [if_pos rfl, show IntKind.u64.wrap (-0) = 0 from by decide, andNot0 u (by omega) (by omega), and0 v (by omega) (by omega), or0 u (by omega) (by omega)]
        · rw [if_neg (by decide), show IntKind.u64.wrap (-1) = 18446744073709551615 from by decide, andNot1 u (by omega) (by omega), and1 v (by omega) (by omega), or1 v (by omega) (by omega)]
      have HSEL := Aside0.mk hsel
      have hP : Aside0 ((pickS a2).length = 5) := ⟨by rw [HPK.out]; split; exact HLL.out; exact HML.out⟩
      obtain ⟨pk, HP⟩ : ∃ z, Aside0 (pickS a2 = z) := ⟨_, ⟨rfl⟩⟩
      rw [HP.out] at hP HPK hls
      have hX0 : Aside0 (Blk wo w.heap.size 79 (nums .u64 (pk.take 0 ++ a2.drop 0))) := ⟨HX4.out⟩
      generalize IntKind.u64.wrap (-ov) = M at *
      clear hsel
      go_loopw [44] (fun i wr => ∃ t : Nat, t ≤ 5 ∧ i = .int .i64 t ∧ Aside0 (Blk wr G 79 (nums .u64 mr)) ∧ Aside0 (Blk wr w.heap.size 79 (nums .u64 (pk.take t ++ a2.drop t))) ∧ Aside0 (Blk wr (w.heap.size + 1) 79 (nums .u64 (List.replicate 5 0))) ∧ Below w.heap.size w wr) (fun i _ => 5 - (intOf i).toNat)
      case atStart => exact ⟨0, by omega, rfl, HM4, hX0, HY4, HB4.out⟩
      case round =>
        clear HM4 hX0 HX4 HY4 HB4
        obtain ⟨t, htt, rfl, hM, hX, hY, hB⟩ := hrel
        have hlen : Aside0 ((pk.take t ++ a2.drop t).length = 5) := ⟨by rw [List.length_append, List.length_take, List.length_drop, hP.out, HLL.out]; omega⟩
        by_cases hlt : t < 5
        · have hlt' : (t : Int) < 5 := by omega
          have kx := blk_u64 hX.out t (by rw [hlen.out]; exact hlt)
          have km := blk_u64 hM.out t (by rw [HML.out]; exact hlt)
          have fx := Blk.frozen hX.out t
          have gu : (pk.take t ++ a2.drop t).getD t 0 = a2.getD t 0 := by
            rw [List.getD_eq_getElem?_getD, List.getElem?_append_right (by rw [List.length_take]; omega), List.length_take, hP.out, show t - min t 5 = 0 by omega, List.getElem?_drop, ← List.getD_eq_getElem?_getD]; rfl
          rw [gu] at kx
          have hu := low_lt H2.out t
          have hv := HMR.out t
          have hs := HSEL.out _ _ hu hv
          have hset : Aside0 ((pk.take t ++ a2.drop t).set t (if ov = 0 then a2.getD t 0 else mr.getD t 0) = pk.take (t + 1) ++ a2.drop (t + 1)) := ⟨by
            have e : (if ov = 0 then a2.getD t 0 else mr.getD t 0) = pk.getD t 0 := by rw [HPK.out]; split <;> rfl
            rw [e]
            exact set_take_drop pk a2 t (by rw [hP.out]; exact hlt) (by rw [HLL.out]; exact hlt)⟩
          generalize a2.getD t 0 = u at *
          generalize mr.getD t 0 = v at *
          generalize (if ov = 0 then u else v) = z at *
          go_wp2_with fail
          go_region
          have R1 : Aside0 (Blk (wr.setCell ⟨w.heap.size, t, none⟩ (.int .u64 z)) w.heap.size 79 (nums .u64 (pk.take (t + 1) ++ a2.drop (t + 1)))) := ⟨by rw [← hset.out]; exact CiC.blk_put hX.out t z⟩
          have R2 : Aside0 (Blk (wr.setCell ⟨w.heap.size, t, none⟩ (.int .u64 z)) G 79 (nums .u64 mr)) := ⟨Blk.far hM.out (p := ⟨w.heap.size, t, none⟩) (by show G ≠ w.heap.size; omega) _⟩
          have R3 : Aside0 (Blk (wr.setCell ⟨w.heap.size, t, none⟩ (.int .u64 z)) (w.heap.size + 1) 79 (nums .u64 (List.replicate 5 0))) := ⟨Blk.far hY.out (p := ⟨w.heap.size, t, none⟩) (by simp) _⟩
          clear hs
          go_wp2_with fail
          go_roundw
          case rel => exact ⟨t + 1, by omega, by go_num, ⟨R2.out⟩, ⟨R1.out⟩, ⟨R3.out⟩, (hB.setCell (p := ⟨w.heap.size, t, none⟩) (Nat.le_refl _) _).drew⟩
          case measure => simp [intOf]; omega
        · have hge : ¬ (t : Int) < 5 := by omega
          obtain rfl : t = 5 := by omega
          have hXX : Aside0 (Blk wr w.heap.size 79 (nums .u64 pk)) := ⟨by
            have h1 := hX.out
            rw [List.take_of_length_le (by rw [hP.out]; omega), List.drop_of_length_le (by rw [HLL.out]; omega), List.append_nil] at h1
            exact h1⟩
          clear hX
          go_wp2_with (first
            | (refine load_arr rfl 79 (.tmp 1) rfl w.heap.size rfl 79 .u64 pk 5 36 hXX.out Try.underlying79 size79 hP.out ?_)
            | (refine store_arr rfl 79 (.tmp 2) (.tmp 61) rfl (w.heap.size + 1) .u64 pk rfl rfl 79 5 _ hY.out size79 hP.out (by rw [nums_length]; rfl) ?_; intro w9 hZ hg9; have HZ := Aside0.mk hZ; have HG9 := Aside0.mk hg9; clear hZ hg9))
          refine bodyPost_ret (v := .agg (nums .u64 pk).toArray) ?_ rfl ⟨by rw [hls.out], hB.grown HG9.out hB.size (fun k hk => by cases hk; omega)⟩
          exact results_arr (p := 2) (ty := 79) rfl _ w9 (w.heap.size + 1) 79 5 36 .u64 pk rfl HZ.out Try.underlying79 size79 hP.out
end Go.Proofs.Ytkjmjgiklelpiaa.OtM
/- onetime.times, walked. -/
namespace Go.Proofs.Ytkjmjgiklelpiaa.OtT
open Go.RowKit Go.Proofs.YtkjmjgiklelpiaaW.PrintWords Go.Proofs.Ytkjmjgiklelpiaa.Num Go.Proofs.Ytkjmjgiklelpiaa.WordC Go.Proofs.Ytkjmjgiklelpiaa.Arr Go.Proofs.Ytkjmjgiklelpiaa.App Go.Proofs.Ytkjmjgiklelpiaa.CiC Go.Proofs.Ytkjmjgiklelpiaa.CiD Go.Proofs.Ytkjmjgiklelpiaa.OtC Go.Proofs.Ytkjmjgiklelpiaa.OtR Go.Proofs.Ytkjmjgiklelpiaa.OtL Go.Proofs.Ytkjmjgiklelpiaa.OtM
set_option linter.unusedVariables false
set_option linter.unusedSimpArgs false

/-- The product's limbs, one product of two limbs behind the other. -/
def tx (a r : List Int) (i k : Nat) : Int := if 4 < i + k then a.getD i 0 * r.getD k 0 * 5 else a.getD i 0 * r.getD k 0
def tst (a r : List Int) : Nat → List Int
  | 0 => [0, 0, 0, 0, 0]
  | j + 1 => (tst a r j).set ((j / 5 + j % 5) % 5) ((tst a r j).getD ((j / 5 + j % 5) % 5) 0 + tx a r (j / 5) (j % 5))
def timesS (a r : List Int) : List Int := carS (tst a r 25)
def IsBd (m : Int) (l : List Int) : Prop := ∀ j, 0 ≤ l.getD j 0 ∧ l.getD j 0 < m
theorem tst_length (a r : List Int) (j : Nat) : (tst a r j).length = 5 := by
  induction j with
  | zero => rfl
  | succ j ih => simp [tst, ih]
theorem mul_bd {x y : Int} (hx : 0 ≤ x ∧ x < 268435456) (hy : 0 ≤ y ∧ y < 67108864) : 0 ≤ x * y ∧ x * y < 18014398509481984 := by
  constructor
  · exact Int.mul_nonneg hx.1 hy.1
  · have h1 : x * y ≤ x * 67108863 := Int.mul_le_mul_of_nonneg_left (by omega) hx.1
    omega
theorem tx_bd {a r : List Int} (ha : IsBd 268435456 a) (hr : IsBd 67108864 r) (i k : Nat) : 0 ≤ tx a r i k ∧ tx a r i k < 90071992547409920 := by
  have := mul_bd (ha i) (hr k)
  unfold tx
  split <;> omega
theorem tst_bd {a r : List Int} (ha : IsBd 268435456 a) (hr : IsBd 67108864 r) (j : Nat) : ∀ m, 0 ≤ (tst a r j).getD m 0 ∧ (tst a r j).getD m 0 ≤ (j : Int) * 90071992547409920 := by
  induction j with
  | zero =>
    intro m
    have hm : m = 0 ∨ m = 1 ∨ m = 2 ∨ m = 3 ∨ m = 4 ∨ 5 ≤ m := by omega
    rcases hm with rfl | rfl | rfl | rfl | rfl | hm
    all_goals first
      | (simp [tst]; done)
      | (rw [List.getD_eq_getElem?_getD, List.getElem?_eq_none (by rw [tst_length]; exact hm)]; simp)
  | succ j ih =>
    intro m
    have hx := tx_bd ha hr (j / 5) (j % 5)
    simp only [tst]
    by_cases hm : (j / 5 + j % 5) % 5 = m
    · have h0 := ih m
      rw [hm, List.getD_eq_getElem?_getD, List.getElem?_set_self (by rw [tst_length]; omega), Option.getD_some]
      push_cast
      omega
    · have h0 := ih m
      rw [List.getD_eq_getElem?_getD, List.getElem?_set_ne hm, ← List.getD_eq_getElem?_getD]
      push_cast
      omega
theorem tst_isL {a r : List Int} (ha : IsBd 268435456 a) (hr : IsBd 67108864 r) : IsL (tst a r 25) := by
  intro x hx
  obtain ⟨m, hm, rfl⟩ := List.getElem_of_mem hx
  have h := tst_bd ha hr 25 m
  rw [List.getD_eq_getElem?_getD, List.getElem?_eq_getElem hm, Option.getD_some] at h
  omega
set_option maxHeartbeats 8000000 in
set_option maxRecDepth 100000 in
theorem times_c {a r : List Int} {w : World} (hla : a.length = 5) (hlr : r.length = 5) (ha : IsBd 268435456 a) (hr : IsBd 67108864 r) :
    Calls Try.prog 70 #[.agg (nums .u64 a).toArray, .agg (nums .u64 r).toArray] w fun e w' => e = .returned (.agg (nums .u64 (timesS a r)).toArray) ∧ Below w.heap.size w w' := by
  have HLA := Aside0.mk hla
  have HLR := Aside0.mk hlr
  have HA := Aside0.mk ha
  have HR := Aside0.mk hr
  clear hla hlr ha hr
  go_enter Try.func70, Try.ntmps70
  go_upto_region 1 with (fail)
  generalize hW : ((w.alloc _).alloc _).alloc _ = W0
  have hA : Aside0 (Blk W0 w.heap.size 79 (nums .u64 a)) := ⟨by rw [← hW]; exact Blk.alloc (heap_alloc2_old _ _ _) _⟩
  have hR : Aside0 (Blk W0 (w.heap.size + 1) 79 (nums .u64 r)) := ⟨by rw [← hW]; exact Blk.alloc (heap_alloc2_new _ _ _) _⟩
  have hB : Below w.heap.size w W0 := by rw [← hW]; exact (((Below.refl _ w).alloc (Nat.le_refl _) _).alloc (by simp) _).alloc (by simp; omega) _
  have hsz : W0.heap.size = w.heap.size + 3 := by rw [← hW]; simp
  have hY : Aside0 (Blk W0 (w.heap.size + 1 + 1) 79 (nums .u64 (List.replicate 5 0))) := ⟨by
    rw [← hW]
    have := heap_alloc_new ((w.alloc (.cells (nums .u64 a).toArray 79)).alloc (.cells (nums .u64 r).toArray 79)) (.cells (nums .u64 (List.replicate 5 0)).toArray 79)
    have hs : ((w.alloc (.cells (nums .u64 a).toArray 79)).alloc (.cells (nums .u64 r).toArray 79)).heap.size = w.heap.size + 1 + 1 := by simp
    rw [hs] at this
    exact this⟩
  clear hW
  have hD1 : Aside0 (Blk (W0.alloc (.cells (nums .u64 (List.replicate 5 0)).toArray 79)) (w.heap.size + 3) 79 (nums .u64 (tst a r 0))) := ⟨by rw [← hsz]; exact heap_alloc_new _ _⟩
  have hA1 : Aside0 (Blk (W0.alloc (.cells (nums .u64 (List.replicate 5 0)).toArray 79)) w.heap.size 79 (nums .u64 a)) := ⟨Blk.alloc hA.out _⟩
  have hR1 : Aside0 (Blk (W0.alloc (.cells (nums .u64 (List.replicate 5 0)).toArray 79)) (w.heap.size + 1) 79 (nums .u64 r)) := ⟨Blk.alloc hR.out _⟩
  have hY1 : Aside0 (Blk (W0.alloc (.cells (nums .u64 (List.replicate 5 0)).toArray 79)) (w.heap.size + 1 + 1) 79 (nums .u64 (List.replicate 5 0))) := ⟨Blk.alloc hY.out _⟩
  have hB1 : Below w.heap.size w (W0.alloc (.cells (nums .u64 (List.replicate 5 0)).toArray 79)) := hB.alloc hB.size _
  clear hA hR hY hB
  go_wp2_with fail
  generalize hW1 : W0.alloc _ = W1
  rw [show W0.alloc (.cells (nums .u64 (List.replicate 5 0)).toArray 79) = W1 from hW1] at hD1 hA1 hR1 hY1 hB1
  clear hW1 hsz
  go_loopw [9] (fun i wr => ∃ t : Nat, t ≤ 5 ∧ i = .int .i64 t ∧ Aside0 (Blk wr (w.heap.size + 3) 79 (nums .u64 (tst a r (5 * t)))) ∧ Aside0 (Blk wr w.heap.size 79 (nums .u64 a)) ∧ Aside0 (Blk wr (w.heap.size + 1) 79 (nums .u64 r)) ∧ Aside0 (Blk wr (w.heap.size + 1 + 1) 79 (nums .u64 (List.replicate 5 0))) ∧ Below w.heap.size w wr) (fun i _ => 5 - (intOf i).toNat)
  case atStart => exact ⟨0, by omega, rfl, hD1, hA1, hR1, hY1, hB1⟩
  case round =>
    clear hD1 hA1 hR1 hY1 hB1
    obtain ⟨t, ht, rfl, hD, hA, hR, hY, hB⟩ := hrel
    by_cases hlt : t < 5
    · have hlt' : (t : Int) < 5 := by omega
      go_wp2_with fail
      go_loopw [12] (fun i wr => ∃ k : Nat, k ≤ 5 ∧ i = .int .i64 k ∧ Aside0 (Blk wr (w.heap.size + 3) 79 (nums .u64 (tst a r (5 * t + k)))) ∧ Aside0 (Blk wr w.heap.size 79 (nums .u64 a)) ∧ Aside0 (Blk wr (w.heap.size + 1) 79 (nums .u64 r)) ∧ Aside0 (Blk wr (w.heap.size + 1 + 1) 79 (nums .u64 (List.replicate 5 0))) ∧ Below w.heap.size w wr) (fun i _ => 5 - (intOf i).toNat)
      case atStart => exact ⟨0, by omega, rfl, hD, hA, hR, hY, hB⟩
      case round =>
        clear hD hA hR hY hB
        obtain ⟨k, hk, rfl, hD, hA, hR, hY, hB⟩ := hrel
        by_cases hlk : k < 5
        · have hlk' : (k : Int) < 5 := by omega
          have ka := blk_u64 hA.out t (by rw [HLA.out]; exact hlt)
          have kr := blk_u64 hR.out k (by rw [HLR.out]; exact hlk)
          have kd := blk_u64 hD.out ((t + k) % 5) (by rw [tst_length]; omega)
          have fd := Blk.frozen hD.out ((t + k) % 5)
          have hmb := mul_bd (HA.out t) (HR.out k)
          have hdb := tst_bd HA.out HR.out (5 * t + k) ((t + k) % 5)
          have hnx : Aside0 (tst a r (5 * t + (k + 1)) = (tst a r (5 * t + k)).set ((t + k) % 5) ((tst a r (5 * t + k)).getD ((t + k) % 5) 0 + (if 4 < t + k then a.getD t 0 * r.getD k 0 * 5 else a.getD t 0 * r.getD k 0))) := ⟨by
            rw [show 5 * t + (k + 1) = (5 * t + k) + 1 by omega]
            show (tst a r (5 * t + k)).set _ _ = _
            rw [show (5 * t + k) / 5 = t by omega, show (5 * t + k) % 5 = k by omega]; rfl⟩
          generalize a.getD t 0 = x at *
          generalize r.getD k 0 = y at *
          generalize (tst a r (5 * t + k)).getD ((t + k) % 5) 0 = z at *
          generalize hpq : x * y = pq at *
          have HPQ := Aside0.mk hpq
          clear hpq
          have e1 : IntKind.u64.wrap (x * y) = pq := by rw [HPQ.out, IntKind.wrap_u64]; omega
          have e0 : (x * y) % 18446744073709551616 = pq := by rw [HPQ.out]; omega
          have j1 : (0 : Int) ≤ ((t : Int) + (k : Int)) % 5 := by omega
          have j2 : ((t : Int) + (k : Int)) % 5 < 5 := by omega
          have j3 : (((t : Int) + (k : Int)) % 5).toNat = (t + k) % 5 := by omega
          go_upto_region 8 with (fail)
          go_region
          have hnx' := hnx.out
          clear hnx
          have hnx := hnx'
          clear hnx'
          by_cases h4 : 4 < t + k
          · have hk4 : (4 : Int) < (t : Int) + (k : Int) := by omega
            rw [if_pos h4] at hnx
            have e5 : (pq * 5) % 18446744073709551616 = pq * 5 := by omega
            have e6 : (z + pq * 5) % 18446744073709551616 = (z + pq * 5) := by omega
            have HNX := Aside0.mk hnx
            clear hnx
            go_wp2_with fail
            have R1 : Aside0 (Blk (wr.setCell ⟨w.heap.size + 3, (t + k) % 5, none⟩ (.int .u64 (z + pq * 5))).drew (w.heap.size + 3) 79 (nums .u64 (tst a r (5 * t + (k + 1))))) := ⟨by rw [HNX.out]; exact CiC.blk_put hD.out ((t + k) % 5) _⟩
            have R2 : Aside0 (Blk (wr.setCell ⟨w.heap.size + 3, (t + k) % 5, none⟩ (.int .u64 (z + pq * 5))).drew w.heap.size 79 (nums .u64 a)) := ⟨Blk.far hA.out (p := ⟨w.heap.size + 3, (t + k) % 5, none⟩) (by show w.heap.size ≠ w.heap.size + 3; omega) _⟩
            have R3 : Aside0 (Blk (wr.setCell ⟨w.heap.size + 3, (t + k) % 5, none⟩ (.int .u64 (z + pq * 5))).drew (w.heap.size + 1) 79 (nums .u64 r)) := ⟨Blk.far hR.out (p := ⟨w.heap.size + 3, (t + k) % 5, none⟩) (by show w.heap.size + 1 ≠ w.heap.size + 3; omega) _⟩
            have R4 : Aside0 (Blk (wr.setCell ⟨w.heap.size + 3, (t + k) % 5, none⟩ (.int .u64 (z + pq * 5))).drew (w.heap.size + 1 + 1) 79 (nums .u64 (List.replicate 5 0))) := ⟨Blk.far hY.out (p := ⟨w.heap.size + 3, (t + k) % 5, none⟩) (by show w.heap.size + 1 + 1 ≠ w.heap.size + 3; omega) _⟩
            go_roundw
            case rel => exact ⟨k + 1, by omega, by go_num, R1, R2, R3, R4, (hB.setCell (p := ⟨w.heap.size + 3, (t + k) % 5, none⟩) (by show w.heap.size ≤ w.heap.size + 3; omega) _).drew⟩
            case measure => simp [intOf]; omega
          · have hk4 : ¬ (4 : Int) < (t : Int) + (k : Int) := by omega
            rw [if_neg h4] at hnx
            have e6 : (z + pq) % 18446744073709551616 = (z + pq) := by omega
            have HNX := Aside0.mk hnx
            clear hnx
            go_wp2_with fail
            have R1 : Aside0 (Blk (wr.setCell ⟨w.heap.size + 3, (t + k) % 5, none⟩ (.int .u64 (z + pq))).drew (w.heap.size + 3) 79 (nums .u64 (tst a r (5 * t + (k + 1))))) := ⟨by rw [HNX.out]; exact CiC.blk_put hD.out ((t + k) % 5) _⟩
            have R2 : Aside0 (Blk (wr.setCell ⟨w.heap.size + 3, (t + k) % 5, none⟩ (.int .u64 (z + pq))).drew w.heap.size 79 (nums .u64 a)) := ⟨Blk.far hA.out (p := ⟨w.heap.size + 3, (t + k) % 5, none⟩) (by show w.heap.size ≠ w.heap.size + 3; omega) _⟩
            have R3 : Aside0 (Blk (wr.setCell ⟨w.heap.size + 3, (t + k) % 5, none⟩ (.int .u64 (z + pq))).drew (w.heap.size + 1) 79 (nums .u64 r)) := ⟨Blk.far hR.out (p := ⟨w.heap.size + 3, (t + k) % 5, none⟩) (by show w.heap.size + 1 ≠ w.heap.size + 3; omega) _⟩
            have R4 : Aside0 (Blk (wr.setCell ⟨w.heap.size + 3, (t + k) % 5, none⟩ (.int .u64 (z + pq))).drew (w.heap.size + 1 + 1) 79 (nums .u64 (List.replicate 5 0))) := ⟨Blk.far hY.out (p := ⟨w.heap.size + 3, (t + k) % 5, none⟩) (by show w.heap.size + 1 + 1 ≠ w.heap.size + 3; omega) _⟩
            go_roundw
            case rel => exact ⟨k + 1, by omega, by go_num, R1, R2, R3, R4, (hB.setCell (p := ⟨w.heap.size + 3, (t + k) % 5, none⟩) (by show w.heap.size ≤ w.heap.size + 3; omega) _).drew⟩
            case measure => simp [intOf]; omega
        · have hgk : ¬ (k : Int) < 5 := by omega
          obtain rfl : k = 5 := by omega
          go_wp2_with fail
          go_roundw
          case rel => exact ⟨t + 1, by omega, by go_num, hD, hA, hR, hY, hB⟩
          case measure => simp [intOf]; omega
    · have hge : ¬ (t : Int) < 5 := by omega
      obtain rfl : t = 5 := by omega
      have hdl : Aside0 ((tst a r 25).length = 5) := ⟨tst_length a r 25⟩
      have hdi := Aside0.mk (tst_isL HA.out HR.out)
      have hD25 : Aside0 (Blk wr (w.heap.size + 3) 79 (nums .u64 (tst a r 25))) := hD
      have htm : Aside0 (timesS a r = carS (tst a r 25)) := ⟨rfl⟩
      obtain ⟨D, HD⟩ : ∃ D, Aside0 (tst a r 25 = D) := ⟨_, ⟨rfl⟩⟩
      rw [HD.out] at hdl hdi hD25 htm
      clear hD
      go_wp2_with (first
        | (refine load_arr rfl 79 (.tmp 5) rfl (w.heap.size + 3) rfl 79 .u64 D 5 36 hD25.out Try.underlying79 size79 hdl.out ?_))
      refine (carried_c hdl.out hdi.out).mono ?_
      rintro x w2 ⟨rfl, hb2⟩
      have hcl : Aside0 ((carS D).length = 5) := ⟨by simp [carS, top5, cst_length]; exact hdl.out⟩
      obtain ⟨S, HS⟩ : ∃ S, Aside0 (carS D = S) := ⟨_, ⟨rfl⟩⟩
      rw [HS.out] at hcl htm ⊢
      have HY2 := Aside0.mk (hY.out.below hb2)
      have HB2 := Aside0.mk (below_next hB hb2)
      clear hb2
      go_wp2_with (first
        | (refine store_arr rfl 79 (.tmp 4) (.tmp 40) rfl (w.heap.size + 1 + 1) .u64 S rfl rfl 79 5 _ HY2.out size79 hcl.out (by rw [nums_length]; rfl) ?_; intro w9 hZ hg9; have HZ := Aside0.mk hZ; have HG9 := Aside0.mk hg9; clear hZ hg9))
      refine bodyPost_ret (v := .agg (nums .u64 S).toArray) ?_ rfl ⟨by rw [htm.out], HB2.out.grown HG9.out HB2.out.size (fun k hk => by cases hk; omega)⟩
      exact results_arr (p := 4) (ty := 79) rfl _ w9 (w.heap.size + 1 + 1) 79 5 36 .u64 S rfl HZ.out Try.underlying79 size79 hcl.out
end Go.Proofs.Ytkjmjgiklelpiaa.OtT
/- onetime: what the limbs are worth. -/
namespace Go.Proofs.Ytkjmjgiklelpiaa.OtV
open Go.RowKit Go.Proofs.YtkjmjgiklelpiaaW.PrintWords Go.Proofs.Ytkjmjgiklelpiaa.Num Go.Proofs.Ytkjmjgiklelpiaa.WordC Go.Proofs.Ytkjmjgiklelpiaa.Arr Go.Proofs.Ytkjmjgiklelpiaa.App Go.Proofs.Ytkjmjgiklelpiaa.CiC Go.Proofs.Ytkjmjgiklelpiaa.CiD Go.Proofs.Ytkjmjgiklelpiaa.OtC Go.Proofs.Ytkjmjgiklelpiaa.OtR Go.Proofs.Ytkjmjgiklelpiaa.OtL Go.Proofs.Ytkjmjgiklelpiaa.OtM Go.Proofs.Ytkjmjgiklelpiaa.OtT
set_option linter.unusedVariables false
set_option linter.unusedSimpArgs false

/-- What limbs are worth. -/
def val (l : List Int) : Int := l.getD 0 0 + l.getD 1 0 * 67108864 + l.getD 2 0 * 4503599627370496 + l.getD 3 0 * 302231454903657293676544 + l.getD 4 0 * 20282409603651670423947251286016
/-- 2^130 - 5 -/
def P130 : Int := 1361129467683753853853498429727072845819
theorem car_val (d : List Int) (hl : d.length = 5) (h : IsL d) : ∃ k : Int, val (carS d) = val d - k * P130 := by
  match d, hl with
  | [a, b, c, e, f], _ =>
    refine ⟨(cst [a, b, c, e, f] 5).2, ?_⟩
    simp only [val, carS, top5, cst, P130, List.getD_cons_zero, List.getD_cons_succ, List.set_cons_zero, List.set_cons_succ]
    omega
theorem tst_val (a r : List Int) (hla : a.length = 5) (hlr : r.length = 5) : ∃ k : Int, val (tst a r 25) = val a * val r - k * P130 := by
  match a, hla, r, hlr with
  | [a0, a1, a2, a3, a4], _, [r0, r1, r2, r3, r4], _ =>
    refine ⟨(a1 * r4 + a2 * r3 + a3 * r2 + a4 * r1) + (a2 * r4 + a3 * r3 + a4 * r2) * 67108864 + (a3 * r4 + a4 * r3) * 4503599627370496 + a4 * r4 * 302231454903657293676544, ?_⟩
    simp [val, tst, tx, P130]
    grind
/-- Bytes' number, the lowest first. -/
def le (b : List Int) : Int := be b.reverse
theorem read_val (b : List Int) (top : Int) (hl : b.length = 16) (h : IsB b) : val (readS b top) = le b + top * 340282366920938463463374607431768211456 := by
  match b, hl with
  | [b0, b1, b2, b3, b4, b5, b6, b7, b8, b9, b10, b11, b12, b13, b14, b15], _ =>
    have h0 := h b0 (by simp)
    have h1 := h b1 (by simp)
    have h2 := h b2 (by simp)
    have h3 := h b3 (by simp)
    have h4 := h b4 (by simp)
    have h5 := h b5 (by simp)
    have h6 := h b6 (by simp)
    have h7 := h b7 (by simp)
    have h8 := h b8 (by simp)
    have h9 := h b9 (by simp)
    have h10 := h b10 (by simp)
    have h11 := h b11 (by simp)
    have h12 := h b12 (by simp)
    have h13 := h b13 (by simp)
    have h14 := h b14 (by simp)
    have h15 := h b15 (by simp)
    clear h
    simp [val, readS, rdT, limb, loadW, le, be]
    omega
/-- Limbs of 26 bits. -/
def Can (l : List Int) : Prop := ∃ a b c d e : Int, l = [a, b, c, d, e] ∧ (0 ≤ a ∧ a < 67108864) ∧ (0 ≤ b ∧ b < 67108864) ∧ (0 ≤ c ∧ c < 67108864) ∧ (0 ≤ d ∧ d < 67108864) ∧ (0 ≤ e ∧ e < 67108864)
theorem car_can {l : List Int} (h : Low l) : Can (carS l) := by
  obtain ⟨a, b, c, d, e, rfl, h1, h2, h3, h4, h5⟩ := h
  refine ⟨_, _, _, _, _, rfl, ?_⟩
  simp [cst]
  omega
theorem pick_val {l : List Int} (h : Can l) : Can (pickS l) ∧ val (pickS l) = val l % P130 := by
  obtain ⟨a, b, c, d, e, rfl, h1, h2, h3, h4, h5⟩ := h
  unfold pickS
  split
  · rename_i ho
    refine ⟨⟨a, b, c, d, e, rfl, h1, h2, h3, h4, h5⟩, ?_⟩
    simp [overS, mst] at ho
    simp [val, P130]
    omega
  · rename_i ho
    simp [overS, mst] at ho
    refine ⟨⟨_, _, _, _, _, rfl, ?_⟩, ?_⟩
    · simp [mst]
      omega
    · simp [val, moreS, mst, P130]
      have o1 : (a + 5) / 67108864 ≤ 1 := by omega
      have o2 : (b + (a + 5) / 67108864) / 67108864 ≤ 1 := by omega
      have o3 : (c + (b + (a + 5) / 67108864) / 67108864) / 67108864 ≤ 1 := by omega
      have o4 : (d + (c + (b + (a + 5) / 67108864) / 67108864) / 67108864) / 67108864 ≤ 1 := by omega
      have o5 : (e + (d + (c + (b + (a + 5) / 67108864) / 67108864) / 67108864) / 67108864) / 67108864 = 1 := by omega
      have n1 := Int.emod_add_mul_ediv (a + 5) 67108864
      have n2 := Int.emod_add_mul_ediv (b + (a + 5) / 67108864) 67108864
      have n3 := Int.emod_add_mul_ediv (c + (b + (a + 5) / 67108864) / 67108864) 67108864
      have n4 := Int.emod_add_mul_ediv (d + (c + (b + (a + 5) / 67108864) / 67108864) / 67108864) 67108864
      have n5 := Int.emod_add_mul_ediv (e + (d + (c + (b + (a + 5) / 67108864) / 67108864) / 67108864) / 67108864) 67108864
      have m1 := Int.emod_nonneg (a + 5) (show (67108864 : Int) ≠ 0 by decide)
      have m2 := Int.emod_nonneg (b + (a + 5) / 67108864) (show (67108864 : Int) ≠ 0 by decide)
      have m3 := Int.emod_nonneg (c + (b + (a + 5) / 67108864) / 67108864) (show (67108864 : Int) ≠ 0 by decide)
      have m4 := Int.emod_nonneg (d + (c + (b + (a + 5) / 67108864) / 67108864) / 67108864) (show (67108864 : Int) ≠ 0 by decide)
      have m5 := Int.emod_nonneg (e + (d + (c + (b + (a + 5) / 67108864) / 67108864) / 67108864) / 67108864) (show (67108864 : Int) ≠ 0 by decide)
      rw [o5] at n5
      generalize (e + (d + (c + (b + (a + 5) / 67108864) / 67108864) / 67108864) / 67108864) % 67108864 = y5 at *
      generalize (d + (c + (b + (a + 5) / 67108864) / 67108864) / 67108864) % 67108864 = y4 at *
      generalize (d + (c + (b + (a + 5) / 67108864) / 67108864) / 67108864) / 67108864 = x4 at *
      generalize (c + (b + (a + 5) / 67108864) / 67108864) % 67108864 = y3 at *
      generalize (c + (b + (a + 5) / 67108864) / 67108864) / 67108864 = x3 at *
      generalize (b + (a + 5) / 67108864) % 67108864 = y2 at *
      generalize (b + (a + 5) / 67108864) / 67108864 = x2 at *
      generalize (a + 5) % 67108864 = y1 at *
      generalize (a + 5) / 67108864 = x1 at *
      clear o1 o2 o3 o4 o5 ho
      generalize hV : a + b * 67108864 + c * 4503599627370496 + d * 302231454903657293676544 + e * 20282409603651670423947251286016 = V
      have hV1 : y1 + y2 * 67108864 + y3 * 4503599627370496 + y4 * 302231454903657293676544 + y5 * 20282409603651670423947251286016 = V - 1361129467683753853853498429727072845819 := by omega
      rw [hV1]
      have hV2 : V < 1361129467683753853853498429727072845824 := by omega
      have hV3 : 0 ≤ V - 1361129467683753853853498429727072845819 := by omega
      rw [show V % 1361129467683753853853498429727072845819 = (V - 1361129467683753853853498429727072845819) % 1361129467683753853853498429727072845819 by omega]
      exact (Int.emod_eq_of_lt hV3 (by omega)).symm
theorem least_val {a : List Int} (hl : a.length = 5) (h : IsL a) : Can (leastS a) ∧ val (leastS a) = val a % P130 := by
  have hlow := carS_low hl h
  obtain ⟨k1, e1⟩ := car_val a hl h
  obtain ⟨k2, e2⟩ := car_val (carS a) hlow.length hlow.isL
  have hp := pick_val (car_can hlow)
  refine ⟨hp.1, ?_⟩
  have h2 := hp.2
  unfold leastS
  rw [h2, e2, e1]
  unfold P130
  omega
/-- One block more: what the accumulator is worth. -/
theorem times_val {a r : List Int} (hla : a.length = 5) (hlr : r.length = 5) (ha : IsBd 268435456 a) (hr : IsBd 67108864 r) : Low (timesS a r) ∧ val (timesS a r) % P130 = val a * val r % P130 := by
  have hi := tst_isL ha hr
  obtain ⟨k1, e1⟩ := tst_val a r hla hlr
  obtain ⟨k2, e2⟩ := car_val _ (tst_length a r 25) hi
  refine ⟨carS_low (tst_length a r 25) hi, ?_⟩
  unfold timesS
  rw [e2, e1]
  generalize val a * val r = z
  unfold P130
  omega
end Go.Proofs.Ytkjmjgiklelpiaa.OtV
/- onetime.take, walked. -/
namespace Go.Proofs.Ytkjmjgiklelpiaa.OtK
open Go.RowKit Go.Proofs.YtkjmjgiklelpiaaW.PrintWords Go.Proofs.Ytkjmjgiklelpiaa.Num Go.Proofs.Ytkjmjgiklelpiaa.WordC Go.Proofs.Ytkjmjgiklelpiaa.Arr Go.Proofs.Ytkjmjgiklelpiaa.App Go.Proofs.Ytkjmjgiklelpiaa.CiC Go.Proofs.Ytkjmjgiklelpiaa.CiD Go.Proofs.Ytkjmjgiklelpiaa.OtC Go.Proofs.Ytkjmjgiklelpiaa.OtR Go.Proofs.Ytkjmjgiklelpiaa.OtL Go.Proofs.Ytkjmjgiklelpiaa.OtM Go.Proofs.Ytkjmjgiklelpiaa.OtT Go.Proofs.Ytkjmjgiklelpiaa.OtV
set_option linter.unusedVariables false
set_option linter.unusedSimpArgs false

theorem range_blk {w : World} {g t : Nat} {cs : List Value} (h : Blk w g t cs) : w.rangeAt g 0 cs := fun j v hj => by
  rw [Nat.zero_add, Blk.cell h]; exact hj
theorem range_under {w w1 : World} {g o B : Nat} {cs : List Value} (h : w.rangeAt g o cs) (hb : Below B w w1) (hg : g < B) : w1.rangeAt g o cs := fun j v hj =>
  (hb.cell (p := ⟨g, o + j, none⟩) hg).trans (h j v hj)
theorem range_num {w : World} {g o : Nat} {l : List Int} (h : w.rangeAt g o (nums .u64 l)) (i : Nat) (hi : i < l.length) : w.cell? ⟨g, o + i, none⟩ = some (.int .u64 (l.getD i 0)) := h i _ (nums_get .u64 l i hi)
/-- Limbs added. -/
def addT (b a : List Int) : Nat → List Int
  | 0 => b
  | t + 1 => (addT b a t).set t ((addT b a t).getD t 0 + a.getD t 0)
def takeS (a r b : List Int) : List Int := timesS (addT b a 5) r
theorem addT_length (b a : List Int) (t : Nat) : (addT b a t).length = b.length := by
  induction t with
  | zero => rfl
  | succ t ih => simp [addT, ih]
theorem addT_get (b a : List Int) (hb : b.length = 5) (t m : Nat) : (addT b a t).getD m 0 = if m < t ∧ m < 5 then b.getD m 0 + a.getD m 0 else b.getD m 0 := by
  induction t with
  | zero => simp [addT]
  | succ t ih =>
    simp only [addT]
    by_cases hm : t = m
    · subst hm
      by_cases h5 : t < 5
      · rw [List.getD_eq_getElem?_getD, List.getElem?_set_self (by rw [addT_length, hb]; exact h5), Option.getD_some, ih]
        rw [if_neg (by omega), if_pos (by omega)]
      · rw [List.getD_eq_getElem?_getD, List.getElem?_eq_none (by simp [addT_length, hb]; omega), if_neg (by omega), List.getD_eq_getElem?_getD, List.getElem?_eq_none (by omega)]
    · rw [List.getD_eq_getElem?_getD, List.getElem?_set_ne hm, ← List.getD_eq_getElem?_getD, ih]
      by_cases h1 : m < t ∧ m < 5
      · rw [if_pos h1, if_pos (by omega)]
      · rw [if_neg h1, if_neg (by omega)]
theorem addT_bd {a b : List Int} (hb : b.length = 5) (ha : IsBd 134217728 a) (hb2 : IsBd 134217728 b) (t : Nat) : IsBd 268435456 (addT b a t) := by
  intro m
  have h1 := ha m
  have h2 := hb2 m
  rw [addT_get b a hb t m]
  split <;> omega
set_option maxHeartbeats 8000000 in
set_option maxRecDepth 100000 in
theorem take_c {g : Nat} {a r b : List Int} {w : World} (hr : w.rangeAt g 0 (nums .u64 r)) (ha : w.rangeAt g 5 (nums .u64 a)) (hg : g < w.heap.size) (hla : a.length = 5) (hlr : r.length = 5) (hlb : b.length = 5) (ba : IsBd 134217728 a) (br : IsBd 67108864 r) (bb : IsBd 134217728 b) :
    Calls Try.prog 55 #[.pointer (some ⟨g, 0, none⟩), .agg (nums .u64 b).toArray] w fun e w' => e = .returned (.agg (nums .u64 (takeS a r b)).toArray) ∧ Below w.heap.size w w' := by
  have HLA := Aside0.mk hla
  have HLR := Aside0.mk hlr
  have HLB := Aside0.mk hlb
  have BA := Aside0.mk ba
  have BR := Aside0.mk br
  have BB := Aside0.mk bb
  have HRG := Aside0.mk hr
  have HAG := Aside0.mk ha
  clear hla hlr hlb ba br bb hr ha
  go_enter Try.func55, Try.ntmps55
  go_wp2_with fail
  generalize hW : (w.alloc _).alloc _ = W0
  have hX : Aside0 (Blk W0 w.heap.size 79 (nums .u64 (addT b a 0))) := ⟨by rw [← hW]; exact heap_alloc2_old _ _ _⟩
  have hY : Aside0 (Blk W0 (w.heap.size + 1) 79 (nums .u64 (List.replicate 5 0))) := ⟨by rw [← hW]; exact heap_alloc2_new _ _ _⟩
  have hB : Below w.heap.size w W0 := by rw [← hW]; exact ((Below.refl _ w).alloc (Nat.le_refl _) _).alloc (by simp) _
  clear hW
  go_loopw [6] (fun i wr => ∃ t : Nat, t ≤ 5 ∧ i = .int .i64 t ∧ Aside0 (Blk wr w.heap.size 79 (nums .u64 (addT b a t))) ∧ Aside0 (Blk wr (w.heap.size + 1) 79 (nums .u64 (List.replicate 5 0))) ∧ Below w.heap.size w wr) (fun i _ => 5 - (intOf i).toNat)
  case atStart => exact ⟨0, by omega, rfl, hX, hY, hB⟩
  case round =>
    clear hX hY hB
    obtain ⟨t, ht, rfl, hX, hY, hB⟩ := hrel
    by_cases hlt : t < 5
    · have hlt' : (t : Int) < 5 := by omega
      have kx := blk_u64 hX.out t (by rw [addT_length, HLB.out]; exact hlt)
      have fx := Blk.frozen hX.out t
      have ka := range_num (range_under HAG.out hB hg) t (by rw [HLA.out]; exact hlt)
      have hx := addT_bd HLB.out BA.out BB.out t t
      have hy := BA.out t
      have hnx : Aside0 (addT b a (t + 1) = (addT b a t).set t ((addT b a t).getD t 0 + a.getD t 0)) := ⟨rfl⟩
      generalize (addT b a t).getD t 0 = x at *
      generalize a.getD t 0 = y at *
      have e1 : (x + y) % 18446744073709551616 = x + y := by omega
      go_wp2_with fail
      go_region
      have R1 : Aside0 (Blk (wr.setCell ⟨w.heap.size, t, none⟩ (.int .u64 (x + y))).drew w.heap.size 79 (nums .u64 (addT b a (t + 1)))) := ⟨by rw [hnx.out]; exact CiC.blk_put hX.out t _⟩
      have R2 : Aside0 (Blk (wr.setCell ⟨w.heap.size, t, none⟩ (.int .u64 (x + y))).drew (w.heap.size + 1) 79 (nums .u64 (List.replicate 5 0))) := ⟨Blk.far hY.out (p := ⟨w.heap.size, t, none⟩) (by simp) _⟩
      go_wp2_with fail
      go_roundw
      case rel => exact ⟨t + 1, by omega, by go_num, R1, R2, (hB.setCell (p := ⟨w.heap.size, t, none⟩) (Nat.le_refl _) _).drew⟩
      case measure => simp [intOf]; omega
    · have hge : ¬ (t : Int) < 5 := by omega
      obtain rfl : t = 5 := by omega
      have hls : Aside0 ((addT b a 5).length = 5) := ⟨by rw [addT_length]; exact HLB.out⟩
      have hbs := Aside0.mk (addT_bd HLB.out BA.out BB.out 5)
      have htk : Aside0 (takeS a r b = timesS (addT b a 5) r) := ⟨rfl⟩
      obtain ⟨D, HD⟩ : ∃ D, Aside0 (addT b a 5 = D) := ⟨_, ⟨rfl⟩⟩
      rw [HD.out] at hls hbs htk hX
      have hRg := range_under HRG.out hB hg
      have hXg := range_blk hX.out
      have hu79 := Try.underlying79
      have hi1 : (Try.prog.info? 79).map (·.size) = some (nums .u64 D).length := by rw [nums_length, hls.out]; exact size79
      have hi2 : (Try.prog.info? 79).map (·.size) = some (nums .u64 r).length := by rw [nums_length, HLR.out]; exact size79
      have HI1 := Aside0.mk hi1
      have HI2 := Aside0.mk hi2
      clear hi1 hi2
      go_wp2_with fail
      refine wp_region_held_drew (S := fun w' => w'.rangeAt w.heap.size 0 (nums .u64 D) ∧ w'.rangeAt g 0 (nums .u64 r)) (by kernel_rfl) ?_ (fun hHeld => ?_)
      · exact ⟨hXg, hRg⟩
      refine wpAnyH_take (i := 0) (List.getElem?_toArray.trans rfl) (by kernel_rfl) (by kernel_rfl) (by kernel_rfl) (fun _ _ _ h => h) (yieldsIf_load_mid (by rfl) 79 (.tmp 3) rfl w.heap.size 0 rfl (nums .u64 D) _ (fun _ h => h.1) hu79 rfl HI1.out) (by assumption) ?_
      (try simp only [Act.put, List.setIfInBounds_toArray, List.set_cons_zero, List.set_cons_succ])
      refine wpAnyH_take (i := 1) (v := ?_) (List.getElem?_toArray.trans rfl) (by kernel_rfl) (by kernel_rfl) (by kernel_rfl) (fun _ _ _ h => h) (Or.inl ⟨by rfl, ?_⟩) (by assumption) ?_
      rotate_left
      · (intro w hSw; (try dsimp only at hSw); go_simp; try with_reducible rfl)
      (try simp only [Act.put, List.setIfInBounds_toArray, List.set_cons_zero, List.set_cons_succ])
      refine wpAnyH_take (i := 2) (v := ?_) (List.getElem?_toArray.trans rfl) (by kernel_rfl) (by kernel_rfl) (by kernel_rfl) (fun _ _ _ h => h) (Or.inl ⟨by rfl, ?_⟩) (by assumption) ?_
      rotate_left
      · (intro w hSw; (try dsimp only at hSw); go_simp; try with_reducible rfl)
      (try simp only [Act.put, List.setIfInBounds_toArray, List.set_cons_zero, List.set_cons_succ])
      refine wpAnyH_take (i := 3) (v := ?_) (List.getElem?_toArray.trans rfl) (by kernel_rfl) (by kernel_rfl) (by kernel_rfl) (fun _ _ _ h => h) (Or.inl ⟨by rfl, ?_⟩) (by assumption) ?_
      rotate_left
      · (intro w hSw; (try dsimp only at hSw); go_simp; try with_reducible rfl)
      (try simp only [Act.put, List.setIfInBounds_toArray, List.set_cons_zero, List.set_cons_succ])
      refine wpAnyH_take (i := 4) (List.getElem?_toArray.trans rfl) (by kernel_rfl) (by kernel_rfl) (by kernel_rfl) (fun _ _ _ h => h) (yieldsIf_load_mid (by rfl) 79 (.tmp 24) rfl g 0 rfl (nums .u64 r) _ (fun _ h => h.2) hu79 rfl HI2.out) (by assumption) ?_
      (try simp only [Act.put, List.setIfInBounds_toArray, List.set_cons_zero, List.set_cons_succ])
      refine wpAnyH_ready (rs := [5]) (by kernel_rfl) (by simp) (AllReadyH.cons (List.getElem?_toArray.trans rfl) (fun Kx hKx => ?_) AllReadyH.nil)
      go_simp
      refine (times_c hls.out HLR.out hbs.out BR.out).mono ?_
      rintro x w2 ⟨rfl, hb2⟩
      have hcl : Aside0 ((timesS D r).length = 5) := ⟨by simp [timesS, carS, top5, cst_length, tst_length]⟩
      obtain ⟨S, HS⟩ : ∃ S, Aside0 (timesS D r = S) := ⟨_, ⟨rfl⟩⟩
      rw [HS.out] at hcl htk ⊢
      have HY2 := Aside0.mk (Blk.below (w := wr.drew) hY.out hb2)
      have HB2 := Aside0.mk (below_next hB.drew hb2)
      have hX2 : w2.rangeAt w.heap.size 0 (nums .u64 D) ∧ w2.rangeAt g 0 (nums .u64 r) := ⟨range_blk (Blk.below (w := wr.drew) hX.out hb2), range_under HRG.out HB2.out hg⟩
      go_wp2_with fail
      refine hKx.out _ _ ?_ (fun hHeld => ?_)
      · exact hX2
      clear hKx Kx
      (try simp only [Act.put, List.setIfInBounds_toArray, List.set_cons_zero, List.set_cons_succ])
      refine wpAnyH_ready (rs := [6]) (by kernel_rfl) (by simp) (AllReadyH.cons (List.getElem?_toArray.trans rfl) (fun Kx hKx => ?_) AllReadyH.nil)
      rw [if_pos (by rfl)]
      refine wp_store_row 79 (.tmp 4) (.tmp 26) rfl (w.heap.size + 1) (nums .u64 S).toArray rfl rfl 79 (nums .u64 (List.replicate 5 0)).toArray HY2.out (by rw [size_nums, hcl.out]; exact size79) (by rw [size_nums, size_nums, hcl.out]; rfl) (all_nums _ _) ?_
      have hZ : Blk (w2.setRow (w.heap.size + 1) (nums .u64 S).toArray) (w.heap.size + 1) 79 (nums .u64 S) := setRow_heap w2 (w.heap.size + 1) _ _ 79 _ HY2.out
      have hgr : w2.grownBy (w2.setRow (w.heap.size + 1) (nums .u64 S).toArray) (some (w.heap.size + 1)) := ⟨rfl, rfl, rfl, by simp [World.setRow], fun j hj hne => setRow_other w2 (w.heap.size + 1) j _ (fun e => hne (by rw [e]))⟩
      generalize w2.setRow (w.heap.size + 1) (nums .u64 S).toArray = w3 at hZ hgr ⊢
      have hbu : Below (w.heap.size + 1) w2 w3 := (Below.refl _ _).grown hgr (Nat.le_of_lt (Blk.lt HY2.out)) (fun k hk => by cases hk; exact Nat.le_refl _)
      have HZ := Aside0.mk hZ
      have HB3 := Aside0.mk (HB2.out.grown hgr HB2.out.size (fun k hk => by cases hk; omega))
      have hX3 : w3.rangeAt w.heap.size 0 (nums .u64 D) ∧ w3.rangeAt g 0 (nums .u64 r) := ⟨range_under hX2.1 hbu (by omega), range_under hX2.2 hbu (by omega)⟩
      refine hKx.out _ _ ?_ (fun hHeld => ?_)
      · exact hX3
      clear hKx Kx
      (try simp only [Act.put, List.setIfInBounds_toArray, List.set_cons_zero, List.set_cons_succ])
      refine wpAnyH_done (by kernel_rfl) ?_ _
      go_wp2_with fail
      refine bodyPost_ret (v := .agg (nums .u64 S).toArray) ?_ rfl ⟨by rw [htk.out], HB3.out⟩
      exact results_arr (p := 4) (ty := 79) rfl _ w3 (w.heap.size + 1) 79 5 36 .u64 S rfl HZ.out Try.underlying79 size79 hcl.out
end Go.Proofs.Ytkjmjgiklelpiaa.OtK
/- onetime.New: what it lays. -/
namespace Go.Proofs.Ytkjmjgiklelpiaa.OtN
open Go.RowKit Go.Proofs.YtkjmjgiklelpiaaW.PrintWords Go.Proofs.Ytkjmjgiklelpiaa.Num Go.Proofs.Ytkjmjgiklelpiaa.WordC Go.Proofs.Ytkjmjgiklelpiaa.Arr Go.Proofs.Ytkjmjgiklelpiaa.App Go.Proofs.Ytkjmjgiklelpiaa.CiC Go.Proofs.Ytkjmjgiklelpiaa.CiD Go.Proofs.Ytkjmjgiklelpiaa.OtC Go.Proofs.Ytkjmjgiklelpiaa.OtR Go.Proofs.Ytkjmjgiklelpiaa.OtL Go.Proofs.Ytkjmjgiklelpiaa.OtM Go.Proofs.Ytkjmjgiklelpiaa.OtT Go.Proofs.Ytkjmjgiklelpiaa.OtV Go.Proofs.Ytkjmjgiklelpiaa.OtK
set_option linter.unusedVariables false
set_option linter.unusedSimpArgs false

theorem copy_top {P : Program} {ops : Array Oper} {rest : List Oper} {o : Oper} {a : Act} {w : World} {Q : Exit → Act → World → Prop} (hgd : o.guard = none) (d s : Operand) (dT sT : TypeId)
    (ho : o.op = .call { callee := .builtin .copy, args := #[d, s], argTypes := #[dT, sT] }) (elem : TypeId) (hu : P.underlying dT = some (.slice elem)) (hsz : (P.info? elem).map (·.size) = some 1)
    (g dLen dCap : Nat) (sp : Option Addr) (sLen sCap : Nat) (hd : a.eval d = .slice (some ⟨g, 0, none⟩) dLen dCap) (hs : a.eval s = .slice sp sLen sCap)
    (cur : List Value) (t : Nat) (hg : Blk w g t cur) (l : List Int) (hr : Rd w sp sLen sCap l) (hn : dLen ≤ sLen) (hp : 0 < dLen) (hc : cur.length = dLen)
    (h : ∀ w', Blk w' g t (nums .u8 (l.take dLen)) → w.grownBy w' (some g) → wpList P ops Q rest (a.put o.dst (.int .i64 dLen)) w') : wpList P ops Q (o :: rest) a w :=
  wpList_plain hgd fun _ hK => by
    have hl := hr.len
    obtain ⟨ad, rfl, hsrc⟩ := rd_cells hr (by omega)
    have hlen : (nums .u8 (l.take dLen)).length = dLen := by rw [nums_length, List.length_take]; omega
    have hrun := run_copy_row (P := P) w dT sT o.type elem g 0 dLen dCap ad sLen sCap cur.toArray t (nums .u8 (l.take dLen)) hu hsz hg (by rw [hlen]; exact (Nat.min_eq_right hn).symm)
      (fun j v hj => hsrc j v (by
        have hj1 : j < dLen := by have := (List.getElem?_eq_some_iff.1 hj).1; omega
        rw [← hj]; simp [nums, List.getElem?_take, hj1])) (by simpa [hlen] using (by omega : dLen ≤ cur.length)) (nums_one _ _)
    unfold Oper.wp
    simp [execOp, ho, resolve, invoke, builtin, hd, hs, hrun, Result.andThen]
    have h1 := h (w.setRow g (nums .u8 (l.take dLen)).toArray) (setRow_heap w g _ _ t _ hg) ⟨rfl, rfl, rfl, by simp [World.setRow], fun k hk hne => setRow_other w g k _ (fun e => hne (by rw [e]))⟩
    rw [hlen, List.drop_of_length_le (by omega), List.append_nil]
    exact hK _ _ h1
theorem and15 (x : Int) (h0 : 0 ≤ x) (h1 : x < 256) : Go.bits .and .u8 x 15 = x % 16 := by
  obtain ⟨X, rfl⟩ := Int.eq_ofNat_of_zero_le h0
  have h : ∀ x : Fin 256, Go.bits .and .u8 (x.1 : Int) 15 = (x.1 : Int) % 16 := by decide +kernel
  exact h ⟨X, by omega⟩
theorem and252 (x : Int) (h0 : 0 ≤ x) (h1 : x < 256) : Go.bits .and .u8 x 252 = x - x % 4 := by
  obtain ⟨X, rfl⟩ := Int.eq_ofNat_of_zero_le h0
  have h : ∀ x : Fin 256, Go.bits .and .u8 (x.1 : Int) 252 = (x.1 : Int) - (x.1 : Int) % 4 := by decide +kernel
  exact h ⟨X, by omega⟩
/-- The key's first half, cut. -/
def cutA (b : List Int) : Nat → List Int
  | 0 => b
  | t + 1 => (cutA b t).set (3 + 4 * t) ((cutA b t).getD (3 + 4 * t) 0 % 16)
def cutB (b : List Int) : Nat → List Int
  | 0 => b
  | t + 1 => (cutB b t).set (4 + 4 * t) ((cutB b t).getD (4 + 4 * t) 0 - (cutB b t).getD (4 + 4 * t) 0 % 4)
def cutS (b : List Int) : List Int := cutB (cutA b 4) 3
theorem cutA_length (b : List Int) (t : Nat) : (cutA b t).length = b.length := by
  induction t with
  | zero => rfl
  | succ t ih => simp [cutA, ih]
theorem cutB_length (b : List Int) (t : Nat) : (cutB b t).length = b.length := by
  induction t with
  | zero => rfl
  | succ t ih => simp [cutB, ih]
theorem getD_isB {l : List Int} (h : IsB l) (i : Nat) : 0 ≤ l.getD i 0 ∧ l.getD i 0 < 256 := by
  rw [List.getD_eq_getElem?_getD]
  by_cases hi : i < l.length
  · rw [List.getElem?_eq_getElem hi]; exact h _ (List.getElem_mem hi)
  · rw [List.getElem?_eq_none (by omega)]; exact ⟨Int.le_refl _, by decide⟩
theorem set_isB {l : List Int} (h : IsB l) (i : Nat) {x : Int} (h0 : 0 ≤ x) (h1 : x < 256) : IsB (l.set i x) := by
  intro y hy
  rcases List.mem_or_eq_of_mem_set hy with hy | rfl
  · exact h y hy
  · exact ⟨h0, h1⟩
theorem cutA_isB {b : List Int} (h : IsB b) (t : Nat) : IsB (cutA b t) := by
  induction t with
  | zero => exact h
  | succ t ih =>
    have := getD_isB ih (3 + 4 * t)
    exact set_isB ih _ (by omega) (by omega)
theorem cutB_isB {b : List Int} (h : IsB b) (t : Nat) : IsB (cutB b t) := by
  induction t with
  | zero => exact h
  | succ t ih =>
    have := getD_isB ih (4 + 4 * t)
    exact set_isB ih _ (by omega) (by omega)
end Go.Proofs.Ytkjmjgiklelpiaa.OtN
/- onetime.New, walked. -/
namespace Go.Proofs.Ytkjmjgiklelpiaa.OtO
open Go.RowKit Go.Proofs.YtkjmjgiklelpiaaW.PrintWords Go.Proofs.Ytkjmjgiklelpiaa.Num Go.Proofs.Ytkjmjgiklelpiaa.WordC Go.Proofs.Ytkjmjgiklelpiaa.Arr Go.Proofs.Ytkjmjgiklelpiaa.App Go.Proofs.Ytkjmjgiklelpiaa.CiC Go.Proofs.Ytkjmjgiklelpiaa.CiD Go.Proofs.Ytkjmjgiklelpiaa.OtC Go.Proofs.Ytkjmjgiklelpiaa.OtR Go.Proofs.Ytkjmjgiklelpiaa.OtL Go.Proofs.Ytkjmjgiklelpiaa.OtM Go.Proofs.Ytkjmjgiklelpiaa.OtT Go.Proofs.Ytkjmjgiklelpiaa.OtV Go.Proofs.Ytkjmjgiklelpiaa.OtK Go.Proofs.Ytkjmjgiklelpiaa.OtN
set_option linter.unusedVariables false
set_option linter.unusedSimpArgs false

/-- An Adder's cells: r, what was added, s, what is left over. -/
def adr (r a s : List Int) (v : Value) : List Value := nums .u64 r ++ nums .u64 a ++ nums .u64 s ++ [v]
theorem adr_get_s {r a s : List Int} {v : Value} (hr : r.length = 5) (ha : a.length = 5) (i : Nat) (hi : i < s.length) : (adr r a s v)[10 + i]? = some (.int .u64 (s.getD i 0)) := by
  unfold adr
  rw [List.getElem?_append_left (by simp [nums_length, hr, ha]; omega), List.getElem?_append_right (by simp [nums_length, hr, ha]), List.length_append, nums_length, nums_length, hr, ha, show 10 + i - (5 + 5) = i by omega]
  exact nums_get .u64 s i hi
theorem adr_set_s {r a s : List Int} {v : Value} (hr : r.length = 5) (ha : a.length = 5) (i : Nat) (hi : i < s.length) (x : Int) : (adr r a s v).set (10 + i) (.int .u64 x) = adr r a (s.set i x) v := by
  unfold adr
  rw [List.set_append_left _ _ (by simp [nums_length, hr, ha]; omega), List.set_append_right _ _ (by simp [nums_length, hr, ha]), List.length_append, nums_length, nums_length, hr, ha, show 10 + i - (5 + 5) = i by omega, nums_set]
def sT (l : List Int) (t : Nat) : List Int := l.take t ++ List.replicate (4 - t) 0
theorem sT_length (l : List Int) (hl : l.length = 4) (t : Nat) (ht : t ≤ 4) : (sT l t).length = 4 := by simp [sT, hl]; omega
theorem sT_next (l : List Int) (hl : l.length = 4) (t : Nat) (ht : t < 4) : (sT l t).set t (l.getD t 0) = sT l (t + 1) := by
  match l, hl with
  | [a, b, c, d], _ =>
    have h : t = 0 ∨ t = 1 ∨ t = 2 ∨ t = 3 := by omega
    rcases h with rfl | rfl | rfl | rfl <;> rfl
set_option maxHeartbeats 8000000 in
set_option maxRecDepth 100000 in
theorem New_c {A : Option Addr} {c : Nat} {k : List Int} {w : World} (hk : Rd w A 32 c k) (bk : IsB k) :
    Calls Try.prog 29 #[.slice A 32 c] w fun e w' => ∃ g, e = .returned (.tuple #[.pointer (some ⟨g, 0, none⟩), .int .i64 0]) ∧ w.heap.size ≤ g ∧ Blk w' g 83 (nums .u64 (readS (cutS (k.take 16)) 0) ++ nums .u64 [0, 0, 0, 0, 0] ++ nums .u64 (ws (k.drop 16)) ++ [.slice none 0 0]) ∧ Below w.heap.size w w' := by
  have hmk : ∀ W : World, (Instr.makeSlice 22 (.int .i64 16) (.int .i64 16)).run Try.prog W = .ok (.slice (some ⟨W.heap.size, 0, none⟩) 16 16) (W.alloc (.cells (nums .u8 (List.replicate 16 0)).toArray 5)) := by
    intro W
    have h := print_make (P := Try.prog) 22 5 .u8 1 Try.underlying22 infoB (by omega) 16 (by omega) W
    have e : madeCells #[.int .u8 0] 16 = (nums .u8 (List.replicate 16 0)).toArray := by kernel_rfl
    rw [e] at h; exact h
  have HK := Aside0.mk hk
  have HMK := Aside0.mk hmk
  have hl : k.length = 32 := hk.len
  have HL := Aside0.mk hl
  clear hk hl
  have hX0 : Aside0 (Blk (w.alloc (.cells (nums .u8 (List.replicate 16 0)).toArray 5)) w.heap.size 5 (nums .u8 (List.replicate 16 0))) := ⟨heap_alloc_new _ _⟩
  have hB0 := Aside0.mk ((Below.refl w.heap.size w).alloc (Nat.le_refl _) (.cells (nums .u8 (List.replicate 16 0)).toArray 5))
  have hK0 := Aside0.mk (HK.out.alloc (.cells (nums .u8 (List.replicate 16 0)).toArray 5))
  go_enter Try.func29, Try.ntmps29
  go_wp2_with (first
    | (refine copy_top rfl (.tmp 15) (.tmp 16) 22 22 rfl 5 Try.underlying22 sizeU8 w.heap.size 16 16 A 32 c rfl rfl (nums .u8 (List.replicate 16 0)) 5 hX0.out k hK0.out (by omega) (by omega) (by rw [nums_length]; rfl) ?_; intro w1 hX1 hg1
       have HX1 := Aside0.mk hX1
       have HB1 := Aside0.mk (hB0.out.grown hg1 hB0.out.size (fun k hk => by cases hk; exact Nat.le_refl _))
       clear hX1 hg1))
  have hk16 : IsB (k.take 16) := fun x hx => bk x (List.mem_of_mem_take hx)
  have hl16 : Aside0 ((k.take 16).length = 16) := ⟨by rw [List.length_take, HL.out]; rfl⟩
  have HK16 := Aside0.mk hk16
  have hcut : Aside0 (cutS (k.take 16) = cutB (cutA (k.take 16) 4) 3) := ⟨rfl⟩
  clear hk16
  obtain ⟨b, HBB⟩ : ∃ b, Aside0 (k.take 16 = b) := ⟨_, ⟨rfl⟩⟩
  rw [HBB.out] at hl16 HK16 hcut HX1
  go_loopw [5] (fun i wr => ∃ t : Nat, t ≤ 4 ∧ i = .int .i64 (3 + 4 * (t : Int)) ∧ Aside0 (Blk wr w.heap.size 5 (nums .u8 (cutA b t))) ∧ Below w.heap.size w wr) (fun i _ => 20 - (intOf i).toNat)
  case atStart => exact ⟨0, by omega, rfl, HX1, HB1.out⟩
  case round =>
    clear HX1 HB1
    obtain ⟨t, ht, rfl, hX, hB⟩ := hrel
    by_cases hlt : t < 4
    · have hlt' : 3 + 4 * (t : Int) < 16 := by omega
      have n0 : 0 ≤ 3 + 4 * (t : Int) := by omega
      have n1 : (3 + 4 * (t : Int)).toNat = 3 + 4 * t := by omega
      have kx := blk_num hX.out (3 + 4 * t) (by rw [cutA_length, hl16.out]; omega)
      have fx := Blk.frozen hX.out (3 + 4 * t)
      have hx := getD_isB (cutA_isB HK16.out t) (3 + 4 * t)
      have hnx : Aside0 (cutA b (t + 1) = (cutA b t).set (3 + 4 * t) ((cutA b t).getD (3 + 4 * t) 0 % 16)) := ⟨rfl⟩
      generalize (cutA b t).getD (3 + 4 * t) 0 = x at *
      have e1 := and15 x hx.1 hx.2
      go_wp2_with fail
      have R1 : Aside0 (Blk (wr.setCell ⟨w.heap.size, 3 + 4 * t, none⟩ (.int .u8 (x % 16))) w.heap.size 5 (nums .u8 (cutA b (t + 1)))) := ⟨by rw [hnx.out]; exact CiC.blk_put hX.out _ _⟩
      go_roundw
      case rel => exact ⟨t + 1, by omega, by go_num, R1, hB.setCell (p := ⟨w.heap.size, 3 + 4 * t, none⟩) (Nat.le_refl _) _⟩
      case measure => simp [intOf]; omega
    · have hge : ¬ 3 + 4 * (t : Int) < 16 := by omega
      obtain rfl : t = 4 := by omega
      obtain ⟨b1, HB1⟩ : ∃ z, Aside0 (cutA b 4 = z) := ⟨_, ⟨rfl⟩⟩
      have hl1 : Aside0 ((cutA b 4).length = 16) := ⟨by rw [cutA_length]; exact hl16.out⟩
      have HI1 := Aside0.mk (cutA_isB HK16.out 4)
      rw [HB1.out] at hl1 HI1 hcut hX
      go_wp2_with fail
      go_loopw [6] (fun i wr => ∃ t : Nat, t ≤ 3 ∧ i = .int .i64 (4 + 4 * (t : Int)) ∧ Aside0 (Blk wr w.heap.size 5 (nums .u8 (cutB b1 t))) ∧ Below w.heap.size w wr) (fun i _ => 20 - (intOf i).toNat)
      case atStart => exact ⟨0, by omega, rfl, hX, hB⟩
      case round =>
        clear hX hB
        obtain ⟨t, ht, rfl, hX, hB⟩ := hrel
        by_cases hlt : t < 3
        · have hlt' : 4 + 4 * (t : Int) < 16 := by omega
          have n0 : 0 ≤ 4 + 4 * (t : Int) := by omega
          have n1 : (4 + 4 * (t : Int)).toNat = 4 + 4 * t := by omega
          have kx := blk_num hX.out (4 + 4 * t) (by rw [cutB_length, hl1.out]; omega)
          have fx := Blk.frozen hX.out (4 + 4 * t)
          have hx := getD_isB (cutB_isB HI1.out t) (4 + 4 * t)
          have hnx : Aside0 (cutB b1 (t + 1) = (cutB b1 t).set (4 + 4 * t) ((cutB b1 t).getD (4 + 4 * t) 0 - (cutB b1 t).getD (4 + 4 * t) 0 % 4)) := ⟨rfl⟩
          generalize (cutB b1 t).getD (4 + 4 * t) 0 = x at *
          have e1 := and252 x hx.1 hx.2
          go_wp2_with fail
          have R1 : Aside0 (Blk (wr.setCell ⟨w.heap.size, 4 + 4 * t, none⟩ (.int .u8 (x - x % 4))) w.heap.size 5 (nums .u8 (cutB b1 (t + 1)))) := ⟨by rw [hnx.out]; exact CiC.blk_put hX.out _ _⟩
          go_roundw
          case rel => exact ⟨t + 1, by omega, by go_num, R1, hB.setCell (p := ⟨w.heap.size, 4 + 4 * t, none⟩) (Nat.le_refl _) _⟩
          case measure => simp [intOf]; omega
        · have hge : ¬ 4 + 4 * (t : Int) < 16 := by omega
          obtain rfl : t = 3 := by omega
          have hl2 : (cutB b1 3).length = 16 := by rw [cutB_length]; exact hl1.out
          have hi2 := cutB_isB HI1.out 3
          rw [← hcut.out] at hX hl2 hi2
          obtain ⟨C, HC⟩ : ∃ z, Aside0 (cutS b = z) := ⟨_, ⟨rfl⟩⟩
          rw [HC.out] at hX hl2 hi2
          have hR : Rd wr (some ⟨w.heap.size, 0, none⟩) 16 16 C := by
            have h1 := rd_of_blk hX.out 0 C 16 (by omega) (by omega) (fun j hj => by rw [Nat.zero_add]; exact nums_get .u8 C j hj)
            rwa [hl2] at h1
          have HR := Aside0.mk hR
          have HI2 := Aside0.mk hi2
          clear hl2 hi2 hR
          go_wp2_with fail
          refine (read_c HR.out (by omega) HI2.out (.inl rfl)).mono ?_
          rintro x w2 ⟨rfl, hb2⟩
          have hB2 := below_next hB hb2
          have HB2 := Aside0.mk hB2
          have HK2 := Aside0.mk (HK.out.below hB2)
          clear hB2 hb2 hX
          obtain ⟨R, HRR⟩ : ∃ R, Aside0 (readS C 0 = R) := ⟨_, ⟨rfl⟩⟩
          have hrl : R.length = 5 := by rw [← HRR.out]; simp [readS, rdT_length]
          rw [HRR.out]
          obtain ⟨r0, r1, r2, r3, r4, HRE⟩ : ∃ r0 r1 r2 r3 r4, Aside0 (R = [r0, r1, r2, r3, r4]) := by
            match R, hrl with
            | [r0, r1, r2, r3, r4], _ => exact ⟨r0, r1, r2, r3, r4, ⟨rfl⟩⟩
          rw [HRE.out, show (nums .u64 [r0, r1, r2, r3, r4]).toArray = #[.int .u64 r0, .int .u64 r1, .int .u64 r2, .int .u64 r3, .int .u64 r4] from rfl]
          clear hrl
          go_wp2_with fail
          have hws : (ws (k.drop 16)).length = 4 := ws_length 4 _ (by rw [List.length_drop, HL.out])
          have HWS := Aside0.mk hws
          clear hws
          have hG : Aside0 (Blk (w2.alloc (.cells #[.int .u64 r0, .int .u64 r1, .int .u64 r2, .int .u64 r3, .int .u64 r4, .int .u64 0, .int .u64 0, .int .u64 0, .int .u64 0, .int .u64 0, .int .u64 0, .int .u64 0, .int .u64 0, .int .u64 0, .slice none 0 0] 83)) w2.heap.size 83 (adr [r0, r1, r2, r3, r4] [0, 0, 0, 0, 0] (sT (ws (k.drop 16)) 0) (.slice none 0 0))) := ⟨heap_alloc_new _ _⟩
          have hB3 := HB2.out.alloc HB2.out.size (.cells #[.int .u64 r0, .int .u64 r1, .int .u64 r2, .int .u64 r3, .int .u64 r4, .int .u64 0, .int .u64 0, .int .u64 0, .int .u64 0, .int .u64 0, .int .u64 0, .int .u64 0, .int .u64 0, .int .u64 0, .slice none 0 0] 83)
          have hsz := HB2.out.size
          generalize hW3 : w2.alloc _ = w3 at hG hB3 ⊢
          clear hW3
          generalize w2.heap.size = G at *
          go_loopw [42] (fun i wr => ∃ t : Nat, t ≤ 4 ∧ i = .int .i64 t ∧ Aside0 (Blk wr G 83 (adr [r0, r1, r2, r3, r4] [0, 0, 0, 0, 0] (sT (ws (k.drop 16)) t) (.slice none 0 0))) ∧ Below w.heap.size w wr) (fun i _ => 4 - (intOf i).toNat)
          case atStart => exact ⟨0, by omega, rfl, hG, hB3⟩
          case round =>
            clear hG hB3
            obtain ⟨t, ht, rfl, hG, hB⟩ := hrel
            by_cases hlt : t < 4
            · have hlt' : (t : Int) < 4 := by omega
              obtain ⟨A', c', hcut2, hrd⟩ := rd_slice (HK.out.below hB) (16 + 4 * t) (20 + 4 * t) (x := 16 + 4 * (t : Int)) (y := 20 + 4 * (t : Int)) (by omega) (by omega) (by omega) (by omega)
              rw [show 20 + 4 * t - (16 + 4 * t) = 4 by omega] at hcut2 hrd
              have hI : IsB ((k.take (20 + 4 * t)).drop (16 + 4 * t)) := fun x hx => bk x (List.mem_of_mem_take (List.mem_of_mem_drop hx))
              have hwg : (loadW ((k.take (20 + 4 * t)).drop (16 + 4 * t)) true).1 = (ws (k.drop 16)).getD t 0 := by
                have h1 := ws_get (k.drop 16) 4 (by rw [List.length_drop, HL.out]) t hlt
                rw [List.getD_eq_getElem?_getD, h1, Option.getD_some, List.take_drop, List.drop_drop, show 16 + (4 * t + 4) = 20 + 4 * t by omega]
              have hlr := load_range hI true
              go_wp2_with fail
              refine (Load_c hrd hI true).mono ?_
              rintro x w5 ⟨rfl, ⟨n5, rfl⟩⟩
              have hnx := sT_next (ws (k.drop 16)) HWS.out t hlt
              rw [← hwg] at hnx
              generalize (loadW ((k.take (20 + 4 * t)).drop (16 + 4 * t)) true).1 = x at *
              have e1 : x % 18446744073709551616 = x := by omega
              have k0 : wr.cell? ⟨G, 10 + t, none⟩ = some (.int .u64 ((sT (ws (k.drop 16)) t).getD t 0)) := (Blk.cell hG.out (10 + t)).trans (adr_get_s rfl rfl t (by rw [sT_length _ HWS.out t ht]; exact hlt))
              have f0 := Blk.frozen hG.out (10 + t)
              have HNX := Aside0.mk hnx
              clear hnx hwg
              go_wp2_with fail
              have R1 : Aside0 (Blk ((wr.drewN n5).setCell ⟨G, 10 + t, none⟩ (.int .u64 x)) G 83 (adr [r0, r1, r2, r3, r4] [0, 0, 0, 0, 0] (sT (ws (k.drop 16)) (t + 1)) (.slice none 0 0))) := ⟨by
                have h1 := Blk.set_ (w := wr.drewN n5) hG.out (10 + t) (.int .u64 x)
                rw [adr_set_s rfl rfl t (by rw [sT_length _ HWS.out t ht]; exact hlt), HNX.out] at h1
                exact h1⟩
              go_roundw
              case rel => exact ⟨t + 1, by omega, by go_num, R1, (pw_below_drewN hB _).setCell (p := ⟨G, 10 + t, none⟩) hsz _⟩
              case measure => simp [intOf]; omega
            · have hge : ¬ (t : Int) < 4 := by omega
              obtain rfl : t = 4 := by omega
              have hfin : Blk wr G 83 (nums .u64 (readS (cutS b) 0) ++ nums .u64 [0, 0, 0, 0, 0] ++ nums .u64 (ws (k.drop 16)) ++ [.slice none 0 0]) := by
                have h1 := hG.out
                have h2 : sT (ws (k.drop 16)) 4 = ws (k.drop 16) := by unfold sT; rw [List.take_of_length_le (by rw [HWS.out]; omega)]; simp
                rw [h2] at h1
                rw [HC.out, HRR.out, HRE.out]
                exact h1
              have HF := Aside0.mk hfin
              clear hfin
              go_wp2_with fail
              go_ret2
              rw [HBB.out]
              exact ⟨G, rfl, hsz, HF.out, hB⟩
end Go.Proofs.Ytkjmjgiklelpiaa.OtO
/- Adder.Tag, walked. -/
namespace Go.Proofs.Ytkjmjgiklelpiaa.OtP
open Go.RowKit Go.Proofs.YtkjmjgiklelpiaaW.PrintWords Go.Proofs.Ytkjmjgiklelpiaa.Num Go.Proofs.Ytkjmjgiklelpiaa.WordC Go.Proofs.Ytkjmjgiklelpiaa.Arr Go.Proofs.Ytkjmjgiklelpiaa.App Go.Proofs.Ytkjmjgiklelpiaa.CiC Go.Proofs.Ytkjmjgiklelpiaa.CiD Go.Proofs.Ytkjmjgiklelpiaa.OtC Go.Proofs.Ytkjmjgiklelpiaa.OtR Go.Proofs.Ytkjmjgiklelpiaa.OtL Go.Proofs.Ytkjmjgiklelpiaa.OtM Go.Proofs.Ytkjmjgiklelpiaa.OtT Go.Proofs.Ytkjmjgiklelpiaa.OtV Go.Proofs.Ytkjmjgiklelpiaa.OtK Go.Proofs.Ytkjmjgiklelpiaa.OtN Go.Proofs.Ytkjmjgiklelpiaa.OtO
set_option linter.unusedVariables false
set_option linter.unusedSimpArgs false

theorem or_sh (x y : Int) (k : Nat) (hk : k ≤ 64) (h0 : 0 ≤ x) (h1 : x < 2 ^ k) (h2 : 0 ≤ y) (h3 : y * 2 ^ k < 18446744073709551616) : Go.bits .or .u64 x (y * 2 ^ k) = x + y * 2 ^ k := by
  obtain ⟨X, rfl⟩ := Int.eq_ofNat_of_zero_le h0
  obtain ⟨Y, rfl⟩ := Int.eq_ofNat_of_zero_le h2
  have e : (Y : Int) * 2 ^ k = ((2 ^ k * Y : Nat) : Int) := by push_cast; rw [Int.mul_comm]
  rw [e] at h3 ⊢
  have hX : X < 2 ^ k := by exact_mod_cast h1
  have h := Nat.two_pow_add_eq_or_of_lt (i := k) (b := X) hX Y
  have hlt : 2 ^ k * Y < 18446744073709551616 := by
    generalize 2 ^ k * Y = Z at h3
    omega
  have hp : (2 : Nat) ^ k ≤ 18446744073709551616 := Nat.pow_le_pow_right (n := 2) (by omega) hk
  have hX2 : X < 18446744073709551616 := Nat.lt_of_lt_of_le hX hp
  rw [u64_or_nat X _ hX2 hlt, Nat.or_comm, ← h, Int.natCast_add, Int.add_comm]
/-- The four words of a number in limbs. -/
def wordsS (l : List Int) : List Int := [l.getD 0 0 + l.getD 1 0 * 67108864, l.getD 1 0 / 64 + l.getD 2 0 * 1048576, l.getD 2 0 / 4096 + l.getD 3 0 * 16384, l.getD 3 0 / 262144 + l.getD 4 0 * 256]
/-- The tag's bytes, word by word, and the carry. -/
def tgS (W s : List Int) : Nat → List Int × Int
  | 0 => ([], 0)
  | i + 1 => ((tgS W s i).1 ++ storeW (((tgS W s i).2 + (W.getD i 0 % 4294967296 + s.getD i 0)) % 4294967296) true, ((tgS W s i).2 + (W.getD i 0 % 4294967296 + s.getD i 0)) / 4294967296)
def tagS (a s : List Int) : List Int := (tgS (wordsS (leastS a)) s 4).1
theorem range_adr_a {w : World} {g : Nat} {r a s : List Int} {v : Value} (h : Blk w g 83 (adr r a s v)) (hr : r.length = 5) : w.rangeAt g 5 (nums .u64 a) := fun j u hj => by
  have hj1 : j < a.length := by have := (List.getElem?_eq_some_iff.1 hj).1; rwa [nums_length] at this
  rw [Blk.cell h]
  unfold adr
  rw [List.getElem?_append_left (by simp [nums_length, hr]; omega), List.getElem?_append_left (by simp [nums_length, hr]; omega), List.getElem?_append_right (by simp [nums_length, hr]), nums_length, hr, show 5 + j - 5 = j by omega]
  exact hj
theorem adr_tail {r a s : List Int} {v : Value} (hr : r.length = 5) (ha : a.length = 5) (hs : s.length = 4) : (adr r a s v)[14]? = some v := by
  unfold adr
  rw [List.getElem?_append_right (by simp [nums_length, hr, ha, hs])]
  simp [nums_length, hr, ha, hs]
theorem tgS_length (W s : List Int) (t : Nat) : (tgS W s t).1.length = 4 * t := by
  induction t with
  | zero => rfl
  | succ t ih => simp only [tgS]; rw [List.length_append, ih, storeW_length]; omega
theorem and32 (x : Int) (h0 : 0 ≤ x) (h1 : x < 18446744073709551616) : Go.bits .and .u64 x 4294967295 = x % 4294967296 := by
  rw [u64_and x 4294967295 h0 h1 (by decide) (by decide)]
  obtain ⟨X, rfl⟩ := Int.eq_ofNat_of_zero_le h0
  rw [Int.toNat_natCast, show (4294967295 : Int).toNat = 2 ^ 32 - 1 from rfl, Nat.and_two_pow_sub_one_eq_mod]; rfl
theorem infoU64 : (Try.prog.info? 36).map (·.size) = some 1 := by kernel_rfl
theorem index4 (l : List Int) (hl : l.length = 4) (t : Nat) (ht : t < 4) (w : World) : (Instr.index 81 (.agg (nums .u64 l).toArray) (.int .i64 t)).run Try.prog w = .ok (.int .u64 (l.getD t 0)) w := by
  obtain ⟨i, hi, hz⟩ := Option.map_eq_some_iff.1 infoU64
  have hn : (0 : Int) ≤ (t : Int) ∧ (t : Int) < 4 := by omega
  have hk := nums_get .u64 l t (by omega)
  have hg : (isAgg 36).run Try.prog w = .ok false w := by
    unfold isAgg
    rw [Sem.run_bind, run_underlying Try.underlying36]
    rfl
  simp [Instr.index, run_underlying Try.underlying81, asIntOf, hn, go_sem, Go.sizeOf, typeInfo, hi, hz, ht, hg, hk]
set_option maxHeartbeats 8000000 in
set_option maxRecDepth 100000 in
theorem Tag_0 {g c : Nat} {A : Option Addr} {r a s : List Int} {w : World} (hg : Blk w g 83 (adr r a s (.slice A 0 c))) (hr : r.length = 5) (ha : a.length = 5) (hs : s.length = 4) (hal : IsL a) (hsw : IsW s) :
    Calls Try.prog 31 #[.pointer (some ⟨g, 0, none⟩)] w fun e w' => ∃ v, e = .returned v ∧ Ow w' w.heap.size v (tagS a s) ∧ Below w.heap.size w w' := by
  have HG := Aside0.mk hg
  have HR := Aside0.mk hr
  have HA := Aside0.mk ha
  have HS := Aside0.mk hs
  have HAL := Aside0.mk hal
  have HSW := Aside0.mk hsw
  have hglt := Blk.lt hg
  have HRA := Aside0.mk (range_adr_a hg hr)
  have k14 : w.cell? ⟨g, 14, none⟩ = some (.slice A 0 c) := (Blk.cell hg 14).trans (adr_tail hr ha hs)
  have hi : Aside0 ((Try.prog.info? 79).map (·.size) = some (nums .u64 a).length) := ⟨by rw [nums_length, ha]; exact size79⟩
  clear hg hr ha hs hal hsw
  go_enter Try.func31, Try.ntmps31
  go_wp2_with (first
    | (refine wpList_load_mid rfl 79 (.tmp 14) rfl g 5 rfl (nums .u64 a) _ HRA.out Try.underlying79 rfl hi.out ?_)
    | (have HZ0 : Aside0 (Blk (w.alloc (.cells (nums .u64 (List.replicate 5 0)).toArray 79)) w.heap.size 79 (nums .u64 (List.replicate 5 0))) := ⟨heap_alloc_new _ _⟩
       have HB0 := Aside0.mk ((Below.refl w.heap.size w).alloc (Nat.le_refl _) (.cells (nums .u64 (List.replicate 5 0)).toArray 79))
       refine store_arr rfl 79 (.tmp 3) (.tmp 15) rfl w.heap.size .u64 a rfl rfl 79 5 _ HZ0.out size79 HA.out (by rw [nums_length]; rfl) ?_; intro w1 hX1 hg1
       have HX1 := Aside0.mk hX1
       have HB1 := Aside0.mk (HB0.out.grown hg1 HB0.out.size (fun k hk => by cases hk; exact Nat.le_refl _))
       have k14' : w1.cell? ⟨g, 14, none⟩ = some (.slice A 0 c) := (HB1.out.cell (p := ⟨g, 14, none⟩) hglt).trans k14
       clear hX1 hg1)
    | (refine load_arr rfl 79 (.tmp 3) rfl w.heap.size rfl 79 .u64 a 5 36 HX1.out Try.underlying79 size79 HA.out ?_))
  refine (least_c HA.out HAL.out).mono ?_
  rintro x w2 ⟨rfl, hb2⟩
  have hlv := (least_val HA.out HAL.out).1
  have htg : Aside0 (tagS a s = (tgS (wordsS (leastS a)) s 4).1) := ⟨rfl⟩
  obtain ⟨S, HSS⟩ : ∃ z, Aside0 (leastS a = z) := ⟨_, ⟨rfl⟩⟩
  rw [HSS.out] at hlv htg ⊢
  have HX2 := Aside0.mk (HX1.out.below hb2)
  have HB2 := Aside0.mk (below_next HB1.out hb2)
  have HG2 := Aside0.mk (HG.out.below HB2.out)
  obtain ⟨l0, l1, l2, l3, l4, rfl, b0, b1, b2, b3, b4⟩ := hlv
  have hS5 : Aside0 (([l0, l1, l2, l3, l4] : List Int).length = 5) := ⟨rfl⟩
  have o1 : Go.bits .or .u64 l0 (l1 * 67108864) = l0 + l1 * 67108864 := or_sh l0 l1 26 (by omega) (by omega) (by omega) (by omega) (by omega)
  have o2 : Go.bits .or .u64 (l1 / 64) (l2 * 1048576) = l1 / 64 + l2 * 1048576 := or_sh (l1 / 64) l2 20 (by omega) (by omega) (by omega) (by omega) (by omega)
  have o3 : Go.bits .or .u64 (l2 / 4096) (l3 * 16384) = l2 / 4096 + l3 * 16384 := or_sh (l2 / 4096) l3 14 (by omega) (by omega) (by omega) (by omega) (by omega)
  have o4 : Go.bits .or .u64 (l3 / 262144) (l4 * 256) = l3 / 262144 + l4 * 256 := or_sh (l3 / 262144) l4 8 (by omega) (by omega) (by omega) (by omega) (by omega)
  clear hb2 k14
  go_wp2_with (first
    | (refine store_arr rfl 79 (.tmp 3) (.tmp 41) rfl w.heap.size .u64 [l0, l1, l2, l3, l4] rfl rfl 79 5 _ HX2.out size79 hS5.out (by rw [nums_length]; exact HA.out) ?_; intro w3 hX3 hg3
       have HX3 := Aside0.mk hX3
       have HB3 := Aside0.mk (HB2.out.grown hg3 HB2.out.size (fun k hk => by cases hk; exact Nat.le_refl _))
       have HG3 := Aside0.mk (HG.out.below HB3.out)
       have q0 : w3.cell? ⟨w.heap.size, 0, none⟩ = some (.int .u64 l0) := Blk.cell hX3 0
       have q1 : w3.cell? ⟨w.heap.size, 1, none⟩ = some (.int .u64 l1) := Blk.cell hX3 1
       have q2 : w3.cell? ⟨w.heap.size, 2, none⟩ = some (.int .u64 l2) := Blk.cell hX3 2
       have q3 : w3.cell? ⟨w.heap.size, 3, none⟩ = some (.int .u64 l3) := Blk.cell hX3 3
       have q4 : w3.cell? ⟨w.heap.size, 4, none⟩ = some (.int .u64 l4) := Blk.cell hX3 4
       clear hX3 hg3))
  obtain ⟨W, HWD⟩ : ∃ z, Aside0 (wordsS [l0, l1, l2, l3, l4] = z) := ⟨_, ⟨rfl⟩⟩
  have hwd : Aside0 (W = [l0 + l1 * 67108864, l1 / 64 + l2 * 1048576, l2 / 4096 + l3 * 16384, l3 / 262144 + l4 * 256]) := ⟨by rw [← HWD.out]; rfl⟩
  have hwb : Aside0 (∀ i, 0 ≤ W.getD i 0 ∧ W.getD i 0 < 18446744073709551616) := ⟨by
    intro i
    rw [hwd.out]
    have hi : i = 0 ∨ i = 1 ∨ i = 2 ∨ i = 3 ∨ 4 ≤ i := by omega
    rcases hi with rfl | rfl | rfl | rfl | hi
    all_goals first
      | (simp; omega)
      | (rw [List.getD_eq_getElem?_getD, List.getElem?_eq_none (by simpa using hi)]; simp)⟩
  rw [HWD.out] at htg
  have hbe : Aside0 (∀ t, 0 ≤ (tgS W s t).2 ∧ (tgS W s t).2 < 4294967296) := ⟨by
    intro t
    induction t with
    | zero => exact ⟨Int.le_refl _, by show (0 : Int) < _; decide⟩
    | succ t ih =>
      have h1 := hwb.out t
      have h2 := getD_isW HSW.out t
      simp only [tgS]
      omega⟩
  have hB4 := HB3.out.alloc HB3.out.size (.cells #[.int .u64 (l0 + l1 * 67108864), .int .u64 (l1 / 64 + l2 * 1048576), .int .u64 (l2 / 4096 + l3 * 16384), .int .u64 (l3 / 262144 + l4 * 256)] 81)
  generalize hW4 : w3.alloc _ = w4 at hB4 ⊢
  clear hW4
  have hagg : #[Value.int .u64 (l0 + l1 * 67108864), .int .u64 (l1 / 64 + l2 * 1048576), .int .u64 (l2 / 4096 + l3 * 16384), .int .u64 (l3 / 262144 + l4 * 256)] = (nums .u64 W).toArray := by rw [hwd.out]; rfl
  rw [hagg]
  go_loopw [71, 6, 7] (fun i v u wr => ∃ (t : Nat) (vv : Value), t ≤ 4 ∧ i = .int .i64 t ∧ vv = v ∧ u = .int .u64 (tgS W s t).2 ∧ Aside0 (Ow wr w.heap.size vv (tgS W s t).1) ∧ Below w.heap.size w wr) (fun i _ _ _ => 4 - (intOf i).toNat)
  case atStart => exact ⟨0, _, by omega, rfl, rfl, rfl, ⟨Kd.R_nil _ _ _ _ _⟩, hB4⟩
  case round =>
    clear hB4
    obtain ⟨t, vv, ht, rfl, rfl, rfl, hO, hB⟩ := hrel
    by_cases hlt : t < 4
    · have hlt' : (t : Int) < 4 := by omega
      have hGw := HG.out.below hB
      have ks : wr.cell? ⟨g, 10 + t, none⟩ = some (.int .u64 (s.getD t 0)) := (Blk.cell hGw (10 + t)).trans (adr_get_s HR.out HA.out t (by rw [HS.out]; exact hlt))
      have hx := hwb.out t
      have hy := getD_isW HSW.out t
      have hc := hbe.out t
      have hol : Aside0 ((tgS W s t).1.length = 4 * t) := ⟨tgS_length W s t⟩
      have hix := index4 W (by rw [hwd.out]; rfl) t hlt
      have hn1 : Aside0 ((tgS W s (t + 1)).1 = (tgS W s t).1 ++ storeW (((tgS W s t).2 + (W.getD t 0 % 4294967296 + s.getD t 0)) % 4294967296) true) := ⟨rfl⟩
      have hn2 : Aside0 ((tgS W s (t + 1)).2 = ((tgS W s t).2 + (W.getD t 0 % 4294967296 + s.getD t 0)) / 4294967296) := ⟨rfl⟩
      generalize W.getD t 0 = x at *
      generalize s.getD t 0 = y at *
      generalize (tgS W s t).2 = cc at *
      generalize (tgS W s t).1 = oo at *
      have e1 := and32 x hx.1 hx.2
      have e2 : (x % 4294967296 + y) % 18446744073709551616 = x % 4294967296 + y := by omega
      have e3 : (cc + (x % 4294967296 + y)) % 18446744073709551616 = cc + (x % 4294967296 + y) := by omega
      clear hGw
      go_wp2_with fail
      refine (Store_c (a := (cc + (x % 4294967296 + y)) % 4294967296) (by omega) (by omega) true).mono ?_
      rintro z w5 ⟨v5, rfl, ho5, hb5⟩
      obtain ⟨A5, c5, rfl, hr5⟩ := rd_of_own ho5
      have HO5 := Aside0.mk (Kd.R_below hO.out hb5)
      have HB5 := Aside0.mk (below_next hB hb5)
      have HR5 := Aside0.mk hr5
      have e4 : shr .u64 (cc + (x % 4294967296 + y)) 32 = (cc + (x % 4294967296 + y)) / 4294967296 := shr_var64 _ 32 (by omega)
      clear ho5 hb5 hr5 ks hix
      go_wp2_with (first
        | (refine append_ow (w0 := w) w.heap.size rfl (.tmp 86) (.tmp 89) rfl vv oo (storeW ((cc + (x % 4294967296 + y)) % 4294967296) true) A5 _ c5 rfl rfl HO5.out HR5.out HB5.out HB5.out.size (by rw [hol.out, storeW_length]; omega) ?_; intro v6 w6 ho6 hb6 hg6 ha6; have HO6 := Aside0.mk ho6; have HB6 := Aside0.mk hb6; clear ho6 hb6 hg6 ha6))
      have HN : Aside0 (Ow w6 w.heap.size v6 (tgS W s (t + 1)).1) := ⟨by rw [hn1.out]; exact HO6.out⟩
      go_roundw
      case rel => exact ⟨t + 1, v6, by omega, by go_num, rfl, by rw [hn2.out], HN, HB6.out⟩
      case measure => simp [intOf]; omega
    · have hge : ¬ (t : Int) < 4 := by omega
      obtain rfl : t = 4 := by omega
      have hfin : Aside0 (Ow wr w.heap.size vv (tagS a s)) := ⟨by rw [htg.out]; exact hO.out⟩
      clear hO
      go_wp2_with fail
      go_ret
      exact ⟨_, rfl, hfin.out, hB⟩
end Go.Proofs.Ytkjmjgiklelpiaa.OtP
/- onetime: a tag of no bytes. -/
namespace Go.Proofs.Ytkjmjgiklelpiaa.OtQ
open Go.RowKit Go.Proofs.YtkjmjgiklelpiaaW.PrintWords Go.Proofs.Ytkjmjgiklelpiaa.Num Go.Proofs.Ytkjmjgiklelpiaa.WordC Go.Proofs.Ytkjmjgiklelpiaa.Arr Go.Proofs.Ytkjmjgiklelpiaa.App Go.Proofs.Ytkjmjgiklelpiaa.CiC Go.Proofs.Ytkjmjgiklelpiaa.CiD Go.Proofs.Ytkjmjgiklelpiaa.OtC Go.Proofs.Ytkjmjgiklelpiaa.OtR Go.Proofs.Ytkjmjgiklelpiaa.OtL Go.Proofs.Ytkjmjgiklelpiaa.OtM Go.Proofs.Ytkjmjgiklelpiaa.OtT Go.Proofs.Ytkjmjgiklelpiaa.OtV Go.Proofs.Ytkjmjgiklelpiaa.OtK Go.Proofs.Ytkjmjgiklelpiaa.OtN Go.Proofs.Ytkjmjgiklelpiaa.OtO Go.Proofs.Ytkjmjgiklelpiaa.OtP
set_option linter.unusedVariables false
set_option linter.unusedSimpArgs false

theorem adr_set_tail {r a s : List Int} {v u : Value} (hr : r.length = 5) (ha : a.length = 5) (hs : s.length = 4) : (adr r a s v).set 14 u = adr r a s u := by
  unfold adr
  rw [List.set_append_right _ _ (by simp [nums_length, hr, ha, hs])]
  simp [nums_length, hr, ha, hs]
end Go.Proofs.Ytkjmjgiklelpiaa.OtQ
/- Merged out of OtS, OtU, OtX, OtD, OtE, OtF, OtG, OtH, OtI, OtJ. -/
/- onetime: an Adder's state. -/
namespace Go.Proofs.Ytkjmjgiklelpiaa.OtS
open Go.RowKit Go.Proofs.YtkjmjgiklelpiaaW.PrintWords Go.Proofs.Ytkjmjgiklelpiaa.Num Go.Proofs.Ytkjmjgiklelpiaa.WordC Go.Proofs.Ytkjmjgiklelpiaa.Arr Go.Proofs.Ytkjmjgiklelpiaa.App Go.Proofs.Ytkjmjgiklelpiaa.CiC Go.Proofs.Ytkjmjgiklelpiaa.CiD Go.Proofs.Ytkjmjgiklelpiaa.OtC Go.Proofs.Ytkjmjgiklelpiaa.OtR Go.Proofs.Ytkjmjgiklelpiaa.OtL Go.Proofs.Ytkjmjgiklelpiaa.OtM Go.Proofs.Ytkjmjgiklelpiaa.OtT Go.Proofs.Ytkjmjgiklelpiaa.OtV Go.Proofs.Ytkjmjgiklelpiaa.OtK Go.Proofs.Ytkjmjgiklelpiaa.OtN Go.Proofs.Ytkjmjgiklelpiaa.OtO Go.Proofs.Ytkjmjgiklelpiaa.OtP Go.Proofs.Ytkjmjgiklelpiaa.OtQ
set_option linter.unusedVariables false
set_option linter.unusedSimpArgs false

/-- Bytes of one's own that may begin inside their block. -/
abbrev Qw (w : World) (base : Nat) (v : Value) (xs : List Int) : Prop := QRow w base 5 1 v xs.length (nums .u8 xs)
theorem Qw.rd {w : World} {base : Nat} {v : Value} {xs : List Int} (h : Qw w base v xs) : ∃ A c, v = .slice A xs.length c ∧ Rd w A xs.length c xs := by
  obtain ⟨A, c, rfl, hc⟩ := q_slice h
  refine ⟨A, c, rfl, rfl, hc, Kd.C_of_reads (d := (0 : Int)) (h1 := fun _ => rfl) ⟨rfl, q_max h, fun hp => ?_⟩⟩
  obtain ⟨ad, rfl, hcell⟩ := q_cells h hp
  exact ⟨ad, rfl, fun j hj => hcell j _ (nums_get .u8 xs j hj)⟩
theorem Qw.below {w w1 : World} {base : Nat} {v : Value} {xs : List Int} (h : Qw w base v xs) (hb : Below w.heap.size w w1) : Qw w1 base v xs := q_move h (fun k hk => hb.block k (q_lt h k hk))
theorem Qw.nil (w : World) (base : Nat) : Qw w base (.slice none 0 0) [] := q_of_own (own_nil w base 5 1)
theorem Qw.of_ow {w : World} {base : Nat} {v : Value} {xs : List Int} (h : Ow w base v xs) : Qw w base v xs := q_of_own (Kd.own_of_R h)
theorem Qw.far {w : World} {base g : Nat} {v : Value} {xs : List Int} (h : Qw w base v xs) {t : Nat} {cs : List Value} (hg : Blk w g t cs) (ht : t ≠ 5) (i : Nat) (u : Value) : Qw (w.setCell ⟨g, i, none⟩ u) base v xs :=
  q_move h (fun k hk => Below.heap_setCell w _ u k (by
    rintro rfl
    obtain ⟨_, cells, hc⟩ := q_typed h _ hk
    have hg' := hc.symm.trans hg
    injection hg' with hg'; injection hg' with _ hg'
    exact ht hg'.symm))
/-- A block that holds no bytes was written, and no other. -/
theorem Qw.grown {w w1 : World} {base g : Nat} {v : Value} {xs : List Int} (h : Qw w base v xs) {t : Nat} {cs : List Value} (hg : Blk w g t cs) (ht : t ≠ 5) (hk : w.grownBy w1 (some g)) : Qw w1 base v xs :=
  q_move h (fun k hv => hk.block k (q_lt h k hv) (by
    intro e; injection e with e; subst e
    obtain ⟨_, cells, hc⟩ := q_typed h _ hv
    have hg' := hc.symm.trans hg
    injection hg' with hg'; injection hg' with _ hg'
    exact ht hg'.symm))
theorem Qw.ne {w : World} {base g : Nat} {v : Value} {xs : List Int} (h : Qw w base v xs) {t : Nat} {cs : List Value} (hg : Blk w g t cs) (ht : t ≠ 5) : some g ≠ v.ownBlock := by
  intro he
  obtain ⟨_, cells, hc⟩ := q_typed h g he.symm
  have hg' := hc.symm.trans hg
  injection hg' with hg'; injection hg' with _ hg'
  exact ht hg'.symm
theorem Qw.drop {w : World} {base : Nat} {A : Option Addr} {n c : Nat} {xs : List Int} (h : Qw w base (.slice A n c) xs) (k : Nat) (hk : k ≤ xs.length) (hn : n = xs.length) :
    Qw w base (.slice (if c = k then A else A.map (·.add (k * 1))) (n - k) (c - k)) (xs.drop k) := by
  subst hn
  have := q_drop h hk
  unfold Qw
  rw [List.length_drop]
  have e : nums .u8 (xs.drop k) = (nums .u8 xs).drop (k * 1) := by simp [nums]
  rw [e]; exact this
theorem Qw.rd' {w : World} {base : Nat} {A : Option Addr} {n c : Nat} {xs : List Int} (h : Qw w base (.slice A n c) xs) : Rd w A n c xs := by
  obtain ⟨A', c', e, hr⟩ := h.rd
  injection e with e1 e2 e3
  subst e1 e2 e3
  exact hr
/-- xs[k:], of a row of one's own -/
theorem qw_cut {w : World} {base : Nat} {A : Option Addr} {n c : Nat} {xs : List Int} (h : Qw w base (.slice A n c) xs) (k : Nat) {x : Int} (hx : x = k) (hk : k ≤ n) :
    ∃ A' c', (∀ W : World, (Instr.slice 22 (.slice A n c) (some (.int .i64 x)) none none).run Try.prog W = .ok (.slice A' (n - k) c') W) ∧ (∀ W : World, Qw W base (.slice A n c) xs → Qw W base (.slice A' (n - k) c') (xs.drop k)) ∧ (Value.slice A' (n - k) c').ownBlock = (Value.slice A n c).ownBlock := by
  subst hx
  have hr := Qw.rd' h
  obtain ⟨i, hi0, hsz⟩ := infoX
  have hcut := cut_from (P := Try.prog) 22 5 .i64 Try.underlying22 hi0 1 hsz A n c (k : Int) (by omega) (by omega)
  simp only [Int.toNat_natCast] at hcut
  refine ⟨_, _, hcut, fun W hW => Qw.drop hW k (by have := hr.len; omega) hr.len.symm, ?_⟩
  cases A with
  | none => split <;> rfl
  | some a => split <;> simp [Value.ownBlock, Addr.add] <;> split <;> rfl
theorem append_qw {ops : Array Oper} {rest : List Oper} {o : Oper} {a : Act} {Q : Exit → Act → World → Prop} {W : World} (base : Nat) (hgd : o.guard = none) (s x : Operand)
    (ho : o.op = .call { callee := .builtin .append, args := #[s, x], argTypes := #[22, 22] })
    (v : Value) (xs ys : List Int) (A : Option Addr) (m c : Nat) (hs : a.eval s = v) (hx : a.eval x = .slice A m c)
    (HO : Qw W base v xs) (HR : Rd W A m c ys) (hbase : base ≤ W.heap.size) (hl : xs.length + m ≤ 140737488355328)
    (h : ∀ v1 w1, Qw w1 base v1 (xs ++ ys) → W.grownBy w1 v.ownBlock → (v1.ownBlock = v.ownBlock ∨ ∃ b, v1.ownBlock = some b ∧ W.heap.size ≤ b) → wpList Try.prog ops Q rest (a.put o.dst v1) w1) :
    wpList Try.prog ops Q (o :: rest) a W := by
  obtain ⟨i0, hi, hzz⟩ := Option.map_eq_some_iff.1 infoB
  simp only [Prod.mk.injEq] at hzz
  obtain ⟨hz0, hz1, hz2⟩ := hzz
  have hm : ys.length = m := HR.len
  have hrun : ∃ v1 w1, (Builtin.append_ #[22, 22] o.type #[v, .slice A m c]).run Try.prog W = .ok v1 w1 ∧ Qw w1 base v1 (xs ++ ys) ∧ W.grownBy w1 v.ownBlock ∧ (v1.ownBlock = v.ownBlock ∨ ∃ b, v1.ownBlock = some b ∧ W.heap.size ≤ b) := by
    rcases Nat.eq_zero_or_pos m with h0 | hp
    · have hy : ys = [] := List.eq_nil_of_length_eq_zero (by omega)
      subst hy
      refine ⟨v, W, ?_, by rw [List.append_nil]; exact HO, World.grownBy.refl W _, .inl rfl⟩
      rw [h0]
      rcases HO.2 with ⟨hn, A', rfl, _⟩ | ⟨g, off, cap, cur, rfl, _, _, hnc, _⟩
      · cases A <;> cases A' <;> simp [Builtin.append_, run_underlying Try.underlying22, sizeOf, typeInfo, hi, Builtin.lenOf, Builtin.firstCells, loadCells, loadCellsFrom, storeCells, hn]
      · cases A <;> simp [Builtin.append_, run_underlying Try.underlying22, sizeOf, typeInfo, hi, Builtin.lenOf, Builtin.firstCells, hnc, loadCells, loadCellsFrom, storeCells]
    · obtain ⟨ad, rfl, hc⟩ := rd_cells HR hp
      obtain ⟨v1, w1, h1, h2, h3, h4⟩ := q_append (P := Try.prog) W base 22 o.type 5 i0 (.int .u8 0) 1 1 Try.underlying22 hi hz0 hz1 hz2 rfl (by decide) v xs.length (nums .u8 xs) HO ad m c (nums .u8 ys) (by rw [nums_length, hm, Nat.mul_one]) hc (nums_one _ _) hp (by simp only [maxLen]; omega) (by omega) hbase
      refine ⟨v1, w1, h1, ?_, h3, h4⟩
      unfold Qw
      rw [List.length_append, nums_append, hm]
      exact h2
  obtain ⟨v1, w1, hr, h2, h3, h4⟩ := hrun
  refine wpList_plain hgd fun K hK => ?_
  unfold Oper.wp execOp
  simp only [ho, resolve, invoke, builtin, Sem.run_bind, Sem.run_pure, Result.andThen_ok, List.map_toArray, List.map_cons, List.map_nil, hs, hx, hr]
  exact hK _ _ (h v1 w1 h2 h3 h4)
theorem blk_grow {w w' : World} {g t : Nat} {row : Option Nat} {cs : List Value} (h : Blk w g t cs) (hg : w.grownBy w' row) (hne : some g ≠ row) : Blk w' g t cs := (hg.block g (Blk.lt h) hne).trans h
/-- What became of the world: of the elder blocks just two were written. -/
structure Fr (w w' : World) (g : Nat) (row : Option Nat) : Prop where
  os : w'.os = w.os
  tape : w'.tape = w.tape
  output : w'.output = w.output
  size : w.heap.size ≤ w'.heap.size
  block : ∀ k, k < w.heap.size → k ≠ g → some k ≠ row → w'.heap[k]? = w.heap[k]?
theorem Fr.refl (w : World) (g : Nat) (row : Option Nat) : Fr w w g row := ⟨rfl, rfl, rfl, Nat.le_refl _, fun _ _ _ _ => rfl⟩
theorem Fr.of_below {w w' : World} (h : Below w.heap.size w w') (g : Nat) (row : Option Nat) : Fr w w' g row := ⟨h.os, h.tape, h.output, h.size, fun k hk _ _ => h.block k hk⟩
theorem Fr.trans {w w1 w2 : World} {g : Nat} {row row1 : Option Nat} (h : Fr w w1 g row) (k : Fr w1 w2 g row1) (hr : row1 = row ∨ ∃ b, row1 = some b ∧ w.heap.size ≤ b) : Fr w w2 g row :=
  ⟨k.os.trans h.os, k.tape.trans h.tape, k.output.trans h.output, Nat.le_trans h.size k.size, fun i hi hg hne => (k.block i (Nat.lt_of_lt_of_le hi h.size) hg (by
    rcases hr with e | ⟨b, e, hb⟩
    · rw [e]; exact hne
    · rw [e]; intro e'; injection e' with e'; omega)).trans (h.block i hi hg hne)⟩
theorem Fr.next {w w1 w2 : World} {g : Nat} {row : Option Nat} (h : Fr w w1 g row) (k : Below w1.heap.size w1 w2) : Fr w w2 g row := h.trans (Fr.of_below k g row) (.inl rfl)
theorem Fr.setCell {w w1 : World} {g : Nat} {row : Option Nat} (h : Fr w w1 g row) (i : Nat) (u : Value) : Fr w (w1.setCell ⟨g, i, none⟩ u) g row :=
  ⟨h.os, h.tape, h.output, by simpa [World.setCell] using h.size, fun k hk hg hne => (Below.heap_setCell w1 _ u k hg).trans (h.block k hk hg hne)⟩
theorem Fr.grown {w w1 w2 : World} {g : Nat} {row row1 : Option Nat} (h : Fr w w1 g row) (k : w1.grownBy w2 row1) (hr : row1 = row ∨ ∃ b, row1 = some b ∧ w.heap.size ≤ b) : Fr w w2 g row :=
  h.trans ⟨k.os, k.tape, k.output, k.size, fun i hi _ hne => k.block i hi hne⟩ hr
/-- The state's own block was written. -/
theorem Fr.self {w w1 w2 : World} {g : Nat} {row : Option Nat} (h : Fr w w1 g row) (k : w1.grownBy w2 (some g)) : Fr w w2 g row :=
  ⟨k.os.trans h.os, k.tape.trans h.tape, k.output.trans h.output, Nat.le_trans h.size k.size, fun i hi hg hne => (k.block i (Nat.lt_of_lt_of_le hi h.size) (by intro e; injection e with e; exact hg e)).trans (h.block i hi hg hne)⟩
theorem Fr.drewN {w w1 : World} {g : Nat} {row : Option Nat} (h : Fr w w1 g row) (n : Nat) : Fr w (w1.drewN n) g row := ⟨h.os, h.tape, h.output, h.size, h.block⟩
theorem Fr.drew {w w1 : World} {g : Nat} {row : Option Nat} (h : Fr w w1 g row) : Fr w w1.drew g row := ⟨h.os, h.tape, h.output, h.size, h.block⟩
theorem Fr.below {w0 w w1 : World} {g B : Nat} {row : Option Nat} (h : Fr w w1 g row) (hb : Below B w0 w) (hB : B ≤ w.heap.size) (hg : B ≤ g) (hr : ∀ k, row = some k → B ≤ k) : Below B w0 w1 :=
  ⟨h.os.trans hb.os, h.tape.trans hb.tape, h.output.trans hb.output, Nat.le_trans hb.size h.size, fun k hk => (h.block k (by omega) (by omega) (by intro e; have := hr k e.symm; omega)).trans (hb.block k hk)⟩

/-- Whole blocks taken, one behind another. -/
def accS (r a X : List Int) : Nat → List Int
  | 0 => a
  | j + 1 => takeS (accS r a X j) r (readS ((X.drop (16 * j)).take 16) 1)
theorem timesS_length (a r : List Int) : (timesS a r).length = 5 := by simp [timesS, carS, top5, cst_length, tst_length]
theorem readS_length (b : List Int) (top : Int) : (readS b top).length = 5 := by simp [readS, rdT_length]
theorem accS_length {r a X : List Int} (h : a.length = 5) (j : Nat) : (accS r a X j).length = 5 := by
  cases j with
  | zero => exact h
  | succ j => simp only [accS, takeS]; exact timesS_length _ _
theorem accS_add (r a X Y : List Int) (m j : Nat) (hm : 16 * m ≤ X.length) : accS r (accS r a X m) (X.drop (16 * m) ++ Y) j = accS r a (X ++ Y) (m + j) := by
  induction j with
  | zero =>
    show accS r a X m = accS r a (X ++ Y) m
    have h : ∀ i, i ≤ m → accS r a X i = accS r a (X ++ Y) i := by
      intro i hi
      induction i with
      | zero => rfl
      | succ i ih =>
        simp only [accS]
        rw [ih (by omega), List.drop_append_of_le_length (by omega), List.take_append_of_le_length (by rw [List.length_drop]; omega)]
    exact h m (Nat.le_refl m)
  | succ j ih =>
    rw [show m + (j + 1) = (m + j) + 1 from rfl]
    simp only [accS]
    rw [ih, ← List.drop_append_of_le_length hm, List.drop_drop, show 16 * m + 16 * j = 16 * (m + j) by omega]
def zero5 : List Int := [0, 0, 0, 0, 0]
def gone (r b : List Int) : List Int := accS r zero5 b (b.length / 16)
def rest16 (b : List Int) : List Int := b.drop (16 * (b.length / 16))
theorem rest16_length (b : List Int) : (rest16 b).length = b.length % 16 := by unfold rest16; rw [List.length_drop]; omega
theorem gone_append (r b l : List Int) : gone r (b ++ l) = accS r (gone r b) (rest16 b ++ l) ((rest16 b ++ l).length / 16) := by
  unfold gone rest16
  rw [accS_add r zero5 b l (b.length / 16) _ (by omega)]
  congr 1
  simp only [List.length_append, List.length_drop]
  omega
theorem rest16_append (b l : List Int) : rest16 (b ++ l) = (rest16 b ++ l).drop (16 * ((rest16 b ++ l).length / 16)) := by
  unfold rest16
  rw [← List.drop_append_of_le_length (by omega), List.drop_drop]
  congr 1
  simp only [List.length_append, List.length_drop]
  omega
theorem limb_bd {b : List Int} (h : IsB b) (i : Nat) : 0 ≤ limb b i ∧ limb b i < 67108864 := by
  unfold limb
  omega
theorem readS_bd {b : List Int} (h : IsB b) {top : Int} (m : Int) (hm : top * 16777216 + 16777216 ≤ m) (h0 : 0 ≤ top) (hm0 : 67108864 ≤ m) : IsBd m (readS b top) := by
  have hI : IsB ((b.take 16).drop 12) := fun x hx => h x (List.mem_of_mem_take (List.mem_of_mem_drop hx))
  have hl := load_range hI true
  have h1 : readS b top = [limb b 0, limb b 1, limb b 2, limb b 3, (loadW ((b.take 16).drop 12) true).1 / 256 + top * 16777216] := rfl
  rw [h1]
  generalize (loadW ((b.take 16).drop 12) true).1 = x at *
  have a0 := limb_bd h 0
  have a1 := limb_bd h 1
  have a2 := limb_bd h 2
  have a3 := limb_bd h 3
  intro j
  have hj : j = 0 ∨ j = 1 ∨ j = 2 ∨ j = 3 ∨ j = 4 ∨ 5 ≤ j := by omega
  rcases hj with rfl | rfl | rfl | rfl | rfl | hj
  · simp; omega
  · simp; omega
  · simp; omega
  · simp; omega
  · simp; omega
  · rw [List.getD_eq_getElem?_getD, List.getElem?_eq_none (by simpa using hj)]; simp; omega
theorem low_bd {l : List Int} (h : Low l) : IsBd 134217728 l := by
  obtain ⟨a, b, c, d, e, rfl, h1, h2, h3, h4, h5⟩ := h
  intro j
  have hj : j = 0 ∨ j = 1 ∨ j = 2 ∨ j = 3 ∨ j = 4 ∨ 5 ≤ j := by omega
  rcases hj with rfl | rfl | rfl | rfl | rfl | hj
  · simp; omega
  · simp; omega
  · simp; omega
  · simp; omega
  · simp; omega
  · rw [List.getD_eq_getElem?_getD, List.getElem?_eq_none (by simpa using hj)]; simp
theorem low_zero : Low zero5 := ⟨0, 0, 0, 0, 0, rfl, by omega, by omega, by omega, by omega, by omega⟩
theorem takeS_low {a r b : List Int} (ha : Low a) (hlr : r.length = 5) (hr : IsBd 67108864 r) (hlb : b.length = 5) (hb : IsBd 134217728 b) : Low (takeS a r b) :=
  (times_val (by rw [addT_length]; exact hlb) hlr (addT_bd hlb (low_bd ha) hb 5) hr).1
theorem accS_low {r a X : List Int} (ha : Low a) (hlr : r.length = 5) (hr : IsBd 67108864 r) (hX : IsB X) (j : Nat) : Low (accS r a X j) := by
  induction j with
  | zero => exact ha
  | succ j ih => exact takeS_low ih hlr hr (readS_length _ _) (readS_bd (fun x hx => hX x (List.mem_of_mem_drop (List.mem_of_mem_take hx))) _ (by omega) (by omega) (by omega))
theorem gone_low {r b : List Int} (hlr : r.length = 5) (hr : IsBd 67108864 r) (hb : IsB b) : Low (gone r b) := accS_low low_zero hlr hr hb _

/-- An Adder of r and s to which bytes b were added: it lies in block g, its tail is v. -/
structure St (w : World) (base g : Nat) (v : Value) (r s b : List Int) : Prop where
  ge : base ≤ g
  isB : IsB b
  rl : r.length = 5
  rb : IsBd 67108864 r
  sl : s.length = 4
  sw : IsW s
  blk : Blk w g 83 (adr r (gone r b) s v)
  tail : Qw w base v (rest16 b)
theorem St.lt {w : World} {base g : Nat} {v : Value} {r s b : List Int} (h : St w base g v r s b) : g < w.heap.size := Blk.lt h.blk
theorem St.row_ge {w : World} {base g : Nat} {v : Value} {r s b : List Int} (h : St w base g v r s b) : ∀ k, v.ownBlock = some k → base ≤ k := fun k hk => (q_typed h.tail k hk).1
theorem St.below {w w1 : World} {base g : Nat} {v : Value} {r s b : List Int} (h : St w base g v r s b) (hb : Below w.heap.size w w1) : St w1 base g v r s b := ⟨h.ge, h.isB, h.rl, h.rb, h.sl, h.sw, Blk.below h.blk hb, h.tail.below hb⟩
theorem St.lower {w : World} {base base' g : Nat} {v : Value} {r s b : List Int} (h : St w base g v r s b) (hb : base' ≤ base) : St w base' g v r s b := ⟨Nat.le_trans hb h.ge, h.isB, h.rl, h.rb, h.sl, h.sw, h.blk, q_lower h.tail hb⟩
end Go.Proofs.Ytkjmjgiklelpiaa.OtS
/- onetime: Add, walked. -/
namespace Go.Proofs.Ytkjmjgiklelpiaa.OtU
open Go.RowKit Go.Proofs.YtkjmjgiklelpiaaW.PrintWords Go.Proofs.Ytkjmjgiklelpiaa.Num Go.Proofs.Ytkjmjgiklelpiaa.WordC Go.Proofs.Ytkjmjgiklelpiaa.Arr Go.Proofs.Ytkjmjgiklelpiaa.App Go.Proofs.Ytkjmjgiklelpiaa.CiC Go.Proofs.Ytkjmjgiklelpiaa.CiD Go.Proofs.Ytkjmjgiklelpiaa.OtC Go.Proofs.Ytkjmjgiklelpiaa.OtR Go.Proofs.Ytkjmjgiklelpiaa.OtL Go.Proofs.Ytkjmjgiklelpiaa.OtM Go.Proofs.Ytkjmjgiklelpiaa.OtT Go.Proofs.Ytkjmjgiklelpiaa.OtV Go.Proofs.Ytkjmjgiklelpiaa.OtK Go.Proofs.Ytkjmjgiklelpiaa.OtN Go.Proofs.Ytkjmjgiklelpiaa.OtO Go.Proofs.Ytkjmjgiklelpiaa.OtP Go.Proofs.Ytkjmjgiklelpiaa.OtQ Go.Proofs.Ytkjmjgiklelpiaa.OtS
set_option linter.unusedVariables false
set_option linter.unusedSimpArgs false

theorem adr_get {r a s : List Int} {v : Value} (hr : r.length = 5) (ha : a.length = 5) (i : Nat) (hi : i < 5) : (adr r a s v)[5 + i]? = some (.int .u64 (a.getD i 0)) := by
  unfold adr
  rw [List.getElem?_append_left (by simp [nums_length, hr, ha]; omega), List.getElem?_append_left (by simp [nums_length, hr, ha]; omega), List.getElem?_append_right (by simp [nums_length, hr]), nums_length, hr, show 5 + i - 5 = i by omega]
  exact nums_get .u64 a i (by omega)
theorem adr_set_a {r a s : List Int} {v : Value} (hr : r.length = 5) (ha : a.length = 5) (i : Nat) (hi : i < 5) (x : Int) : (adr r a s v).set (5 + i) (.int .u64 x) = adr r (a.set i x) s v := by
  unfold adr
  rw [List.set_append_left _ _ (by simp [nums_length, hr, ha]; omega), List.set_append_left _ _ (by simp [nums_length, hr, ha]; omega), List.set_append_right _ _ (by simp [nums_length, hr]), nums_length, hr, show 5 + i - 5 = i by omega, nums_set]
theorem range_adr_r {w : World} {g : Nat} {r a s : List Int} {v : Value} (h : Blk w g 83 (adr r a s v)) : w.rangeAt g 0 (nums .u64 r) := fun j u hj => by
  have hj1 : j < r.length := by have := (List.getElem?_eq_some_iff.1 hj).1; rwa [nums_length] at this
  rw [Nat.zero_add, Blk.cell h]
  unfold adr
  rw [List.getElem?_append_left (by simp [nums_length]; omega), List.getElem?_append_left (by simp [nums_length]; omega), List.getElem?_append_left (by simp [nums_length]; omega)]
  exact hj
/-- Five limbs are put into an Adder. -/
theorem adr_put5 {w : World} {g : Nat} {r a s : List Int} {v : Value} (h : Blk w g 83 (adr r a s v)) (hr : r.length = 5) (ha : a.length = 5) (b0 b1 b2 b3 b4 : Int) :
    Blk (((((w.setCell ⟨g, 5, none⟩ (.int .u64 b0)).setCell ⟨g, 6, none⟩ (.int .u64 b1)).setCell ⟨g, 7, none⟩ (.int .u64 b2)).setCell ⟨g, 8, none⟩ (.int .u64 b3)).setCell ⟨g, 9, none⟩ (.int .u64 b4)) g 83 (adr r [b0, b1, b2, b3, b4] s v) := by
  have h0 := Blk.set_ h 5 (.int .u64 b0)
  rw [adr_set_a hr ha 0 (by omega)] at h0
  have h1 := Blk.set_ h0 6 (.int .u64 b1)
  rw [adr_set_a hr (by simpa using ha) 1 (by omega)] at h1
  have h2 := Blk.set_ h1 7 (.int .u64 b2)
  rw [adr_set_a hr (by simpa using ha) 2 (by omega)] at h2
  have h3 := Blk.set_ h2 8 (.int .u64 b3)
  rw [adr_set_a hr (by simpa using ha) 3 (by omega)] at h3
  have h4 := Blk.set_ h3 9 (.int .u64 b4)
  rw [adr_set_a hr (by simpa using ha) 4 (by omega)] at h4
  match a, ha with
  | [a0, a1, a2, a3, a4], _ => exact h4
theorem read5 {A : Option Addr} {c : Nat} {b : List Int} {w : World} (hr : Rd w A 16 c b) (hb : IsB b) :
    Calls Try.prog 53 #[.slice A 16 c, .int .u64 1] w fun e w' => e = .returned (.agg (nums .u64 (readS b 1)).toArray) ∧ Below w.heap.size w w' := read_c hr (Nat.le_refl _) hb (.inr rfl)
theorem take5 {g : Nat} {a r b s : List Int} {v : Value} {w : World} (hg : Blk w g 83 (adr r a s v)) (hla : a.length = 5) (hlr : r.length = 5) (hlb : b.length = 5) (ba : IsBd 134217728 a) (br : IsBd 67108864 r) (bb : IsBd 134217728 b) :
    Calls Try.prog 55 #[.pointer (some ⟨g, 0, none⟩), .agg (nums .u64 b).toArray] w fun e w' => ∃ b0 b1 b2 b3 b4 : Int, Aside0 (takeS a r b = [b0, b1, b2, b3, b4]) ∧ e = .returned (.agg #[.int .u64 b0, .int .u64 b1, .int .u64 b2, .int .u64 b3, .int .u64 b4]) ∧ Below w.heap.size w w' := by
  refine (take_c (range_adr_r hg) (range_adr_a hg hlr) (Blk.lt hg) hla hlr hlb ba br bb).mono ?_
  rintro e w' ⟨rfl, hB⟩
  have hl : (takeS a r b).length = 5 := timesS_length _ _
  generalize takeS a r b = z at *
  match z, hl with
  | [b0, b1, b2, b3, b4], _ => exact ⟨b0, b1, b2, b3, b4, ⟨rfl⟩, rfl, hB⟩
theorem store_adr {ops : Array Oper} {rest : List Oper} {o : Oper} {act : Act} {w : World} {Q : Exit → Act → World → Prop} (hgd : o.guard = none) (x y : Operand) (ho : o.op = .store 79 x y) (g : Nat) (hx : act.eval x = .pointer (some ⟨g, 5, none⟩)) (b0 b1 b2 b3 b4 : Int) (hy : act.eval y = .agg #[.int .u64 b0, .int .u64 b1, .int .u64 b2, .int .u64 b3, .int .u64 b4])
    {r a s : List Int} {v : Value} (hg : Blk w g 83 (adr r a s v)) (hr : r.length = 5) (ha : a.length = 5)
    (h : ∀ w', Blk w' g 83 (adr r [b0, b1, b2, b3, b4] s v) → w.grownBy w' (some g) → wpList Try.prog ops Q rest (act.put o.dst undef) w') : wpList Try.prog ops Q (o :: rest) act w := by
  refine wpList_store_mid hgd 79 x y ho g 5 #[.int .u64 b0, .int .u64 b1, .int .u64 b2, .int .u64 b3, .int .u64 b4] hx hy ?_ size79 (all_nums .u64 [b0, b1, b2, b3, b4]) ?_
  · intro j hj
    have hj5 : j < 5 := hj
    refine ⟨?_, Blk.frozen hg _⟩
    rw [Blk.cell hg, adr_get hr ha j hj5]; rfl
  · obtain ⟨h1, h2, h3, h4⟩ := setCells_same g [.int .u64 b0, .int .u64 b1, .int .u64 b2, .int .u64 b3, .int .u64 b4] 5 w
    exact h _ (adr_put5 hg hr ha b0 b1 b2 b3 b4) ⟨h1, h2, h3, Nat.le_of_eq h4.symm, fun k hk hne => setCells_far _ _ k (fun e => hne (by rw [e]))⟩
theorem drop16 (X : List Int) (j : Nat) : (X.drop (16 * j)).drop 16 = X.drop (16 * (j + 1)) := by rw [List.drop_drop]; congr 1
set_option maxHeartbeats 8000000 in
set_option maxRecDepth 100000 in
theorem Add_c {base g : Nat} {v : Value} {r s b l : List Int} {A : Option Addr} {n c : Nat} {w : World} (hS : St w base g v r s b) (hr : Rd w A n c l) (hB : IsB l) (hbase : base ≤ w.heap.size) (hl : b.length + n ≤ 140737488355328) :
    Calls Try.prog 30 #[.pointer (some ⟨g, 0, none⟩), .slice A n c] w fun e w' => e = .returned (.tuple #[]) ∧ ∃ v', St w' base g v' r s (b ++ l) ∧ Fr w w' g v.ownBlock ∧ (v'.ownBlock = v.ownBlock ∨ ∃ k, v'.ownBlock = some k ∧ w.heap.size ≤ k) := by
  obtain ⟨hge, hbB, hrl5, hrb, hsl4, hsw, hblk, htail⟩ := hS
  have hRL := Aside0.mk hrl5
  have hRB := Aside0.mk hrb
  have hSL := Aside0.mk hsl4
  have hSW := Aside0.mk hsw
  have hgl := Aside0.mk (gone_low hrl5 hrb hbB)
  obtain ⟨Av, cv, rfl, hrv⟩ := htail.rd
  have hln := hr.len
  have hrl := rest16_length b
  have hrB : IsB (rest16 b) := fun x hx => hbB x (List.mem_of_mem_drop hx)
  have hga := Aside0.mk (gone_append r b l)
  have hra := Aside0.mk (rest16_append b l)
  have hrl' : (rest16 b).length + n ≤ 140737488355328 := by omega
  have HLN := Aside0.mk hln
  have hGl : Aside0 ((gone r b).length = 5) := ⟨hgl.out.length⟩
  have c14 : w.cell? ⟨g, 14, none⟩ = some (.slice Av (rest16 b).length cv) := (Blk.cell hblk 14).trans (adr_tail hrl5 hGl.out hsl4)
  obtain ⟨X, HX⟩ : ∃ X, Aside0 (rest16 b ++ l = X) := ⟨_, ⟨rfl⟩⟩
  have hXB : IsB X := by rw [← HX.out]; intro x hx; rcases List.mem_append.1 hx with h | h; exact hrB x h; exact hB x h
  have hXl : X.length = (rest16 b).length + n := by rw [← HX.out, List.length_append, hln]
  have hXm : X.length ≤ 140737488355328 := by omega
  have HXL := Aside0.mk hXl
  have HXB := Aside0.mk hXB
  obtain ⟨row, HROW⟩ : ∃ row, Aside0 ((Value.slice Av (rest16 b).length cv).ownBlock = row) := ⟨_, ⟨rfl⟩⟩
  have hrow : ∀ k, row = some k → base ≤ k := by rw [← HROW.out]; exact fun k hk => (q_typed htail k hk).1
  have hrne : some g ≠ row := by rw [← HROW.out]; exact Qw.ne htail hblk (by decide)
  rw [HROW.out]
  rw [HX.out] at hga hra
  obtain ⟨G, HG⟩ : ∃ G, Aside0 (gone r b = G) := ⟨_, ⟨rfl⟩⟩
  rw [HG.out] at hga hgl hGl hblk
  have HBLK := Aside0.mk hblk
  have HTAIL := Aside0.mk htail
  have HR := Aside0.mk hr
  have HBB := Aside0.mk (show IsB (b ++ l) from fun x hx => by rcases List.mem_append.1 hx with h | h; exact hbB x h; exact hB x h)
  clear hln hrl htail hblk hXl hr hrv hrl5 hrb hsl4 hsw hrB hB hbB hXB
  go_enter Try.func30, Try.ntmps30
  go_wp2_with (first
    | (at_builtin; refine append_qw base rfl (.tmp 10) (.tmp 11) rfl (.slice Av (rest16 b).length cv) (rest16 b) l A n c rfl rfl HTAIL.out HR.out hbase hrl' ?_; intro v2 w2 hq2 hg2 hat2; rw [HROW.out] at hg2 hat2; rw [HX.out] at hq2; have hB2 := blk_grow HBLK.out hg2 hrne; have hF2 := (Fr.refl w g row).grown hg2 (.inl rfl); have f14 := Blk.frozen hB2 14; have d14 : w2.cell? ⟨g, 14, none⟩ = some (.slice Av (rest16 b).length cv) := (Blk.cell hB2 14).trans (adr_tail hRL.out hGl.out hSL.out); obtain ⟨A2, c2, rfl, hr2⟩ := hq2.rd))
  have hq3 : Aside0 (Qw (w2.setCell ⟨g, 14, none⟩ (.slice A2 X.length c2)) base (.slice A2 X.length c2) (X.drop (16 * 0))) := ⟨Qw.far hq2 hB2 (by decide) 14 _⟩
  have hB3 : Aside0 (Blk (w2.setCell ⟨g, 14, none⟩ (.slice A2 X.length c2)) g 83 (adr r (accS r G X 0) s (.slice A2 X.length c2))) := ⟨by
    have h1 := Blk.set_ hB2 14 (.slice A2 X.length c2)
    rwa [adr_set_tail hRL.out hGl.out hSL.out] at h1⟩
  have hF3 : Fr w (w2.setCell ⟨g, 14, none⟩ (.slice A2 X.length c2)) g row := hF2.setCell 14 _
  have hat3 : Aside0 ((Value.slice A2 X.length c2).ownBlock = row ∨ ∃ k, (Value.slice A2 X.length c2).ownBlock = some k ∧ w.heap.size ≤ k) := ⟨by
    rcases hat2 with e | ⟨k, e, hk⟩
    · exact .inl e
    · exact .inr ⟨k, e, hk⟩⟩
  clear hq2 hB2 hF2 hat2 hg2 f14 d14 hr2 c14
  go_loopg [15] (X.length / 16) (fun k s15 wr => ∃ (j m : Nat) (Aj : Option Addr) (cj : Nat), 16 * j + m = X.length ∧ k + j = X.length / 16 ∧ Aside0 (Blk wr g 83 (adr r (accS r G X j) s (.slice Aj m cj))) ∧ Aside0 (Qw wr base (.slice Aj m cj) (X.drop (16 * j))) ∧ Fr w wr g row ∧ Aside0 ((Value.slice Aj m cj).ownBlock = row ∨ ∃ k, (Value.slice Aj m cj).ownBlock = some k ∧ w.heap.size ≤ k))
  case atStart => exact ⟨0, X.length, A2, c2, by omega, by omega, hB3, hq3, hF3, hat3⟩
  case round =>
    clear hq3 hB3 hF3 hat3
    obtain ⟨j, m, Aj, cj, hjm, hkj, hBj, hQj, hFj, hatj⟩ := hrel
    have hlow := Aside0.mk (accS_low hgl.out hRL.out hRB.out HXB.out j)
    have hal : Aside0 ((accS r G X j).length = 5) := ⟨hlow.out.length⟩
    have k14 : wr.cell? ⟨g, 14, none⟩ = some (.slice Aj m cj) := (Blk.cell hBj.out 14).trans (adr_tail hRL.out hal.out hSL.out)
    by_cases hlt : 16 ≤ m
    · have hlt' : (16 : Int) ≤ (m : Int) := by omega
      have hnext : Aside0 (accS r G X (j + 1) = takeS (accS r G X j) r (readS ((X.drop (16 * j)).take 16) 1)) := ⟨rfl⟩
      obtain ⟨R, HRE⟩ : ∃ R, Aside0 (accS r G X j = R) := ⟨_, ⟨rfl⟩⟩
      rw [HRE.out] at hBj hnext hal hlow
      have hrd := Qw.rd' hQj.out
      obtain ⟨hcut, hrd16⟩ := rd_slice_to hrd 16 (y := 16) (by omega) hlt
      obtain ⟨A', c', hcut2, hq', hown'⟩ := qw_cut hQj.out 16 (x := 16) (by omega) hlt
      have hI : IsB ((X.drop (16 * j)).take 16) := fun x hx => HXB.out x (List.mem_of_mem_drop (List.mem_of_mem_take hx))
      have hbd := Aside0.mk (readS_bd hI 134217728 (top := 1) (by omega) (by omega) (by omega))
      have hrdl := Aside0.mk (readS_length ((X.drop (16 * j)).take 16) 1)
      have HQ' := Aside0.mk hq'
      have HOWN := Aside0.mk hown'
      clear hq' hown' hrd
      go_wp2_with fail
      refine (read5 hrd16 hI).mono ?_
      rintro x w4 ⟨rfl, hb4⟩
      have hB4 := Blk.below hBj.out hb4
      go_wp2_with fail
      refine (take5 hB4 hal.out hRL.out hrdl.out (low_bd hlow.out) hRB.out hbd.out).mono ?_
      rintro x w5 ⟨b0, b1, b2, b3, b4, HB5, rfl, hb5⟩
      have HB5' := Aside0.mk (Blk.below hB4 hb5)
      have hQ5 := Qw.below (Qw.below hQj.out hb4) hb5
      have hF5 := (hFj.next hb4).next hb5
      have hl5 : Aside0 ((accS r G X (j + 1)).length = 5) := ⟨accS_length hgl.out.length _⟩
      clear hB4 k14
      go_wp2_with (first
        | (refine store_adr rfl (.tmp 31) (.tmp 29) rfl g rfl b0 b1 b2 b3 b4 rfl HB5'.out hRL.out hal.out ?_
           intro w6 hW hg6
           rw [← HB5.out, ← hnext.out] at hW
           have hQ6 := Qw.grown hQ5 HB5'.out (by decide) hg6
           have hF6 := hF5.self hg6
           have k14 : w6.cell? ⟨g, 14, none⟩ = some (.slice Aj m cj) := (Blk.cell hW 14).trans (adr_tail hRL.out hl5.out hSL.out)
           have f14 := Blk.frozen hW 14))
      have hW7 : Aside0 (Blk (w6.setCell ⟨g, 14, none⟩ (.slice A' (m - 16) c')) g 83 (adr r (accS r G X (j + 1)) s (.slice A' (m - 16) c'))) := ⟨by
        have h1 := Blk.set_ hW 14 (.slice A' (m - 16) c')
        rwa [adr_set_tail hRL.out hl5.out hSL.out] at h1⟩
      have hQ7 : Aside0 (Qw (w6.setCell ⟨g, 14, none⟩ (.slice A' (m - 16) c')) base (.slice A' (m - 16) c') (X.drop (16 * (j + 1)))) := ⟨by
        have h := Qw.far (HQ'.out _ hQ6) hW (by decide) 14 (.slice A' (m - 16) c')
        rw [drop16] at h; exact h⟩
      have hF7 : Fr w (w6.setCell ⟨g, 14, none⟩ (.slice A' (m - 16) c')) g row := hF6.setCell 14 _
      have hat7 : Aside0 ((Value.slice A' (m - 16) c').ownBlock = row ∨ ∃ k, (Value.slice A' (m - 16) c').ownBlock = some k ∧ w.heap.size ≤ k) := ⟨by rw [HOWN.out]; exact hatj.out⟩
      clear hW hQ5 hQ6 hF6 hF5 hg6
      go_roundg (gk - 1)
      case measure => omega
      case rel => exact ⟨j + 1, m - 16, A', c', by omega, by omega, hW7, hQ7, hF7, hat7⟩
    · have hlt' : ¬ (16 : Int) ≤ (m : Int) := by omega
      have hj : j = X.length / 16 := by omega
      have HJ := Aside0.mk hj
      clear hj
      go_wp2_with fail
      go_end0
      have h1 := hBj.out
      have h2 := hQj.out
      rw [HJ.out, ← hga.out] at h1
      rw [HJ.out, ← hra.out] at h2
      exact ⟨rfl, _, ⟨hge, HBB.out, hRL.out, hRB.out, hSL.out, hSW.out, h1, h2⟩, hFj, hatj.out⟩
end Go.Proofs.Ytkjmjgiklelpiaa.OtU
/- Parts of bytes that came in; an Adder beside them. -/
namespace Go.Proofs.Ytkjmjgiklelpiaa.OtX
open Go.RowKit Go.Proofs.YtkjmjgiklelpiaaW.PrintWords Go.Proofs.Ytkjmjgiklelpiaa.Num Go.Proofs.Ytkjmjgiklelpiaa.WordC Go.Proofs.Ytkjmjgiklelpiaa.Arr Go.Proofs.Ytkjmjgiklelpiaa.App Go.Proofs.Ytkjmjgiklelpiaa.CiC Go.Proofs.Ytkjmjgiklelpiaa.CiD Go.Proofs.Ytkjmjgiklelpiaa.OtC Go.Proofs.Ytkjmjgiklelpiaa.OtR Go.Proofs.Ytkjmjgiklelpiaa.OtL Go.Proofs.Ytkjmjgiklelpiaa.OtM Go.Proofs.Ytkjmjgiklelpiaa.OtT Go.Proofs.Ytkjmjgiklelpiaa.OtV Go.Proofs.Ytkjmjgiklelpiaa.OtK Go.Proofs.Ytkjmjgiklelpiaa.OtN Go.Proofs.Ytkjmjgiklelpiaa.OtO Go.Proofs.Ytkjmjgiklelpiaa.OtP Go.Proofs.Ytkjmjgiklelpiaa.OtQ Go.Proofs.Ytkjmjgiklelpiaa.OtS Go.Proofs.Ytkjmjgiklelpiaa.OtU
set_option linter.unusedVariables false
set_option linter.unusedSimpArgs false

/-- A slice of slices of bytes that is read. -/
structure Pt (w : World) (A : Option Addr) (n c : Nat) (ll : List (List Int)) : Prop where
  cap : n ≤ c
  rows : Kd.C (Kd.slice 5 (Kd.int .u8)) w A n ll
theorem Pt.len {w : World} {A : Option Addr} {n c : Nat} {ll : List (List Int)} (h : Pt w A n c ll) : ll.length = n := Kd.C_len h.rows
theorem Pt.below {w w1 : World} {A : Option Addr} {n c : Nat} {ll : List (List Int)} (h : Pt w A n c ll) (hb : Below w.heap.size w w1) : Pt w1 A n c ll := ⟨h.cap, Kd.C_below h.rows hb⟩
theorem Pt.at_ {w : World} {A : Option Addr} {n c : Nat} {ll : List (List Int)} (h : Pt w A n c ll) (i : Nat) (hi : i < n) :
    ∃ ad Ai ci, A = some ad ∧ w.cell? (ad.add i) = some (.slice Ai (ll.getD i []).length ci) ∧ Rd w Ai (ll.getD i []).length ci (ll.getD i []) := by
  obtain ⟨ad, cs, e, hl, ⟨Ai, ci, rfl, hc, hC⟩, hcell⟩ := Kd.C_get h.rows [] (i : Int) (by omega) (by omega)
  simp only [Int.toNat_natCast] at hcell hC hc
  refine ⟨ad, Ai, ci, e, ?_, rfl, hc, hC⟩
  have := hcell 0 _ rfl
  have e1 : i * (Kd.slice 5 (Kd.int .u8)).sz + 0 = i := Nat.mul_one i
  rwa [e1] at this
end Go.Proofs.Ytkjmjgiklelpiaa.OtX
/- onetime: digits, the document's sum. -/
namespace Go.Proofs.Ytkjmjgiklelpiaa.OtD
open Go.RowKit Go.Proofs.YtkjmjgiklelpiaaW.PrintWords Go.Proofs.Ytkjmjgiklelpiaa.Num Go.Proofs.Ytkjmjgiklelpiaa.WordC Go.Proofs.Ytkjmjgiklelpiaa.Arr Go.Proofs.Ytkjmjgiklelpiaa.App Go.Proofs.Ytkjmjgiklelpiaa.CiC Go.Proofs.Ytkjmjgiklelpiaa.CiD Go.Proofs.Ytkjmjgiklelpiaa.OtC Go.Proofs.Ytkjmjgiklelpiaa.OtR Go.Proofs.Ytkjmjgiklelpiaa.OtL Go.Proofs.Ytkjmjgiklelpiaa.OtV Go.Proofs.Ytkjmjgiklelpiaa.OtN
set_option linter.unusedVariables false
set_option linter.unusedSimpArgs false

/-- The number of the first n digits to the base 256. -/
def dn (l : List Int) : Nat → Int
  | 0 => 0
  | n + 1 => dn l n + l.getD n 0 * 256 ^ n
theorem p256 (n : Nat) : (0 : Int) < 256 ^ n := Int.pow_pos (by decide)
theorem dn_congr {a b : List Int} {n : Nat} (h : ∀ i, i < n → a.getD i 0 = b.getD i 0) : dn a n = dn b n := by
  induction n with
  | zero => rfl
  | succ n ih => simp only [dn]; rw [ih (fun i hi => h i (by omega)), h n (by omega)]
theorem getD_over {l : List Int} {i : Nat} (h : l.length ≤ i) : l.getD i 0 = 0 := by rw [List.getD_eq_getElem?_getD, List.getElem?_eq_none h]; rfl
theorem dn_over {l : List Int} {n : Nat} (h : l.length ≤ n) : dn l n = dn l l.length := by
  induction n with
  | zero => rw [Nat.le_zero.1 h]
  | succ n ih =>
    by_cases hn : l.length = n + 1
    · rw [hn]
    · simp only [dn]; rw [getD_over (by omega), ih (by omega)]; omega
theorem dn_append {a b : List Int} {n : Nat} (h : n ≤ a.length) : dn (a ++ b) n = dn a n :=
  dn_congr fun i hi => by rw [List.getD_eq_getElem?_getD, List.getElem?_append_left (by omega), ← List.getD_eq_getElem?_getD]
theorem dn_snoc (a : List Int) (x : Int) : dn (a ++ [x]) (a.length + 1) = dn a a.length + x * 256 ^ a.length := by
  simp only [dn]
  rw [dn_append (Nat.le_refl _)]
  simp
theorem dn_range {l : List Int} (h : IsB l) (n : Nat) : 0 ≤ dn l n ∧ dn l n < 256 ^ n := by
  induction n with
  | zero => exact ⟨Int.le_refl _, by show (0 : Int) < _; decide⟩
  | succ n ih =>
    have hd := getD_isB h n
    have hp := p256 n
    simp only [dn]
    generalize l.getD n 0 = d at *
    have h1 : 0 ≤ d * 256 ^ n := Int.mul_nonneg hd.1 (Int.le_of_lt hp)
    have h2 : d * 256 ^ n ≤ 255 * 256 ^ n := Int.mul_le_mul_of_nonneg_right (by omega) (Int.le_of_lt hp)
    rw [Int.pow_succ]
    omega
/-- Digits are told by their number. -/
theorem dn_inj {a b : List Int} (ha : IsB a) (hb : IsB b) (n : Nat) (h : dn a n = dn b n) : ∀ i, i < n → a.getD i 0 = b.getD i 0 := by
  induction n with
  | zero => intro i hi; omega
  | succ n ih =>
    have h1 := dn_range ha n
    have h2 := dn_range hb n
    simp only [dn] at h
    have hp := p256 n
    have hd : a.getD n 0 = b.getD n 0 := by
      generalize a.getD n 0 = x at *
      generalize b.getD n 0 = y at *
      have e1 : (dn a n + x * 256 ^ n) / 256 ^ n = x := by rw [Int.add_mul_ediv_right _ _ (by omega), Int.ediv_eq_zero_of_lt h1.1 h1.2]; omega
      have e2 : (dn b n + y * 256 ^ n) / 256 ^ n = y := by rw [Int.add_mul_ediv_right _ _ (by omega), Int.ediv_eq_zero_of_lt h2.1 h2.2]; omega
      rw [← e1, ← e2, h]
    rw [hd] at h
    intro i hi
    by_cases hn : i = n
    · rw [hn]; exact hd
    · exact ih (by omega) i (by omega)
theorem dn_ext {a b : List Int} (ha : IsB a) (hb : IsB b) (hl : a.length = b.length) (h : dn a a.length = dn b b.length) : a = b := by
  apply List.ext_getElem hl
  intro i h1 h2
  have := dn_inj ha hb a.length (by rw [h, ← hl]) i h1
  simpa [List.getD_eq_getElem?_getD, List.getElem?_eq_getElem h1, List.getElem?_eq_getElem h2] using this
theorem dn_split (l : List Int) (m n : Nat) : dn l (m + n) = dn l m + dn (l.drop m) n * 256 ^ m := by
  induction n with
  | zero => simp [dn]
  | succ n ih =>
    rw [show m + (n + 1) = (m + n) + 1 from rfl]
    simp only [dn]
    rw [ih, show (l.drop m).getD n 0 = l.getD (m + n) 0 by rw [List.getD_eq_getElem?_getD, List.getElem?_drop, ← List.getD_eq_getElem?_getD], Int.add_mul, Int.mul_assoc, ← Int.pow_add, Nat.add_comm n m]
    omega
theorem dn_take (l : List Int) (m n : Nat) (h : n ≤ m) : dn (l.take m) n = dn l n :=
  dn_congr fun i hi => by rw [List.getD_eq_getElem?_getD, List.getElem?_take_of_lt (by omega), ← List.getD_eq_getElem?_getD]
/-- le: the program's word of bytes is the digits' number. -/
theorem le_dn (l : List Int) : le l = dn l l.length := by
  have h : ∀ (n : Nat) (l : List Int), l.length = n → le l = dn l n := by
    intro n
    induction n with
    | zero => intro l hl; rw [List.eq_nil_of_length_eq_zero hl]; rfl
    | succ n ih =>
      intro l hl
      match l with
      | [] => cases hl
      | x :: l =>
        have h1 : le (x :: l) = le l * 256 + x := by unfold le; rw [List.reverse_cons, be_snoc]
        have h2 := dn_split (x :: l) 1 n
        rw [Nat.add_comm] at h2
        rw [h1, h2, ih l (by simpa using hl)]
        simp [dn]
        omega
  exact h _ l rfl

theorem wrap64_id (x : Int) (h0 : -9223372036854775808 ≤ x) (h1 : x < 9223372036854775808) : wrap64 x = x := by unfold wrap64; omega
/-! ### the document's digits -/
theorem digits_l0 (b : List Int) (hb : IsB b) (hn : b.length < 17592186044416) : ∀ (k i : Nat), i ≤ b.length → b.length < k + i → OtRef.hypogeumref06_digits.l0 k b (b.take i) (i : Int) = some b := by
  intro k
  induction k with
  | zero => intro i h1 h2; omega
  | succ k ih =>
    intro i h1 h2
    unfold OtRef.hypogeumref06_digits.l0
    by_cases hi : i < b.length
    · have hd := getD_isB hb i
      have e : b.take i ++ [wrap64 (rd b (i : Int))] = b.take (i + 1) := by
        rw [wrap64_id _ (by unfold rd; rw [Int.toNat_natCast]; omega) (by unfold rd; rw [Int.toNat_natCast]; omega)]
        unfold rd
        rw [Int.toNat_natCast, List.getD_eq_getElem?_getD, List.getElem?_eq_getElem hi, Option.getD_some, List.take_append_getElem hi]
      rw [if_pos (by omega), if_pos (by omega), if_pos (by rw [List.length_take]; omega), e, wrap64_id _ (by omega) (by omega)]
      exact ih (i + 1) (by omega) (by omega)
    · rw [if_neg (by omega), List.take_of_length_le (by omega)]
theorem digits_eq (b : List Int) (hb : IsB b) (hn : b.length < 17592186044416) : OtRef.hypogeumref06_digits.f (b.length + 1) b = some b := digits_l0 b hb hn _ 0 (by omega) (by omega)
theorem at_eq (l : List Int) (i : Nat) : OtRef.hypogeumref06_at.f l (i : Int) = some (l.getD i 0) := by
  unfold OtRef.hypogeumref06_at.f
  by_cases h : i < l.length
  · rw [if_pos (by omega), if_pos (by omega)]; unfold rd; rw [Int.toNat_natCast]
  · rw [if_neg (by omega), getD_over (by omega)]
theorem mx_nat (a b : Nat) : mx (a : Int) (b : Int) = ((max a b : Nat) : Int) := by unfold mx; split <;> omega
theorem tdiv_pos (x : Int) (h : 0 ≤ x) : Int.tdiv x 256 = x / 256 ∧ Int.tmod x 256 = x % 256 := ⟨Int.tdiv_eq_ediv_of_nonneg h, Int.tmod_eq_emod_of_nonneg h⟩
theorem sum_l0 (a b : List Int) (ha : IsB a) (hb : IsB b) (hla : a.length < 1000000) (hlb : b.length < 1000000) : ∀ (k i : Nat) (out : List Int) (c : Int), i ≤ max a.length b.length + 1 → max a.length b.length + 1 < k + i → out.length = i → IsB out → 0 ≤ c ∧ c ≤ 1 → dn out i + c * 256 ^ i = dn a i + dn b i →
    ∃ s, OtRef.hypogeumref06_sum.l0 k a b out c (i : Int) = some s ∧ s.length = max a.length b.length + 1 ∧ IsB s ∧ dn s s.length = dn a a.length + dn b b.length := by
  intro k
  induction k with
  | zero => intro i out c h1 h2; omega
  | succ k ih =>
    intro i out c h1 h2 hl hO hc he
    unfold OtRef.hypogeumref06_sum.l0
    rw [mx_nat, wrap64_id _ (by omega) (by omega)]
    by_cases hi : i < max a.length b.length + 1
    · have hx := getD_isB ha i
      have hy := getD_isB hb i
      rw [if_pos (by omega), at_eq, Option.bind_some, at_eq, Option.bind_some, if_pos (by omega)]
      have hda : dn a (i + 1) = dn a i + a.getD i 0 * 256 ^ i := rfl
      have hdb : dn b (i + 1) = dn b i + b.getD i 0 * 256 ^ i := rfl
      generalize a.getD i 0 = x at *
      generalize b.getD i 0 = y at *
      rw [wrap64_id (x + y) (by omega) (by omega), wrap64_id (x + y + c) (by omega) (by omega), (tdiv_pos _ (by omega)).1, (tdiv_pos _ (by omega)).2, wrap64_id _ (by omega) (by omega), wrap64_id (i + 1 : Int) (by omega) (by omega)]
      refine ih (i + 1) (out ++ [(x + y + c) % 256]) ((x + y + c) / 256) (by omega) (by omega) (by simp [hl]) ?_ (by omega) ?_
      · intro z hz
        rcases List.mem_append.1 hz with hz | hz
        · exact hO z hz
        · rw [List.mem_singleton.1 hz]; omega
      · have h1 := dn_snoc out ((x + y + c) % 256)
        rw [hl] at h1
        rw [h1, hda, hdb, Int.pow_succ]
        have h3 : (x + y + c) = (x + y + c) % 256 + 256 * ((x + y + c) / 256) := by omega
        generalize (x + y + c) % 256 = q at *
        generalize (x + y + c) / 256 = p at *
        have h4 : x = q + 256 * p - y - c := by omega
        rw [h4]
        generalize (256 : Int) ^ i = B at *
        grind
    · rw [if_neg (by omega)]
      have hi' : i = max a.length b.length + 1 := by omega
      refine ⟨out, rfl, by omega, hO, ?_⟩
      have h1 := dn_over (l := a) (n := i) (by omega)
      have h2 := dn_over (l := b) (n := i) (by omega)
      rw [hl, ← h1, ← h2, ← he]
      have hia : dn a i < 256 ^ (i - 1) := by
        rw [h1, ← dn_over (l := a) (n := i - 1) (by omega)]; exact (dn_range ha _).2
      have hib : dn b i < 256 ^ (i - 1) := by
        rw [h2, ← dn_over (l := b) (n := i - 1) (by omega)]; exact (dn_range hb _).2
      have hp : (256 : Int) ^ i = 256 ^ (i - 1) * 256 := by rw [← Int.pow_succ]; congr 1; omega
      have h0 := (dn_range hO i).1
      have hq := p256 (i - 1)
      have : c = 0 := by
        rcases Int.lt_or_le c 1 with h | h
        · omega
        · have hc1 : c = 1 := by omega
          rw [hc1, hp] at he
          generalize (256 : Int) ^ (i - 1) = B at *
          omega
      rw [this]; omega
theorem sum_eq (a b : List Int) (ha : IsB a) (hb : IsB b) (hla : a.length < 1000000) (hlb : b.length < 1000000) : ∃ s, OtRef.hypogeumref06_sum.f (max a.length b.length + 2) a b = some s ∧ s.length = max a.length b.length + 1 ∧ IsB s ∧ dn s s.length = dn a a.length + dn b b.length :=
  sum_l0 a b ha hb hla hlb _ 0 [] 0 (by omega) (by omega) rfl (by intro x hx; cases hx) (by omega) rfl
end Go.Proofs.Ytkjmjgiklelpiaa.OtD
/- onetime: the document's product. -/
namespace Go.Proofs.Ytkjmjgiklelpiaa.OtE
open Go.RowKit Go.Proofs.YtkjmjgiklelpiaaW.PrintWords Go.Proofs.Ytkjmjgiklelpiaa.Num Go.Proofs.Ytkjmjgiklelpiaa.WordC Go.Proofs.Ytkjmjgiklelpiaa.Arr Go.Proofs.Ytkjmjgiklelpiaa.App Go.Proofs.Ytkjmjgiklelpiaa.CiC Go.Proofs.Ytkjmjgiklelpiaa.CiD Go.Proofs.Ytkjmjgiklelpiaa.OtC Go.Proofs.Ytkjmjgiklelpiaa.OtR Go.Proofs.Ytkjmjgiklelpiaa.OtL Go.Proofs.Ytkjmjgiklelpiaa.OtV Go.Proofs.Ytkjmjgiklelpiaa.OtN Go.Proofs.Ytkjmjgiklelpiaa.OtD
set_option linter.unusedVariables false
set_option linter.unusedSimpArgs false

theorem dn_set (l : List Int) (m : Nat) (x : Int) (n : Nat) (hm : m < l.length) : dn (l.set m x) n = if m < n then dn l n + (x - l.getD m 0) * 256 ^ m else dn l n := by
  induction n with
  | zero => rfl
  | succ n ih =>
    simp only [dn]
    rw [ih]
    by_cases h : m = n
    · subst h
      rw [if_neg (by omega), if_pos (by omega), List.getD_eq_getElem?_getD, List.getElem?_set_self hm, Option.getD_some]
      generalize (256 : Int) ^ m = B
      grind
    · have e : (l.set m x).getD n 0 = l.getD n 0 := by rw [List.getD_eq_getElem?_getD, List.getElem?_set_ne h, ← List.getD_eq_getElem?_getD]
      rw [e]
      by_cases h1 : m < n
      · rw [if_pos h1, if_pos (by omega)]; omega
      · rw [if_neg h1, if_neg (by omega)]
theorem mul_byte {x y : Int} (hx : 0 ≤ x ∧ x < 256) (hy : 0 ≤ y ∧ y < 256) : 0 ≤ x * y ∧ x * y ≤ 65025 := by
  constructor
  · exact Int.mul_nonneg hx.1 hy.1
  · have h1 : x * y ≤ x * 255 := Int.mul_le_mul_of_nonneg_left (by omega) hx.1
    omega
/-- One row of a product. -/
theorem product_l1 (a b : List Int) (ha : IsB a) (hb : IsB b) (hla : a.length < 1000000) (hlb : b.length < 1000000) (i : Nat) (hi : i < a.length) (o0 : List Int) (ho0 : IsB o0) (hlen : o0.length = a.length + b.length + 1) (hbd : dn o0 o0.length + a.getD i 0 * 256 ^ i * dn b b.length < 256 ^ o0.length) :
    ∀ (n j : Nat) (out : List Int) (c : Int) (K : Nat), out.length = o0.length → IsB out → i + j + n = out.length → 0 ≤ c ∧ c < 256 → dn out out.length + c * 256 ^ (i + j) = dn o0 o0.length + a.getD i 0 * 256 ^ i * dn b j →
      ∃ out', OtRef.hypogeumref06_product.l1 (K + n + 1) a b out (i : Int) c (j : Int) = OtRef.hypogeumref06_product.l0 K a b out' ((i + 1 : Nat) : Int) ∧ out'.length = o0.length ∧ IsB out' ∧ dn out' out'.length = dn o0 o0.length + a.getD i 0 * 256 ^ i * dn b b.length := by
  intro n
  induction n with
  | zero =>
    intro j out c K hl hO hn hc he
    refine ⟨out, ?_, hl, hO, ?_⟩
    · unfold OtRef.hypogeumref06_product.l1
      rw [wrap64_id (_ + _ : Int) (by omega) (by omega), if_neg (by omega), wrap64_id _ (by omega) (by omega)]
      rfl
    · have hj : dn b j = dn b b.length := dn_over (by omega)
      rw [hj] at he
      have h0 := (dn_range hO out.length).1
      have hp := p256 (i + j)
      rw [← he, ← hl, show out.length = i + j by omega] at hbd
      rw [show out.length = i + j by omega] at he h0 ⊢
      have : c = 0 := by
        rcases Int.lt_or_le c 1 with h | h
        · omega
        · have h1 : 1 * 256 ^ (i + j) ≤ c * 256 ^ (i + j) := Int.mul_le_mul_of_nonneg_right h (Int.le_of_lt hp)
          omega
      rw [this] at he
      omega
  | succ n ih =>
    intro j out c K hl hO hn hc he
    have hx := getD_isB hO (i + j)
    have hy := getD_isB ha i
    have hz := getD_isB hb j
    have hm := mul_byte hy hz
    unfold OtRef.hypogeumref06_product.l1
    rw [show ((i : Int) + (j : Int)) = ((i + j : Nat) : Int) by omega, wrap64_id _ (by omega) (by omega), if_pos (by omega), if_pos (by omega), if_pos (by omega), if_pos (by omega), at_eq, Option.bind_some]
    unfold rd
    rw [Int.toNat_natCast, Int.toNat_natCast]
    have hset := fun x => dn_set out (i + j) x out.length (by omega)
    have hdj : dn b (j + 1) = dn b j + b.getD j 0 * 256 ^ j := rfl
    generalize out.getD (i + j) 0 = x at *
    generalize hY : a.getD i 0 = y at *
    generalize b.getD j 0 = z at *
    rw [wrap64_id (y * z) (by omega) (by omega), wrap64_id (x + y * z) (by omega) (by omega), wrap64_id (x + y * z + c) (by omega) (by omega), (tdiv_pos _ (by omega)).1, (tdiv_pos _ (by omega)).2, wrap64_id _ (by omega) (by omega), wrap64_id (j + 1 : Int) (by omega) (by omega)]
    obtain ⟨out', h1, h2, h3, h4⟩ := ih (j + 1) (out.set (i + j) ((x + y * z + c) % 256)) ((x + y * z + c) / 256) K (by simpa using hl) (set_isB hO _ (by omega) (by omega)) (by rw [List.length_set]; omega) (by omega) (by
      rw [List.length_set, hset, if_pos (by omega), hdj, show i + (j + 1) = (i + j) + 1 from rfl, Int.pow_succ]
      have h3 : (x + y * z + c) = (x + y * z + c) % 256 + 256 * ((x + y * z + c) / 256) := by omega
      generalize (x + y * z + c) % 256 = q at *
      generalize (x + y * z + c) / 256 = p at *
      have hq : q = x + y * z + c - 256 * p := by omega
      rw [hq, Int.pow_add] at *
      generalize (256 : Int) ^ i = B at *
      generalize (256 : Int) ^ j = C at *
      generalize dn out out.length = D at *
      generalize dn b j = E at *
      generalize dn o0 o0.length = F at *
      grind)
    refine ⟨out', ?_, h2, h3, h4⟩
    rw [← h1]
    rfl
theorem product_l0 (a b : List Int) (ha : IsB a) (hb : IsB b) (hla : a.length < 1000000) (hlb : b.length < 1000000) :
    ∀ (n i : Nat) (out : List Int), i + n = a.length → out.length = a.length + b.length + 1 → IsB out → dn out out.length = dn a i * dn b b.length →
      ∃ s, OtRef.hypogeumref06_product.l0 (n * (a.length + b.length + 3) + 1) a b out (i : Int) = some s ∧ s.length = a.length + b.length + 1 ∧ IsB s ∧ dn s s.length = dn a a.length * dn b b.length := by
  intro n
  induction n with
  | zero =>
    intro i out hn hl hO he
    refine ⟨out, ?_, hl, hO, by rw [he, show i = a.length by omega]⟩
    unfold OtRef.hypogeumref06_product.l0
    rw [if_neg (by omega)]
  | succ n ih =>
    intro i out hn hl hO he
    have hda : dn a (i + 1) = dn a i + a.getD i 0 * 256 ^ i := rfl
    have hbd : dn out out.length + a.getD i 0 * 256 ^ i * dn b b.length < 256 ^ out.length := by
      rw [he, hl]
      have h1 := (dn_range ha (i + 1))
      have h2 := (dn_range hb b.length)
      have h3 : dn a i * dn b b.length + a.getD i 0 * 256 ^ i * dn b b.length = dn a (i + 1) * dn b b.length := by rw [hda, Int.add_mul]
      rw [h3]
      have h4 : dn a (i + 1) * dn b b.length ≤ 256 ^ (i + 1) * dn b b.length := Int.mul_le_mul_of_nonneg_right (by omega) h2.1
      have h5 : (256 : Int) ^ (i + 1) * dn b b.length < 256 ^ (i + 1) * 256 ^ b.length := Int.mul_lt_mul_of_pos_left h2.2 (p256 _)
      have h6 : (256 : Int) ^ (i + 1) * 256 ^ b.length ≤ 256 ^ (a.length + b.length + 1) := by
        rw [← Int.pow_add]
        have h7 := Nat.pow_le_pow_right (n := 256) (by omega) (show i + 1 + b.length ≤ a.length + b.length + 1 by omega)
        have h8 : (((256 : Nat) ^ (i + 1 + b.length) : Nat) : Int) ≤ (((256 : Nat) ^ (a.length + b.length + 1) : Nat) : Int) := Int.ofNat_le.2 h7
        rw [Int.natCast_pow, Int.natCast_pow] at h8
        exact h8
      omega
    obtain ⟨out', h1, h2, h3, h4⟩ := product_l1 a b ha hb hla hlb i (by omega) out hO hl hbd (a.length + b.length + 1 - i) 0 out 0 (n * (a.length + b.length + 3) + 1 + i) rfl hO (by omega) (by omega) (by show _ + 0 * _ = _ + _ * 0; omega)
    have h5 := ih (i + 1) out' (by omega) (by rw [h2, hl]) h3 (by rw [h4, he, hda, Int.add_mul])
    obtain ⟨s, h6, h7⟩ := h5
    refine ⟨s, ?_, h7⟩
    have hmono : OtRef.hypogeumref06_product.l0 (n * (a.length + b.length + 3) + 1 + i) a b out' ((i + 1 : Nat) : Int) = some s := by
      have hm : ∀ d, OtRef.hypogeumref06_product.l0 (n * (a.length + b.length + 3) + 1 + d) a b out' ((i + 1 : Nat) : Int) = some s := by
        intro d
        induction d with
        | zero => exact h6
        | succ d ihd => exact (OtRef.hypogeumref06_product.mono_l _).1 _ _ _ _ _ ihd
      exact hm i
    rw [show (n + 1) * (a.length + b.length + 3) + 1 = (n * (a.length + b.length + 3) + 1 + i + (a.length + b.length + 1 - i) + 1) + 1 by rw [Nat.succ_mul]; omega]
    unfold OtRef.hypogeumref06_product.l0
    rw [if_pos (by omega)]
    rw [← hmono, ← h1]
    rfl
theorem product_eq (a b : List Int) (ha : IsB a) (hb : IsB b) (hla : a.length < 1000000) (hlb : b.length < 1000000) : ∃ s, OtRef.hypogeumref06_product.f (a.length * (a.length + b.length + 3) + 1) a b = some s ∧ s.length = a.length + b.length + 1 ∧ IsB s ∧ dn s s.length = dn a a.length * dn b b.length := by
  have e : wrap64 (wrap64 ((a.length : Int) + (b.length : Int)) + 1) = ((a.length + b.length + 1 : Nat) : Int) := by rw [wrap64_id ((a.length : Int) + (b.length : Int)) (by omega) (by omega), wrap64_id _ (by omega) (by omega)]; omega
  unfold OtRef.hypogeumref06_product.f
  rw [e, if_pos (by omega), Int.toNat_natCast, if_pos (by omega)]
  have hz : ∀ n m, dn (List.replicate m 0) n = 0 := by
    intro n m
    induction n with
    | zero => rfl
    | succ n ih => simp only [dn]; rw [ih, List.getD_eq_getElem?_getD, List.getElem?_replicate]; split <;> simp
  exact product_l0 a b ha hb hla hlb a.length 0 _ (by omega) (by simp) (by intro x hx; rw [List.mem_replicate] at hx; rw [hx.2]; decide) (by rw [hz]; simp [dn])
end Go.Proofs.Ytkjmjgiklelpiaa.OtE
/- onetime: the document's fold and least. -/
namespace Go.Proofs.Ytkjmjgiklelpiaa.OtF
open Go.RowKit Go.Proofs.YtkjmjgiklelpiaaW.PrintWords Go.Proofs.Ytkjmjgiklelpiaa.Num Go.Proofs.Ytkjmjgiklelpiaa.WordC Go.Proofs.Ytkjmjgiklelpiaa.Arr Go.Proofs.Ytkjmjgiklelpiaa.App Go.Proofs.Ytkjmjgiklelpiaa.CiC Go.Proofs.Ytkjmjgiklelpiaa.CiD Go.Proofs.Ytkjmjgiklelpiaa.OtC Go.Proofs.Ytkjmjgiklelpiaa.OtR Go.Proofs.Ytkjmjgiklelpiaa.OtL Go.Proofs.Ytkjmjgiklelpiaa.OtV Go.Proofs.Ytkjmjgiklelpiaa.OtN Go.Proofs.Ytkjmjgiklelpiaa.OtD Go.Proofs.Ytkjmjgiklelpiaa.OtE
set_option linter.unusedVariables false
set_option linter.unusedSimpArgs false

/-- With fuel enough. -/
def Evn {α : Type} (f : Nat → Option α) (r : α) : Prop := ∃ k, f k = some r
theorem lift {α : Type} {f : Nat → Option α} {r : α} {k : Nat} (hm : ∀ k, LeO (f k) (f (k + 1))) (h : f k = some r) (n : Nat) (hn : k ≤ n) : f n = some r := by
  obtain ⟨d, rfl⟩ := Nat.exists_eq_add_of_le hn
  clear hn
  induction d with
  | zero => exact h
  | succ d ih => exact hm _ _ ih
def lowT (a : List Int) : Nat → List Int
  | 0 => []
  | n + 1 => lowT a n ++ [a.getD n 0]
def lowS (a : List Int) : List Int := (lowT a 17).set 16 (a.getD 16 0 % 4)
def highT (a : List Int) : Nat → List Int
  | 0 => []
  | n + 1 => highT a n ++ [a.getD (16 + n) 0 / 4 + a.getD (16 + n + 1) 0 % 4 * 64]
theorem lowT_length (a : List Int) (n : Nat) : (lowT a n).length = n := by
  induction n with
  | zero => rfl
  | succ n ih => simp [lowT, ih]
theorem highT_length (a : List Int) (n : Nat) : (highT a n).length = n := by
  induction n with
  | zero => rfl
  | succ n ih => simp [highT, ih]
theorem snoc_isB {l : List Int} (h : IsB l) {x : Int} (h0 : 0 ≤ x) (h1 : x < 256) : IsB (l ++ [x]) := by
  intro z hz
  rcases List.mem_append.1 hz with hz | hz
  · exact h z hz
  · rw [List.mem_singleton.1 hz]; exact ⟨h0, h1⟩
theorem lowT_isB {a : List Int} (h : IsB a) (n : Nat) : IsB (lowT a n) := by
  induction n with
  | zero => intro x hx; cases hx
  | succ n ih => exact snoc_isB ih (getD_isB h n).1 (getD_isB h n).2
theorem highT_isB {a : List Int} (h : IsB a) (n : Nat) : IsB (highT a n) := by
  induction n with
  | zero => intro x hx; cases hx
  | succ n ih =>
    have h1 := getD_isB h (16 + n)
    have h2 := getD_isB h (16 + n + 1)
    exact snoc_isB ih (by omega) (by omega)
theorem lowT_dn (a : List Int) (n : Nat) : dn (lowT a n) n = dn a n := by
  induction n with
  | zero => rfl
  | succ n ih =>
    have h1 := dn_snoc (lowT a n) (a.getD n 0)
    rw [lowT_length] at h1
    simp only [lowT]
    rw [h1, ih]
    rfl
theorem lowS_dn (a : List Int) : dn (lowS a) 17 = dn a 16 + a.getD 16 0 % 4 * 256 ^ 16 := by
  unfold lowS
  rw [dn_set _ _ _ _ (by rw [lowT_length]; omega), if_pos (by omega), lowT_dn]
  have h1 : (lowT a 17).getD 16 0 = a.getD 16 0 := by
    show (lowT a 16 ++ [a.getD 16 0]).getD 16 0 = _
    rw [List.getD_eq_getElem?_getD, List.getElem?_append_right (by rw [lowT_length]; omega), lowT_length]
    rfl
  rw [h1]
  simp only [dn]
  generalize (256 : Int) ^ 16 = B
  grind
theorem highT_dn (a : List Int) (n : Nat) : dn a 16 + a.getD 16 0 % 4 * 256 ^ 16 + 1361129467683753853853498429727072845824 * dn (highT a n) n = dn a (16 + n) + a.getD (16 + n) 0 % 4 * 256 ^ (16 + n) := by
  induction n with
  | zero => simp [dn, highT]
  | succ n ih =>
    have h1 := dn_snoc (highT a n) (a.getD (16 + n) 0 / 4 + a.getD (16 + n + 1) 0 % 4 * 64)
    rw [highT_length] at h1
    simp only [highT]
    rw [h1, show 16 + (n + 1) = 16 + n + 1 from rfl, show dn a (16 + n + 1) = dn a (16 + n) + a.getD (16 + n) 0 * 256 ^ (16 + n) from rfl]
    generalize a.getD (16 + n + 1) 0 = y at *
    generalize a.getD (16 + n) 0 = x at *
    have e : (256 : Int) ^ (16 + n + 1) = 256 ^ (16 + n) * 256 := Int.pow_succ _ _
    have e2 : (256 : Int) ^ (16 + n) = 340282366920938463463374607431768211456 * 256 ^ n := by rw [Int.pow_add]; rfl
    rw [e, e2]
    rw [e2] at ih
    rw [Int.mul_add, ← Int.add_assoc, ih]
    generalize dn a (16 + n) = D at *
    generalize (256 : Int) ^ n = B at *
    have hx : x = 4 * (x / 4) + x % 4 := by omega
    generalize y % 4 = z at *
    generalize x / 4 = p at *
    generalize x % 4 = q at *
    grind
/-- A number parted above 2^130. -/
theorem part_dn (a : List Int) : dn a a.length = dn (lowS a) 17 + 1361129467683753853853498429727072845824 * dn (highT a (a.length - 16)) (a.length - 16) := by
  rw [lowS_dn]
  by_cases h : 16 ≤ a.length
  · rw [highT_dn, show 16 + (a.length - 16) = a.length by omega, getD_over (Nat.le_refl _)]; omega
  · have h1 := dn_over (l := a) (n := 16) (by omega)
    rw [show a.length - 16 = 0 by omega, h1, getD_over (by omega)]
    simp [dn]
theorem lowS_isB {a : List Int} (h : IsB a) : IsB (lowS a) := set_isB (lowT_isB h 17) _ (by omega) (by omega)
theorem lowS_length (a : List Int) : (lowS a).length = 17 := by simp [lowS, lowT_length]
theorem lowS_range {a : List Int} (h : IsB a) : 0 ≤ dn (lowS a) 17 ∧ dn (lowS a) 17 < 1361129467683753853853498429727072845824 := by
  have h1 := dn_range h 16
  rw [lowS_dn, show (256 : Int) ^ 16 = 340282366920938463463374607431768211456 from rfl] at *
  omega
theorem fold_l2 (a low : List Int) (ha : IsB a) (hla : a.length < 1000) (n : Int) (s t r : List Int) (hp : Evn (fun k => OtRef.hypogeumref06_product.f k (highT a (a.length - 16)) [5]) t) (hs : Evn (fun k => OtRef.hypogeumref06_sum.f k low t) s) (hr : Evn (fun k => OtRef.hypogeumref06_fold.l0 k s (wrap64 (n + 1))) r) :
    ∀ m i, i + m = a.length - 16 → Evn (fun k => OtRef.hypogeumref06_fold.l2 k a n low (highT a i) ((16 + i : Nat) : Int)) r := by
  intro m
  induction m with
  | zero =>
    intro i hi
    obtain ⟨k1, h1⟩ := hp
    obtain ⟨k2, h2⟩ := hs
    obtain ⟨k3, h3⟩ := hr
    refine ⟨k1 + k2 + k3 + 1, ?_⟩
    have e1 := lift (f := fun k => OtRef.hypogeumref06_product.f k (highT a (a.length - 16)) [5]) (OtRef.hypogeumref06_product.mono _ _) h1 (k1 + k2 + k3) (by omega)
    have e2 := lift (f := fun k => OtRef.hypogeumref06_sum.f k low t) (OtRef.hypogeumref06_sum.mono _ _) h2 (k1 + k2 + k3) (by omega)
    have e3 := lift (f := fun k => OtRef.hypogeumref06_fold.l0 k s (wrap64 (n + 1))) (fun k => (OtRef.hypogeumref06_fold.mono_l k).1 _ _) h3 (k1 + k2 + k3) (by omega)
    show OtRef.hypogeumref06_fold.l2 (k1 + k2 + k3 + 1) a n low (highT a i) ((16 + i : Nat) : Int) = some r
    unfold OtRef.hypogeumref06_fold.l2
    rw [if_neg (by omega), show i = a.length - 16 by omega, e1, Option.bind_some, e2, Option.bind_some, e3]
  | succ m ih =>
    intro i hi
    obtain ⟨k, h⟩ := ih (i + 1) (by omega)
    refine ⟨k + 1, ?_⟩
    show OtRef.hypogeumref06_fold.l2 (k + 1) a n low (highT a i) ((16 + i : Nat) : Int) = some r
    unfold OtRef.hypogeumref06_fold.l2
    have h1 := getD_isB ha (16 + i)
    have h2 := getD_isB ha (16 + i + 1)
    rw [if_pos (by omega), at_eq, Option.bind_some, wrap64_id (_ + 1 : Int) (by omega) (by omega), show (((16 + i : Nat) : Int) + 1) = ((16 + i + 1 : Nat) : Int) by omega, at_eq, Option.bind_some, if_pos (by rw [highT_length]; omega)]
    have e : Int.tdiv (a.getD (16 + i) 0) 4 = a.getD (16 + i) 0 / 4 := Int.tdiv_eq_ediv_of_nonneg h1.1
    have e2 : Int.tmod (a.getD (16 + i + 1) 0) 4 = a.getD (16 + i + 1) 0 % 4 := Int.tmod_eq_emod_of_nonneg h2.1
    rw [e, e2, wrap64_id (_ / 4) (by omega) (by omega), wrap64_id (_ % 4 * 64) (by omega) (by omega), wrap64_id _ (by omega) (by omega)]
    exact h
theorem fold_l1 (a : List Int) (ha : IsB a) (n : Int) (r : List Int) (h2 : Evn (fun k => OtRef.hypogeumref06_fold.l2 k a n (lowS a) [] 16) r) :
    ∀ m i, i + m = 17 → Evn (fun k => OtRef.hypogeumref06_fold.l1 k a n (lowT a i) (i : Int)) r := by
  intro m
  induction m with
  | zero =>
    intro i hi
    obtain ⟨k, h⟩ := h2
    obtain rfl : i = 17 := by omega
    refine ⟨k + 1, ?_⟩
    show OtRef.hypogeumref06_fold.l1 (k + 1) a n (lowT a 17) ((17 : Nat) : Int) = some r
    unfold OtRef.hypogeumref06_fold.l1
    have e : (lowT a 17).set (16 : Int).toNat (Int.tmod (rd (lowT a 17) 16) 4) = lowS a := by
      unfold lowS
      have h1 := getD_isB ha 16
      have h3 : rd (lowT a 17) 16 = a.getD 16 0 := by
        show (lowT a 16 ++ [a.getD 16 0]).getD 16 0 = _
        rw [List.getD_eq_getElem?_getD, List.getElem?_append_right (by rw [lowT_length]; omega), lowT_length]
        rfl
      rw [h3, Int.tmod_eq_emod_of_nonneg h1.1]
      rfl
    rw [if_neg (by omega), if_pos (by rw [lowT_length]; omega), e]
    exact h
  | succ m ih =>
    intro i hi
    obtain ⟨k, h⟩ := ih (i + 1) (by omega)
    refine ⟨k + 1, ?_⟩
    show OtRef.hypogeumref06_fold.l1 (k + 1) a n (lowT a i) (i : Int) = some r
    unfold OtRef.hypogeumref06_fold.l1
    rw [if_pos (by omega), at_eq, Option.bind_some, if_pos (by rw [lowT_length]; omega), wrap64_id (_ + 1 : Int) (by omega) (by omega)]
    exact h
theorem five_isB : IsB [5] := by intro x hx; rw [List.mem_singleton.1 hx]; decide
theorem fold_round (a : List Int) (ha : IsB a) (hla : a.length < 1000) (n : Nat) (hn : n < 3) : ∃ s h, s.length = max 17 (a.length - 16 + 2) + 1 ∧ IsB s ∧ dn a a.length = dn (lowS a) 17 + 1361129467683753853853498429727072845824 * h ∧ 0 ≤ h ∧ dn s s.length = dn (lowS a) 17 + 5 * h ∧
    ∀ r, Evn (fun k => OtRef.hypogeumref06_fold.l0 k s ((n + 1 : Nat) : Int)) r → Evn (fun k => OtRef.hypogeumref06_fold.l0 k a (n : Int)) r := by
  obtain ⟨t, h1, h2, h3, h4⟩ := product_eq (highT a (a.length - 16)) [5] (highT_isB ha _) five_isB (by rw [highT_length]; omega) (by decide)
  obtain ⟨s, g1, g2, g3, g4⟩ := sum_eq (lowS a) t (lowS_isB ha) h3 (by rw [lowS_length]; omega) (by rw [h2, highT_length]; simp; omega)
  rw [lowS_length, h2, highT_length] at g2
  refine ⟨s, dn (highT a (a.length - 16)) (a.length - 16), by simpa [Nat.add_assoc] using g2, g3, part_dn a, (dn_range (highT_isB ha _) _).1, ?_, ?_⟩
  · rw [g4, h4, lowS_length, highT_length]
    simp [dn]
    omega
  · intro r hr
    have e2 := fold_l2 a (lowS a) ha hla (n : Int) s t r ⟨_, h1⟩ ⟨_, g1⟩ (by rw [wrap64_id _ (by omega) (by omega)]; exact hr) (a.length - 16) 0 (by omega)
    obtain ⟨k, hk⟩ := fold_l1 a ha (n : Int) r e2 17 0 (by omega)
    refine ⟨k + 1, ?_⟩
    show OtRef.hypogeumref06_fold.l0 (k + 1) a (n : Int) = some r
    unfold OtRef.hypogeumref06_fold.l0
    rw [if_pos (by omega)]
    exact hk
theorem fold_eq (a : List Int) (ha : IsB a) (hla : a.length ≤ 45) (hb : dn a a.length < 926336713898529563388567880069503262826159877325124512315660672063305037119488) : ∃ s, Evn (fun k => OtRef.hypogeumref06_fold.f k a) s ∧ s.length = 18 ∧ IsB s ∧ dn s s.length < 1361129467683753853853498429727072845824 ∧ dn s s.length % P130 = dn a a.length % P130 := by
  obtain ⟨s1, h1, l1, b1, v1, n1, e1, r1⟩ := fold_round a ha (by omega) 0 (by omega)
  obtain ⟨s2, h2, l2, b2, v2, n2, e2, r2⟩ := fold_round s1 b1 (by omega) 1 (by omega)
  obtain ⟨s3, h3, l3, b3, v3, n3, e3, r3⟩ := fold_round s2 b2 (by omega) 2 (by omega)
  have w1 := lowS_range ha
  have w2 := lowS_range b1
  have w3 := lowS_range b2
  refine ⟨s3, r1 _ (r2 _ (r3 _ ⟨1, rfl⟩)), by omega, b3, ?_, ?_⟩
  · rw [e3]
    clear r1 r2 r3 l1 l2 l3
    omega
  · rw [e3, v1]
    unfold P130
    clear r1 r2 r3 l1 l2 l3
    omega
theorem less_l1 (a : List Int) (ha : IsB a) : ∀ n i : Nat, i + n = 16 → 1 ≤ i → (∀ j, 1 ≤ j → j < i → a.getD j 0 = 255) → Evn (fun k => OtRef.hypogeumref06_less.l1 k a (i : Int)) (decide (dn a 16 < 340282366920938463463374607431768211451)) := by
  have g := getD_isB ha
  intro n
  induction n with
  | zero =>
    intro i hi h1 hall
    obtain rfl : i = 16 := by omega
    refine ⟨1, ?_⟩
    show OtRef.hypogeumref06_less.l1 1 a ((16 : Nat) : Int) = _
    unfold OtRef.hypogeumref06_less.l1
    rw [if_neg (by omega), show (0 : Int) = ((0 : Nat) : Int) from rfl, at_eq, Option.bind_some]
    congr 1
    have e : dn a 16 = a.getD 0 0 + 340282366920938463463374607431768211200 := by
      simp only [dn]
      rw [hall 1 (by omega) (by omega), hall 2 (by omega) (by omega), hall 3 (by omega) (by omega), hall 4 (by omega) (by omega), hall 5 (by omega) (by omega), hall 6 (by omega) (by omega), hall 7 (by omega) (by omega), hall 8 (by omega) (by omega), hall 9 (by omega) (by omega), hall 10 (by omega) (by omega), hall 11 (by omega) (by omega), hall 12 (by omega) (by omega), hall 13 (by omega) (by omega), hall 14 (by omega) (by omega), hall 15 (by omega) (by omega)]
      omega
    rw [e]
    exact decide_eq_decide.2 (by omega)
  | succ n ih =>
    intro i hi h1 hall
    by_cases hd : a.getD i 0 < 255
    · refine ⟨1, ?_⟩
      show OtRef.hypogeumref06_less.l1 1 a (i : Int) = _
      unfold OtRef.hypogeumref06_less.l1
      rw [if_pos (by omega), at_eq, Option.bind_some, if_pos hd]
      congr 1
      symm
      rw [decide_eq_true_iff]
      have e1 := dn_split a i (16 - i)
      rw [show i + (16 - i) = 16 by omega] at e1
      have e2 := dn_split (a.drop i) 1 (15 - i)
      rw [show 1 + (15 - i) = 16 - i by omega] at e2
      have hI : IsB ((a.drop i).drop 1) := fun x hx => ha x (List.mem_of_mem_drop (List.mem_of_mem_drop hx))
      have r1 := dn_range ha i
      have r2 := dn_range hI (15 - i)
      have e3 : dn (a.drop i) 1 = a.getD i 0 := by
        simp only [dn]
        rw [List.getD_eq_getElem?_getD, List.getElem?_drop, Nat.add_zero, ← List.getD_eq_getElem?_getD]; omega
      rw [e3] at e2
      rw [e1, e2]
      generalize a.getD i 0 = d at *
      generalize dn ((a.drop i).drop 1) (15 - i) = u at *
      generalize dn a i = v at *
      have e4 : (256 : Int) ^ (15 - i) * 256 ^ (i + 1) = 340282366920938463463374607431768211456 := by rw [← Int.pow_add, show 15 - i + (i + 1) = 16 by omega]; rfl
      have e5 : (256 : Int) ^ (i + 1) = 256 ^ i * 256 := Int.pow_succ _ _
      have e6 : (256 : Int) ≤ 256 ^ i := by
        have := Nat.pow_le_pow_right (n := 256) (by omega) h1
        rw [Nat.pow_one] at this
        have h8 : (((256 : Nat)) : Int) ≤ (((256 : Nat) ^ i : Nat) : Int) := Int.ofNat_le.2 this
        rw [Int.natCast_pow] at h8
        exact h8
      rw [e5] at e4
      generalize (256 : Int) ^ i = B at *
      generalize (256 : Int) ^ (15 - i) = C at *
      rw [Int.pow_one]
      have h3 : d + u * 256 ≤ 254 + (C - 1) * 256 := by omega
      have h4 : (d + u * 256) * B ≤ (254 + (C - 1) * 256) * B := Int.mul_le_mul_of_nonneg_right h3 (by omega)
      have h5 : (254 + (C - 1) * 256) * B = C * (B * 256) - 2 * B := by grind
      rw [h5, e4] at h4
      omega
    · have hd' : a.getD i 0 = 255 := by have := g i; omega
      obtain ⟨k, h⟩ := ih (i + 1) (by omega) (by omega) (fun j h2 h3 => by
        by_cases hj : j = i
        · rw [hj]; exact hd'
        · exact hall j h2 (by omega))
      refine ⟨k + 1, ?_⟩
      show OtRef.hypogeumref06_less.l1 (k + 1) a (i : Int) = _
      unfold OtRef.hypogeumref06_less.l1
      rw [if_pos (by omega), at_eq, Option.bind_some, if_neg hd, wrap64_id _ (by omega) (by omega)]
      exact h
theorem less_eq (a : List Int) (ha : IsB a) (hl : a.length = 18) (hb : dn a a.length < 1361129467683753853853498429727072845824) : Evn (fun k => OtRef.hypogeumref06_less.f k a) (decide (dn a a.length < P130)) := by
  obtain ⟨k, h⟩ := less_l1 a ha 15 1 (by omega) (by omega) (fun j h1 h2 => by omega)
  have g16 := getD_isB ha 16
  have g17 := getD_isB ha 17
  have r16 := dn_range ha 16
  have e : dn a a.length = dn a 16 + a.getD 16 0 * 340282366920938463463374607431768211456 + a.getD 17 0 * 87112285931760246646623899502532662132736 := by rw [hl]; rfl
  rw [show (256 : Int) ^ 16 = 340282366920938463463374607431768211456 from rfl] at r16
  rw [e] at hb ⊢
  have h17 : a.getD 17 0 = 0 := by omega
  refine ⟨k + 2, ?_⟩
  show OtRef.hypogeumref06_less.l0 (k + 1 + 1) a 17 = _
  unfold OtRef.hypogeumref06_less.l0
  rw [if_pos (by omega), if_pos (by omega), if_neg (by unfold rd; rw [show (17 : Int).toNat = 17 from rfl, h17]; omega), wrap64_id _ (by omega) (by omega)]
  unfold OtRef.hypogeumref06_less.l0
  rw [if_neg (by omega), show (16 : Int) = ((16 : Nat) : Int) from rfl, at_eq, Option.bind_some]
  by_cases h3 : a.getD 16 0 = 3
  · rw [if_pos h3]
    refine (show OtRef.hypogeumref06_less.l1 k a 1 = _ from h).trans ?_
    congr 1
    rw [h3, h17]
    unfold P130
    exact decide_eq_decide.2 (by omega)
  · rw [if_neg h3, Option.bind_some]
    congr 1
    rw [h17]
    unfold P130
    exact decide_eq_decide.2 (by omega)
/-- The least: what the document's 'least' gives. -/
theorem least_eq (a : List Int) (ha : IsB a) (hl : a.length = 18) (hb : dn a a.length < 1361129467683753853853498429727072845824) :
    Evn (fun k => OtRef.hypogeumref06_less.f k a) true ∧ dn a a.length = dn a a.length % P130 ∨
    Evn (fun k => OtRef.hypogeumref06_less.f k a) false ∧ ∃ s, Evn (fun k => OtRef.hypogeumref06_sum.f k a [5]) s ∧ s.length = 19 ∧ IsB s ∧ IsB ((s.set 16 (s.getD 16 0 % 4)).take 17) ∧ dn ((s.set 16 (s.getD 16 0 % 4)).take 17) 17 = dn a a.length % P130 := by
  have h := less_eq a ha hl hb
  have h0 := (dn_range ha a.length).1
  by_cases hp : dn a a.length < P130
  · rw [decide_eq_true hp] at h
    exact .inl ⟨h, (Int.emod_eq_of_lt h0 hp).symm⟩
  · rw [decide_eq_false hp] at h
    refine .inr ⟨h, ?_⟩
    obtain ⟨s, g1, g2, g3, g4⟩ := sum_eq a [5] ha five_isB (by omega) (by decide)
    have hs : IsB (s.set 16 (s.getD 16 0 % 4)) := set_isB g3 _ (by omega) (by omega)
    refine ⟨s, ⟨_, g1⟩, by rw [g2, hl]; rfl, g3, fun x hx => hs x (List.mem_of_mem_take hx), ?_⟩
    rw [dn_take _ _ _ (Nat.le_refl _), dn_set _ _ _ _ (by rw [g2, hl]; decide), if_pos (by omega)]
    have e1 := part_dn s
    have r1 := lowS_range g3
    have r2 := (dn_range (highT_isB g3 (s.length - 16)) (s.length - 16)).1
    rw [lowS_dn] at e1 r1
    have e2 : dn s 17 = dn s 16 + s.getD 16 0 * 256 ^ 16 := rfl
    rw [e2]
    have e3 : dn s s.length = dn a a.length + 5 := by rw [g4]; simp [dn]
    rw [e3] at e1
    rw [show (256 : Int) ^ 16 = 340282366920938463463374607431768211456 from rfl] at *
    unfold P130 at *
    omega
end Go.Proofs.Ytkjmjgiklelpiaa.OtF
/- onetime: the document's tag, walked. -/
namespace Go.Proofs.Ytkjmjgiklelpiaa.OtG
open Go.RowKit Go.Proofs.YtkjmjgiklelpiaaW.PrintWords Go.Proofs.Ytkjmjgiklelpiaa.Num Go.Proofs.Ytkjmjgiklelpiaa.WordC Go.Proofs.Ytkjmjgiklelpiaa.Arr Go.Proofs.Ytkjmjgiklelpiaa.App Go.Proofs.Ytkjmjgiklelpiaa.CiC Go.Proofs.Ytkjmjgiklelpiaa.CiD Go.Proofs.Ytkjmjgiklelpiaa.OtC Go.Proofs.Ytkjmjgiklelpiaa.OtR Go.Proofs.Ytkjmjgiklelpiaa.OtL Go.Proofs.Ytkjmjgiklelpiaa.OtV Go.Proofs.Ytkjmjgiklelpiaa.OtN Go.Proofs.Ytkjmjgiklelpiaa.OtD Go.Proofs.Ytkjmjgiklelpiaa.OtE Go.Proofs.Ytkjmjgiklelpiaa.OtF
set_option linter.unusedVariables false
set_option linter.unusedSimpArgs false

/-- Whole numbers of one's own; those that are read. -/
abbrev OwI (w : World) (base : Nat) (v : Value) (l : List Int) : Prop := Kd.R (Kd.int .i64) 3 w base (fun _ => True) v l
/-- A slice of whole numbers that is read. -/
def RdI (w : World) (v : Value) (l : List Int) : Prop := ∃ A c, v = .slice A l.length c ∧ l.length ≤ c ∧ Kd.C (Kd.int .i64) w A l.length l
theorem RdI.of_ow {w : World} {base : Nat} {v : Value} {l : List Int} (h : OwI w base v l) : RdI w v l := by
  obtain ⟨A, c, rfl⟩ := Kd.R_slice h
  have := Kd.R_reads' h
  exact ⟨A, c, rfl, this.2.1, this.2.2⟩
theorem RdI.below {w w1 : World} {v : Value} {l : List Int} (h : RdI w v l) (hb : Below w.heap.size w w1) : RdI w1 v l := by
  obtain ⟨A, c, rfl, hc, hC⟩ := h
  exact ⟨A, c, rfl, hc, Kd.C_below hC hb⟩
theorem RdI.nil (w : World) : RdI w (.slice none 0 0) [] := RdI.of_ow (base := 0) (Kd.R_nil _ _ _ _ _)
theorem infoI : (Try.prog.info? 3).map (fun i => (i.zero, i.size, i.bytes)) = some (some (.int .i64 0), 1, 8) := by kernel_rfl
theorem owI_lit (W : World) (base : Nat) (xs : List Int) (hb : base ≤ W.heap.size) (hm : xs.length ≤ 100) : OwI (W.alloc (.cells (nums .i64 xs).toArray 3)) base (.slice (some ⟨W.heap.size, 0, none⟩) xs.length xs.length) xs :=
  Kd.R_of_own (own_lit W base 3 .i64 xs hb (by omega)) (fun _ _ => trivial)
theorem one_I (w : World) (n : Int) : Kd.C (Kd.int .i64) (w.alloc (.cells (nums .i64 [n]).toArray 3)) (some ⟨w.heap.size, 0, none⟩) 1 [n] := (Kd.R_reads' (owI_lit w 0 [n] (Nat.zero_le _) (by simp))).2.2
theorem sum_c {u v : Value} {a b s : List Int} {w : World} (ha : RdI w u a) (hb : RdI w v b) (h : Evn (fun k => OtRef.hypogeumref06_sum.f k a b) s) :
    Calls Try.prog 51 #[u, v] w fun e w' => ∃ v', e = .returned v' ∧ OwI w' w.heap.size v' s ∧ Below w.heap.size w w' := by
  obtain ⟨A, c, rfl, hc, hC⟩ := ha
  obtain ⟨A1, c1, rfl, hc1, hC1⟩ := hb
  obtain ⟨k, hk⟩ := h
  exact OtRef.hypogeumref06_sum.calls k A c a A1 c1 b s w hC hc hC1 hc1 hk
theorem product_c {u v : Value} {a b s : List Int} {w : World} (ha : RdI w u a) (hb : RdI w v b) (h : Evn (fun k => OtRef.hypogeumref06_product.f k a b) s) :
    Calls Try.prog 50 #[u, v] w fun e w' => ∃ v', e = .returned v' ∧ OwI w' w.heap.size v' s ∧ Below w.heap.size w w' := by
  obtain ⟨A, c, rfl, hc, hC⟩ := ha
  obtain ⟨A1, c1, rfl, hc1, hC1⟩ := hb
  obtain ⟨k, hk⟩ := h
  exact OtRef.hypogeumref06_product.calls k A c a A1 c1 b s w hC hc hC1 hc1 hk
theorem fold_c {v : Value} {base : Nat} {a s : List Int} {w : World} (ha : OwI w base v a) (h : Evn (fun k => OtRef.hypogeumref06_fold.f k a) s) :
    Calls Try.prog 49 #[v] w fun e w' => ∃ v', e = .returned v' ∧ RdI w' v' s ∧ Below w.heap.size w w' := by
  obtain ⟨A, c, rfl⟩ := Kd.R_slice ha
  obtain ⟨k, hk⟩ := h
  refine (OtRef.hypogeumref06_fold.calls k (fun _ => True) A c a s w (Kd.R_V ha) hk).mono ?_
  rintro e w' ⟨v, rfl, hv, hB⟩
  obtain ⟨A', c', rfl⟩ := Kd.V_slice hv
  have h3 := Kd.V_reads' hv
  exact ⟨_, rfl, ⟨A', c', rfl, h3.2.1, h3.2.2⟩, hB⟩
theorem less_c {v : Value} {a : List Int} {r : Bool} {w : World} (ha : RdI w v a) (h : Evn (fun k => OtRef.hypogeumref06_less.f k a) r) :
    Calls Try.prog 69 #[v] w fun e w' => e = .returned (.bool r) ∧ Below w.heap.size w w' := by
  obtain ⟨A, c, rfl, hc, hC⟩ := ha
  obtain ⟨k, hk⟩ := h
  refine (OtRef.hypogeumref06_less.calls k A c a r w hC hc hk).mono ?_
  rintro e w' ⟨rfl, ⟨n, rfl⟩⟩
  exact ⟨rfl, pw_below_drewN (Below.refl _ _) _⟩
theorem cutI (A : Option Addr) (n c k : Nat) (hk : k ≤ n) (hc : n ≤ c) {x : Int} (hx : x = k := by rfl) : ∀ W : World, (Instr.slice 73 (.slice A n c) none (some (.int .i64 x)) none).run Try.prog W = .ok (.slice A k c) W := by
  subst hx
  obtain ⟨i0, hi0, hz0⟩ := Option.map_eq_some_iff.1 infoI
  simp only [Prod.mk.injEq] at hz0
  have h := (print_take_int (P := Try.prog) (k := .i64) 73 3 Try.underlying73 hi0 hz0.2.1 A c (List.replicate n 0) (k : Int) (by omega) (by rw [List.length_replicate]; omega) (by rw [List.length_replicate]; exact hc)).1
  simpa [Nat.min_eq_left hk] using h
set_option maxHeartbeats 8000000 in
set_option maxRecDepth 100000 in
theorem least_c48 {v : Value} {a : List Int} {w : World} (ha : RdI w v a) (hb : IsB a) (hl : a.length = 18) (hv : dn a a.length < 1361129467683753853853498429727072845824) :
    Calls Try.prog 48 #[v] w fun e w' => ∃ v' l, e = .returned v' ∧ RdI w' v' l ∧ IsB l ∧ l.length ≤ 18 ∧ dn l l.length = dn a a.length % P130 ∧ Below w.heap.size w w' := by
  have HA := Aside0.mk ha
  have HB := Aside0.mk hb
  have HV := Aside0.mk hv
  have HL := Aside0.mk hl
  rcases least_eq a hb hl hv with ⟨h1, h2⟩ | ⟨h1, s, h2, h3, h4, h5, h6⟩
  · have H2 := Aside0.mk h2
    clear ha hb hv hl h2
    go_enter Try.func48, Try.ntmps48
    go_wp2_with fail
    refine (less_c HA.out h1).mono ?_
    rintro x w1 ⟨rfl, hb1⟩
    go_wp2_with fail
    go_ret
    exact ⟨v, a, rfl, HA.out.below hb1, HB.out, by rw [HL.out]; exact Nat.le_refl _, H2.out, hb1⟩
  · have H2 := Aside0.mk h2
    have H3 := Aside0.mk h3
    have H4 := Aside0.mk h4
    have H5 := Aside0.mk h5
    have H6 := Aside0.mk h6
    have hd := Aside0.mk (getD_isB h4 16)
    clear ha hb hv hl h2 h3 h4 h5 h6
    go_enter Try.func48, Try.ntmps48
    go_wp2_with fail
    refine (less_c HA.out h1).mono ?_
    rintro x w1 ⟨rfl, hb1⟩
    go_wp2_with fail
    have hb2 := hb1.alloc hb1.size (.cells (nums .i64 [5]).toArray 3)
    refine (sum_c (HA.out.below hb2) ⟨_, _, rfl, Nat.le_refl _, one_I w1 5⟩ H2.out).mono ?_
    rintro x w3 ⟨v3, rfl, ho3, hb3⟩
    have HB3 := Aside0.mk (hb2.trans (hb3.mono hb2.size))
    obtain ⟨g, cap, rfl, hg0, hg1, -⟩ := Kd.R_form ho3 (by rw [H3.out]; decide)
    have hn19 : s.length = 19 := H3.out
    rw [hn19] at ho3 ⊢
    have hcell := Kd.R_celln (0 : Int) ho3 16 (by decide) (by decide)
    have hput := Kd.R_putn ho3 16 (s.getD 16 0 % 4)
    have hcut := cutI (some ⟨g, 0, none⟩) 19 cap 17 (by decide) (by have := (Kd.R_reads' ho3).2.1; omega) (x := 17)
    have hrd : RdI (w3.setCell ⟨g, 16, none⟩ (.int .i64 (s.getD 16 0 % 4))) (.slice (some ⟨g, 0, none⟩) 17 cap) ((s.set 16 (s.getD 16 0 % 4)).take 17) := RdI.of_ow (Kd.R_take hput (m := 17) (by rw [List.length_set, hn19]; decide))
    have k16 : w3.cell? ⟨g, 16, none⟩ = some (.int .i64 (s.getD 16 0)) := hcell.1
    have f16 : w3.frozen? ⟨g, 16, none⟩ = false := hcell.2
    have e1 : Int.tmod (s.getD 16 0) 4 = s.getD 16 0 % 4 := Int.tmod_eq_emod_of_nonneg hd.out.1
    have HRD := Aside0.mk hrd
    have hs := HB3.out.size
    have HG0 : Aside0 (w.heap.size ≤ g) := ⟨by have := hb2.size; omega⟩
    have HLT : Aside0 ((List.take 17 (s.set 16 (s.getD 16 0 % 4))).length = 17) := ⟨by rw [List.length_take, List.length_set, hn19]; rfl⟩
    clear hput hcell hrd hb1 hb2 hb3 ho3 hn19 hg1
    obtain ⟨x, HX⟩ : ∃ x, Aside0 (s.getD 16 0 = x) := ⟨_, ⟨rfl⟩⟩
    rw [HX.out] at hd HRD H5 H6 HLT k16 e1
    have hd' := hd.out
    go_wp2_with fail
    go_ret
    exact ⟨_, _, rfl, HRD.out, H5.out, by rw [HLT.out]; decide, by rw [HLT.out]; exact H6.out, HB3.out.setCell (p := ⟨g, 16, none⟩) HG0.out _⟩
end Go.Proofs.Ytkjmjgiklelpiaa.OtG
/- onetime: the document's tag, walked. -/
namespace Go.Proofs.Ytkjmjgiklelpiaa.OtH
open Go.RowKit Go.Proofs.YtkjmjgiklelpiaaW.PrintWords Go.Proofs.Ytkjmjgiklelpiaa.Num Go.Proofs.Ytkjmjgiklelpiaa.WordC Go.Proofs.Ytkjmjgiklelpiaa.Arr Go.Proofs.Ytkjmjgiklelpiaa.App Go.Proofs.Ytkjmjgiklelpiaa.CiC Go.Proofs.Ytkjmjgiklelpiaa.CiD Go.Proofs.Ytkjmjgiklelpiaa.OtC Go.Proofs.Ytkjmjgiklelpiaa.OtR Go.Proofs.Ytkjmjgiklelpiaa.OtL Go.Proofs.Ytkjmjgiklelpiaa.OtV Go.Proofs.Ytkjmjgiklelpiaa.OtN Go.Proofs.Ytkjmjgiklelpiaa.OtD Go.Proofs.Ytkjmjgiklelpiaa.OtE Go.Proofs.Ytkjmjgiklelpiaa.OtF Go.Proofs.Ytkjmjgiklelpiaa.OtG
set_option linter.unusedVariables false
set_option linter.unusedSimpArgs false

/-- A block of the document's: its digits and a 1 behind them. -/
def blkD (b : List Int) (j : Nat) : List Int := (b.drop (16 * j)).take 16 ++ [1]
/-- What was tagged so far, by the document. -/
def hV (R : Int) (b : List Int) : Nat → Int
  | 0 => 0
  | j + 1 => ((hV R b j + dn (blkD b j) (blkD b j).length) * R) % P130
/-- How many blocks. -/
def nB (b : List Int) : Nat := (b.length + 15) / 16
/-- The tag of b by the key k. -/
structure IsTag (k b l : List Int) : Prop where
  isB : IsB l
  len : l.length = 16
  val : dn l 16 = (hV (dn (cutS (k.take 16)) 16) b (nB b) + dn (k.drop 16) 16) % 340282366920938463463374607431768211456
theorem IsTag.uniq {k b l m : List Int} (h : IsTag k b l) (h' : IsTag k b m) : l = m := dn_ext h.isB h'.isB (h.len.trans h'.len.symm) (by rw [h.len, h'.len, h.val, h'.val])
theorem hV_range (R : Int) (b : List Int) (j : Nat) : 0 ≤ hV R b j ∧ hV R b j < P130 := by
  cases j with
  | zero => exact ⟨Int.le_refl _, by show (0 : Int) < P130; unfold P130; decide⟩
  | succ j => exact ⟨Int.emod_nonneg _ (by unfold P130; decide), Int.emod_lt_of_pos _ (by unfold P130; decide)⟩
theorem blkD_isB {b : List Int} (h : IsB b) (j : Nat) : IsB (blkD b j) := snoc_isB (fun x hx => h x (List.mem_of_mem_drop (List.mem_of_mem_take hx))) (by decide) (by decide)
theorem blkD_length (b : List Int) (j : Nat) : (blkD b j).length ≤ 17 := by simp [blkD]; omega
theorem blkD_lt {b : List Int} (h : IsB b) (j : Nat) : dn (blkD b j) (blkD b j).length < 680564733841876926926749214863536422912 := by
  unfold blkD
  have hI : IsB ((b.drop (16 * j)).take 16) := fun x hx => h x (List.mem_of_mem_drop (List.mem_of_mem_take hx))
  have hl : ((b.drop (16 * j)).take 16).length ≤ 16 := by simp; omega
  generalize (b.drop (16 * j)).take 16 = x at *
  have h1 := dn_snoc x 1
  rw [List.length_append, List.length_singleton, h1]
  have h2 := (dn_range hI x.length).2
  have h3 : (256 : Int) ^ x.length ≤ 340282366920938463463374607431768211456 := by
    have := Int.ofNat_le.2 (Nat.pow_le_pow_right (n := 256) (by omega) hl)
    rw [Int.natCast_pow, Int.natCast_pow] at this
    exact this
  omega
theorem append_owI {ops : Array Oper} {rest : List Oper} {o : Oper} {a : Act} {Q : Exit → Act → World → Prop} {w0 W : World} (base : Nat) (hgd : o.guard = none) (s x : Operand)
    (ho : o.op = .call { callee := .builtin .append, args := #[s, x], argTypes := #[73, 73] })
    (v : Value) (xs ys : List Int) (A : Option Addr) (m c : Nat) (hs : a.eval s = v) (hx : a.eval x = .slice A m c)
    (HO : OwI W base v xs) (HR : Kd.C (Kd.int .i64) W A m ys) (HB : Below base w0 W) (hbase : base ≤ W.heap.size) (hl : (xs.length + m) * 8 ≤ 140737488355328)
    (h : ∀ v1 w1, OwI w1 base v1 (xs ++ ys) → Below base w0 w1 → W.grownBy w1 v.ownBlock → wpList Try.prog ops Q rest (a.put o.dst v1) w1) :
    wpList Try.prog ops Q (o :: rest) a W :=
  Kd.R_append_rows (Kd.int .i64) (w0 := w0) base hgd s x 73 3 (.int .i64 0) 8 ho Try.underlying73 infoI rfl (by decide) (by omega) v xs ys A m c (fun _ => True) (fun _ => False) hs hx HO HR (fun _ _ h => h) (fun _ h => h.elim) (fun _ _ => trivial) HB hbase hl (fun v1 w1 h1 h2 h3 _ => h v1 w1 h1 h2 h3)
theorem digits_c {A : Option Addr} {n c : Nat} {b : List Int} {w : World} (hr : Rd w A n c b) (hb : IsB b) (hn : n < 17592186044416) :
    Calls Try.prog 47 #[.slice A n c] w fun e w' => ∃ v, e = .returned v ∧ OwI w' w.heap.size v b ∧ Below w.heap.size w w' := by
  have hl := hr.len
  subst hl
  exact OtRef.hypogeumref06_digits.calls _ A c b b w hr.cells hr.cap (digits_eq b hb hn)
theorem at_c {v : Value} {a : List Int} {w : World} (ha : RdI w v a) (i : Nat) {x : Int} (hx : x = i) :
    Calls Try.prog 52 #[v, .int .i64 x] w fun e w' => e = .returned (.int .i64 (a.getD i 0)) ∧ ∃ n, w' = w.drewN n := by
  subst hx
  obtain ⟨A, c, rfl, hc, hC⟩ := ha
  refine (OtRef.hypogeumref06_at.calls A c a i (a.getD i 0) w hC hc (at_eq a i)).mono ?_
  rintro e w' ⟨rfl, ⟨n, h⟩⟩
  exact ⟨rfl, n, h⟩
/-- One block: what becomes of the document's number. -/
theorem step_ref {r a bl : List Int} {h : Int} (hr : IsB r) (hrl : r.length = 16) (ha : IsB a) (hal : a.length ≤ 18) (hav : dn a a.length = h) (hh : 0 ≤ h ∧ h < P130) (hb : IsB bl) (hbl : bl.length ≤ 17) (hbv : dn bl bl.length < 680564733841876926926749214863536422912) :
    ∃ s t u, Evn (fun k => OtRef.hypogeumref06_sum.f k a bl) s ∧ Evn (fun k => OtRef.hypogeumref06_product.f k s r) t ∧ Evn (fun k => OtRef.hypogeumref06_fold.f k t) u ∧ IsB u ∧ u.length = 18 ∧ dn u u.length < 1361129467683753853853498429727072845824 ∧ dn u u.length % P130 = ((h + dn bl bl.length) * dn r 16) % P130 := by
  obtain ⟨s, s1, s2, s3, s4⟩ := sum_eq a bl ha hb (by omega) (by omega)
  obtain ⟨t, t1, t2, t3, t4⟩ := product_eq s r s3 hr (by omega) (by omega)
  have hb0 := (dn_range hb bl.length).1
  have hr1 := dn_range hr 16
  rw [hrl] at t4 t2
  have hp : dn t t.length < 926336713898529563388567880069503262826159877325124512315660672063305037119488 := by
    rw [t4, s4, hav]
    rw [show (256 : Int) ^ 16 = 340282366920938463463374607431768211456 from rfl] at hr1
    have h1 : (h + dn bl bl.length) * dn r 16 ≤ (h + dn bl bl.length) * 340282366920938463463374607431768211456 := Int.mul_le_mul_of_nonneg_left (by omega) (by omega)
    unfold P130 at hh
    omega
  obtain ⟨u, u1, u2, u3, u4, u5⟩ := fold_eq t t3 (by omega) hp
  exact ⟨s, t, u, ⟨_, s1⟩, ⟨_, t1⟩, u1, u3, u2, u4, by rw [u5, t4, s4, hav]⟩
theorem ownI_cell {w : World} {base g n cap : Nat} {l : List Int} (h : OwI w base (.slice (some ⟨g, 0, none⟩) n cap) l) (i : Nat) (hi : i < n) : w.cell? ⟨g, i, none⟩ = some (.int .i64 (l.getD i 0)) ∧ w.frozen? ⟨g, i, none⟩ = false := Kd.R_celln (0 : Int) h (i : Int) (by omega) (by omega)
theorem ownI_put {w : World} {base g n cap : Nat} {l : List Int} (h : OwI w base (.slice (some ⟨g, 0, none⟩) n cap) l) (i : Nat) (x : Int) : OwI (w.setCell ⟨g, i, none⟩ (.int .i64 x)) base (.slice (some ⟨g, 0, none⟩) n cap) (l.set i x) := Kd.R_putn h (i : Int) x
theorem one_B (w : World) (x : Int) : Rd (w.alloc (.cells (nums .u8 [x]).toArray 5)) (some ⟨w.heap.size, 0, none⟩) 1 1 [x] := by
  have h : Ow (w.alloc (.cells (nums .u8 [x]).toArray 5)) 0 (.slice (some ⟨w.heap.size, 0, none⟩) 1 1) [x] := Kd.R_of_own (own_lit w 0 5 .u8 [x] (Nat.zero_le _) (by simp)) (fun _ _ => trivial)
  obtain ⟨A, c, e, hr⟩ := rd_of_own h
  injection e with e1 e2 e3
  subst e1 e3
  exact hr
theorem lowT_tag {k b z : List Int} (hz : IsB z) (h : dn z z.length = hV (dn (cutS (k.take 16)) 16) b (nB b) + dn (k.drop 16) 16) : IsTag k b (lowT z 16) := by
  refine ⟨lowT_isB hz 16, lowT_length z 16, ?_⟩
  rw [lowT_dn, ← h]
  have h0 := dn_range hz 16
  by_cases hl : z.length ≤ 16
  · rw [← dn_over hl]; exact (Int.emod_eq_of_lt h0.1 h0.2).symm
  · have h1 := dn_split z 16 (z.length - 16)
    rw [show 16 + (z.length - 16) = z.length by omega] at h1
    rw [h1]
    rw [show (256 : Int) ^ 16 = 340282366920938463463374607431768211456 from rfl] at *
    rw [Int.add_mul_emod_self_right]
    exact (Int.emod_eq_of_lt h0.1 h0.2).symm
theorem wpList_min {ops : Array Oper} {rest : List Oper} {o : Oper} {a : Act} {w : World} {Q : Exit → Act → World → Prop} (hgd : o.guard = none) (x y : Operand)
    (ho : o.op = .call { callee := .builtin .min, args := #[x, y], argTypes := #[3, 3] }) (p q : Int) (hx : a.eval x = .int .i64 p) (hy : a.eval y = .int .i64 q) (m : Int) (hm : (if q < p then q else p) = m)
    (h : wpList Try.prog ops Q rest (a.put o.dst (.int .i64 m)) w) : wpList Try.prog ops Q (o :: rest) a w :=
  wpList_plain hgd fun _ hK => by
    subst hm
    unfold Oper.wp
    simp [execOp, ho, resolve, invoke, builtin, hx, hy, Go.Proofs.YtkjmjgiklelpiaaW.PrintMore.min_two, Go.Proofs.YtkjmjgiklelpiaaW.PrintMore.min2_int, Result.andThen]
    exact hK _ _ h
set_option maxHeartbeats 8000000 in
set_option maxRecDepth 100000 in
theorem refTag_c {A B : Option Addr} {c d n : Nat} {k b : List Int} {w : World} (hk : Rd w A 32 c k) (hb : Rd w B n d b) (bk : IsB k) (bb : IsB b) (hn : n ≤ 1000000) :
    Calls Try.prog 28 #[.slice A 32 c, .slice B n d] w fun e w' => ∃ v l, e = .returned (.tuple #[v, .int .i64 0]) ∧ Ow w' w.heap.size v l ∧ IsTag k b l ∧ Below w.heap.size w w' := by
  have HK := Aside0.mk hk
  have HBB := Aside0.mk hb
  have hl : k.length = 32 := hk.len
  have HL := Aside0.mk hl
  have hbl : b.length = n := hb.len
  have HBL := Aside0.mk hbl
  obtain ⟨hcut16, hrd16⟩ := rd_slice_to hk 16 (y := 16) (by omega) (by omega)
  have hk16 : IsB (k.take 16) := fun x hx => bk x (List.mem_of_mem_take hx)
  have HK16 := Aside0.mk hk16
  have hl16 : Aside0 ((k.take 16).length = 16) := ⟨by rw [List.length_take, HL.out]; rfl⟩
  clear hk hb hl hbl hk16
  go_enter Try.func28, Try.ntmps28
  go_wp2_with fail
  refine (digits_c hrd16 HK16.out (by omega)).mono ?_
  rintro x w1 ⟨v1, rfl, ho1, hb1⟩
  obtain ⟨G, cap, rfl, hg0, hg1, -⟩ := Kd.R_form ho1 (by rw [hl16.out]; decide)
  rw [hl16.out] at ho1 ⊢
  have HO1 := Aside0.mk ho1
  have hcut : Aside0 (cutS (k.take 16) = cutB (cutA (k.take 16) 4) 3) := ⟨rfl⟩
  obtain ⟨b0, HB0⟩ : ∃ z, Aside0 (k.take 16 = z) := ⟨_, ⟨rfl⟩⟩
  rw [HB0.out] at hl16 HK16 hcut HO1 hrd16 ho1
  clear ho1 hrd16
  go_wp2_with fail
  go_loopw [7] (fun i wr => ∃ t : Nat, t ≤ 4 ∧ i = .int .i64 (3 + 4 * (t : Int)) ∧ Aside0 (OwI wr w.heap.size (.slice (some ⟨G, 0, none⟩) 16 cap) (cutA b0 t)) ∧ Below w.heap.size w wr) (fun i _ => 20 - (intOf i).toNat)
  case atStart => exact ⟨0, by omega, rfl, HO1, hb1⟩
  case round =>
    clear HO1 hb1
    obtain ⟨t, ht, rfl, hX, hB⟩ := hrel
    by_cases hlt : t < 4
    · have hlt' : 3 + 4 * (t : Int) < 16 := by omega
      have n0 : 0 ≤ 3 + 4 * (t : Int) := by omega
      have n1 : (3 + 4 * (t : Int)).toNat = 3 + 4 * t := by omega
      obtain ⟨kx, fx⟩ := ownI_cell hX.out (3 + 4 * t) (by omega)
      have hx := getD_isB (cutA_isB HK16.out t) (3 + 4 * t)
      have hnx : Aside0 (cutA b0 (t + 1) = (cutA b0 t).set (3 + 4 * t) ((cutA b0 t).getD (3 + 4 * t) 0 % 16)) := ⟨rfl⟩
      generalize (cutA b0 t).getD (3 + 4 * t) 0 = x at *
      have e1 : Int.tmod x 16 = x % 16 := Int.tmod_eq_emod_of_nonneg hx.1
      go_wp2_with fail
      have R1 : Aside0 (OwI (wr.setCell ⟨G, 3 + 4 * t, none⟩ (.int .i64 (x % 16))) w.heap.size (.slice (some ⟨G, 0, none⟩) 16 cap) (cutA b0 (t + 1))) := ⟨by rw [hnx.out]; exact ownI_put hX.out _ _⟩
      go_roundw
      case rel => exact ⟨t + 1, by omega, by go_num, R1, hB.setCell (p := ⟨G, 3 + 4 * t, none⟩) hg0 _⟩
      case measure => simp [intOf]; omega
    · have hge : ¬ 3 + 4 * (t : Int) < 16 := by omega
      obtain rfl : t = 4 := by omega
      obtain ⟨b1, HB1⟩ : ∃ z, Aside0 (cutA b0 4 = z) := ⟨_, ⟨rfl⟩⟩
      have HI1 := Aside0.mk (cutA_isB HK16.out 4)
      have hl1 : Aside0 ((cutA b0 4).length = 16) := ⟨by rw [cutA_length]; exact hl16.out⟩
      rw [HB1.out] at HI1 hcut hX hl1
      go_wp2_with fail
      go_loopw [8] (fun i wr => ∃ t : Nat, t ≤ 3 ∧ i = .int .i64 (4 + 4 * (t : Int)) ∧ Aside0 (OwI wr w.heap.size (.slice (some ⟨G, 0, none⟩) 16 cap) (cutB b1 t)) ∧ Below w.heap.size w wr) (fun i _ => 20 - (intOf i).toNat)
      case atStart => exact ⟨0, by omega, rfl, hX, hB⟩
      case round =>
        clear hX hB
        obtain ⟨t, ht, rfl, hX, hB⟩ := hrel
        by_cases hlt : t < 3
        · have hlt' : 4 + 4 * (t : Int) < 16 := by omega
          have n0 : 0 ≤ 4 + 4 * (t : Int) := by omega
          have n1 : (4 + 4 * (t : Int)).toNat = 4 + 4 * t := by omega
          obtain ⟨kx, fx⟩ := ownI_cell hX.out (4 + 4 * t) (by omega)
          have hx := getD_isB (cutB_isB HI1.out t) (4 + 4 * t)
          have hnx : Aside0 (cutB b1 (t + 1) = (cutB b1 t).set (4 + 4 * t) ((cutB b1 t).getD (4 + 4 * t) 0 - (cutB b1 t).getD (4 + 4 * t) 0 % 4)) := ⟨rfl⟩
          generalize (cutB b1 t).getD (4 + 4 * t) 0 = x at *
          have e1 : Int.tmod x 4 = x % 4 := Int.tmod_eq_emod_of_nonneg hx.1
          go_wp2_with fail
          go_region
          have R1 : Aside0 (OwI (wr.setCell ⟨G, 4 + 4 * t, none⟩ (.int .i64 (x - x % 4))).drew w.heap.size (.slice (some ⟨G, 0, none⟩) 16 cap) (cutB b1 (t + 1))) := ⟨by rw [hnx.out]; exact Kd.R_drew (ownI_put hX.out _ _)⟩
          go_wp2_with fail
          go_roundw
          case rel => exact ⟨t + 1, by omega, by go_num, R1, (hB.setCell (p := ⟨G, 4 + 4 * t, none⟩) hg0 _).drew⟩
          case measure => simp [intOf]; omega
        · have hge : ¬ 4 + 4 * (t : Int) < 16 := by omega
          obtain rfl : t = 3 := by omega
          have hl2 : (cutB b1 3).length = 16 := by rw [cutB_length]; exact hl1.out
          have hi2 := cutB_isB HI1.out 3
          rw [← hcut.out] at hX hl2 hi2
          have HR2 := Aside0.mk (RdI.of_ow hX.out)
          obtain ⟨C, HC⟩ : ∃ z, Aside0 (cutS b0 = z) := ⟨_, ⟨rfl⟩⟩
          rw [HC.out] at HR2 hl2 hi2
          have HL2 := Aside0.mk hl2
          have HI2 := Aside0.mk hi2
          clear hX hl2 hi2
          go_wp2_with fail
          have hRv : Aside0 (dn C 16 = dn (cutS (k.take 16)) 16) := ⟨by rw [HB0.out, HC.out]⟩
          obtain ⟨R, HRR⟩ : ∃ z, Aside0 (dn C 16 = z) := ⟨_, ⟨rfl⟩⟩
          rw [HRR.out] at hRv
          obtain ⟨rv, HRV⟩ : ∃ z, Aside0 (z = Value.slice (some ⟨G, 0, none⟩) 16 cap) := ⟨_, ⟨rfl⟩⟩
          rw [← HRV.out] at HR2 ⊢
          have HW := Aside0.mk (Below.refl wr.heap.size wr)
          have HBW := Aside0.mk hB
          go_loopw [10, 9] (fun i v w3 => ∃ (j : Nat) (a : List Int), j ≤ nB b ∧ i = .int .i64 (16 * (j : Int)) ∧ Aside0 (RdI w3 v a) ∧ Aside0 (IsB a) ∧ Aside0 (a.length ≤ 18) ∧ Aside0 (dn a a.length = hV R b j) ∧ Below wr.heap.size wr w3) (fun i _ _ => n + 16 - (intOf i).toNat)
          case atStart => exact ⟨0, [], by omega, rfl, ⟨RdI.nil _⟩, ⟨by intro x hx; cases hx⟩, ⟨by decide⟩, ⟨rfl⟩, HW.out⟩
          case round =>
            obtain ⟨j, a, hj, rfl, hA, hAB, hAL, hAV, hB3⟩ := hrel
            have hbn : Aside0 (nB b = (n + 15) / 16) := ⟨by unfold nB; rw [HBL.out]⟩
            have hB3' := hB.trans (hB3.mono hB.size)
            by_cases hlt : 16 * j < n
            · have hlt' : 16 * (j : Int) < (n : Int) := by omega
              obtain ⟨m, hm⟩ : ∃ m : Nat, m = min (16 * j + 16) n := ⟨_, rfl⟩
              obtain ⟨A', c', hcut3, hrd3⟩ := rd_slice (HBB.out.below hB3') (16 * j) m (x := 16 * (j : Int)) (y := (m : Int)) (by omega) (by omega) (by omega) (by omega)
              have hblk : (b.take m).drop (16 * j) = (b.drop (16 * j)).take 16 := by
                rw [List.drop_take]
                by_cases h : 16 * j + 16 ≤ n
                · rw [hm, Nat.min_eq_left h, show 16 * j + 16 - 16 * j = 16 by omega]
                · rw [hm, Nat.min_eq_right (by omega), List.take_of_length_le (by rw [List.length_drop, HBL.out]; omega), List.take_of_length_le (by rw [List.length_drop, HBL.out]; omega)]
              have hI : IsB ((b.take m).drop (16 * j)) := fun x hx => bb x (List.mem_of_mem_take (List.mem_of_mem_drop hx))
              have hmi : (if (n : Int) < 16 * (j : Int) + 16 then (n : Int) else 16 * (j : Int) + 16) = m := by split <;> omega
              have HM : Aside0 (m - 16 * j < 17592186044416) := ⟨by omega⟩
              clear hm
              go_wp2_with (first
                | (at_builtin; refine wpList_min rfl (.tmp 58) (.tmp 60) rfl (16 * (j : Int) + 16) (n : Int) rfl rfl (m : Int) hmi ?_))
              refine (digits_c hrd3 hI HM.out).mono ?_
              rintro x w4 ⟨v4, rfl, ho4, hb4⟩
              rw [hblk] at ho4
              have hxl : ((b.drop (16 * j)).take 16).length ≤ 16 := by simp; omega
              have hbd : Aside0 (blkD b j = (b.drop (16 * j)).take 16 ++ [1]) := ⟨rfl⟩
              obtain ⟨X, HX⟩ : ∃ z, Aside0 ((b.drop (16 * j)).take 16 = z) := ⟨_, ⟨rfl⟩⟩
              rw [HX.out] at ho4 hxl hbd
              have HXL := Aside0.mk hxl
              have HO4 := Aside0.mk ho4
              have HB4 := Aside0.mk hb4
              clear hxl ho4 hb4 hcut3 hrd3 hblk hI hmi
              go_wp2_with (first
                | (have HO5 := Aside0.mk (Kd.R_alloc HO4.out (.cells (nums .i64 [1]).toArray 3)); have HB5 := Aside0.mk (HB4.out.alloc HB4.out.size (.cells (nums .i64 [1]).toArray 3)); refine append_owI (w0 := wr) wr.heap.size rfl (.tmp 63) (.tmp 64) rfl _ X [1] (some ⟨w4.heap.size, 0, none⟩) 1 1 rfl rfl HO5.out (one_I w4 1) HB5.out HB5.out.size (by have := HXL.out; omega) ?_; intro v6 w6 ho6 hb6 hg6; have HO6 := Aside0.mk ho6; have HB6 := Aside0.mk hb6; clear ho6 hb6 hg6))
              have hRR := HRR.out
              obtain ⟨s, t, u, E1, E2, E3, hu1, hu2, hu3, hu4⟩ := step_ref HI2.out HL2.out hAB.out hAL.out hAV.out (hV_range R b j) (blkD_isB bb j) (blkD_length b j) (blkD_lt bb j)
              rw [hRR] at hu4
              have HO6' : Aside0 (OwI w6 wr.heap.size v6 (blkD b j)) := ⟨by rw [hbd.out]; exact HO6.out⟩
              have hnx : Aside0 (hV R b (j + 1) = ((hV R b j + dn (blkD b j) (blkD b j).length) * R) % P130) := ⟨rfl⟩
              have U1 := Aside0.mk hu1
              have U2 := Aside0.mk hu2
              have U3 := Aside0.mk hu3
              have U4 := Aside0.mk hu4
              have F1 := Aside0.mk E1
              have F2 := Aside0.mk E2
              have F3 := Aside0.mk E3
              clear hu1 hu2 hu3 hu4 E1 E2 E3 hRR
              refine (sum_c (hA.out.below HB6.out) (RdI.of_ow HO6'.out) F1.out).mono ?_
              rintro x w7 ⟨v7, rfl, ho7, hb7⟩
              have HO7 := Aside0.mk (RdI.of_ow ho7)
              have hb7' := HB6.out.trans (hb7.mono HB6.out.size)
              have HC7 := Aside0.mk (HR2.out.below (hB3.trans (hb7'.mono hB3.size)))
              clear ho7 hb7
              go_wp2_with fail
              refine (product_c HO7.out HC7.out F2.out).mono ?_
              rintro x w8 ⟨v8, rfl, ho8, hb8⟩
              have HO8 := Aside0.mk ho8
              have hb8' := hb7'.trans (hb8.mono hb7'.size)
              clear ho8 hb8 hb7'
              go_wp2_with fail
              refine (fold_c HO8.out F3.out).mono ?_
              rintro x w9 ⟨v9, rfl, ho9, hb9⟩
              have HO9 := Aside0.mk ho9
              have hb9' := hb8'.trans (hb9.mono hb8'.size)
              clear ho9 hb9 hb8'
              go_wp2_with fail
              refine (least_c48 HO9.out U1.out U2.out U3.out).mono ?_
              rintro x w10 ⟨v10, l, rfl, hl1, hl2, hl3, hl4, hb10⟩
              have hb10' := hb9'.trans (hb10.mono hb9'.size)
              have L1 := Aside0.mk hl1
              have L2 := Aside0.mk hl2
              have L3 := Aside0.mk hl3
              have L4 : Aside0 (dn l l.length = hV R b (j + 1)) := ⟨by rw [hl4, U4.out, hnx.out]⟩
              clear hl1 hl2 hl3 hl4 hb10 hb9'
              have hbnv := hbn.out
              go_wp2_with fail
              go_roundw
              case rel => exact ⟨j + 1, l, by omega, by go_num, L1, L2, L3, L4, hB3.trans (hb10'.mono hB3.size)⟩
              case measure => simp [intOf]; omega
            · have hge : ¬ 16 * (j : Int) < (n : Int) := by omega
              have hbnv := hbn.out
              have hj' : j = nB b := by omega
              rw [hj'] at hAV
              obtain ⟨A', c', hcut3, hrd3⟩ := rd_slice_from (HK.out.below hB3') 16 (x := 16) (by omega) (by omega)
              have hI : IsB (k.drop 16) := fun x hx => bk x (List.mem_of_mem_drop hx)
              have hl16' : (k.drop 16).length = 16 := by rw [List.length_drop, HL.out]
              have hl17 : Aside0 ((k.drop 16).length = 16) := ⟨hl16'⟩
              obtain ⟨z, z1, z2, z3, z4⟩ := sum_eq a (k.drop 16) hAB.out hI (by have := hAL.out; omega) (by rw [hl16']; decide)
              rw [hAV.out, hl16'] at z4
              clear hbnv hj' hl16'
              have Z1 := Aside0.mk z1
              have Z3 := Aside0.mk z3
              have Z4 := Aside0.mk z4
              clear z1 z2 z3 z4
              go_wp2_with fail
              refine (digits_c hrd3 hI (by omega)).mono ?_
              rintro x w4 ⟨v4, rfl, ho4, hb4⟩
              have HO4 := Aside0.mk (RdI.of_ow ho4)
              have hb4' := hB3'.trans (hb4.mono hB3'.size)
              have HA4 := Aside0.mk (hA.out.below hb4)
              clear ho4 hb4 hrd3 hcut3
              go_wp2_with fail
              refine (sum_c HA4.out HO4.out ⟨_, Z1.out⟩).mono ?_
              rintro x w5 ⟨v5, rfl, ho5, hb5⟩
              have HZ5 := Aside0.mk (RdI.of_ow ho5)
              have hb5' := hb4'.trans (hb5.mono hb4'.size)
              clear ho5 hb5 hb4'
              go_wp2_with fail
              have HW5 := Aside0.mk (Below.refl w5.heap.size w5)
              go_loopw [13, 12] (fun i v w6 => ∃ (t : Nat) (vv : Value), t ≤ 16 ∧ i = .int .i64 t ∧ vv = v ∧ Aside0 (Ow w6 w5.heap.size vv (lowT z t)) ∧ Below w5.heap.size w5 w6) (fun i _ _ => 16 - (intOf i).toNat)
              case atStart => exact ⟨0, _, by omega, rfl, rfl, ⟨Kd.R_nil _ _ _ _ _⟩, HW5.out⟩
              case round =>
                obtain ⟨t, vv, ht, rfl, rfl, hO, hB6⟩ := hrel
                by_cases hlt : t < 16
                · have hlt' : (t : Int) < 16 := by omega
                  have hx := getD_isB Z3.out t
                  have hnx : Aside0 (lowT z (t + 1) = lowT z t ++ [z.getD t 0]) := ⟨rfl⟩
                  have hol : Aside0 ((lowT z t).length = t) := ⟨lowT_length z t⟩
                  go_wp2_with fail
                  refine (at_c (HZ5.out.below hB6) t rfl).mono ?_
                  rintro x w7 ⟨rfl, ⟨n7, rfl⟩⟩
                  obtain ⟨y, HY⟩ : ∃ y, Aside0 (z.getD t 0 = y) := ⟨_, ⟨rfl⟩⟩
                  rw [HY.out] at hx hnx ⊢
                  have e1 : y % 256 = y := by omega
                  have HO8 := Aside0.mk (Kd.R_drewN hO.out n7)
                  have HB8 := Aside0.mk (pw_below_drewN hB6 n7)
                  clear hO
                  go_wp2_with (first
                    | (have HO9 := Aside0.mk (Kd.R_alloc HO8.out (.cells (nums .u8 [y]).toArray 5)); have HB9 := Aside0.mk (HB8.out.alloc HB8.out.size (.cells (nums .u8 [y]).toArray 5)); refine append_ow (w0 := w5) w5.heap.size rfl (.tmp 82) (.tmp 87) rfl vv (lowT z t) [y] (some ⟨wr.heap.size, 0, none⟩) 1 1 rfl rfl HO9.out (one_B (wr.drewN n7) y) HB9.out HB9.out.size (by rw [hol.out]; omega) ?_; intro v10 w10 ho10 hb10 hg10 ha10; have HO10 := Aside0.mk ho10; have HB10 := Aside0.mk hb10; clear ho10 hb10 hg10 ha10))
                  have HN : Aside0 (Ow w10 w5.heap.size v10 (lowT z (t + 1))) := ⟨by rw [hnx.out]; exact HO10.out⟩
                  go_roundw
                  case rel => exact ⟨t + 1, v10, by omega, by go_num, rfl, HN, HB10.out⟩
                  case measure => simp [intOf]; omega
                · have hge : ¬ (t : Int) < 16 := by omega
                  obtain rfl : t = 16 := by omega
                  have hfin : Aside0 (IsTag k b (lowT z 16)) := ⟨lowT_tag Z3.out (by rw [Z4.out, hRv.out])⟩
                  have HFO := Aside0.mk hO.out
                  clear hO
                  go_wp2_with fail
                  go_ret2
                  exact ⟨_, rfl, _, Kd.R_lower HFO.out hb5'.size, hfin.out, hb5'.trans (hB6.mono hb5'.size)⟩
end Go.Proofs.Ytkjmjgiklelpiaa.OtH
/- onetime: what the program tells is the document's tag. -/
namespace Go.Proofs.Ytkjmjgiklelpiaa.OtI
open Go.RowKit Go.Proofs.YtkjmjgiklelpiaaW.PrintWords Go.Proofs.Ytkjmjgiklelpiaa.Num Go.Proofs.Ytkjmjgiklelpiaa.WordC Go.Proofs.Ytkjmjgiklelpiaa.Arr Go.Proofs.Ytkjmjgiklelpiaa.App Go.Proofs.Ytkjmjgiklelpiaa.CiC Go.Proofs.Ytkjmjgiklelpiaa.CiD Go.Proofs.Ytkjmjgiklelpiaa.OtC Go.Proofs.Ytkjmjgiklelpiaa.OtR Go.Proofs.Ytkjmjgiklelpiaa.OtL Go.Proofs.Ytkjmjgiklelpiaa.OtM Go.Proofs.Ytkjmjgiklelpiaa.OtT Go.Proofs.Ytkjmjgiklelpiaa.OtV Go.Proofs.Ytkjmjgiklelpiaa.OtK Go.Proofs.Ytkjmjgiklelpiaa.OtN Go.Proofs.Ytkjmjgiklelpiaa.OtO Go.Proofs.Ytkjmjgiklelpiaa.OtP Go.Proofs.Ytkjmjgiklelpiaa.OtQ Go.Proofs.Ytkjmjgiklelpiaa.OtS Go.Proofs.Ytkjmjgiklelpiaa.OtU Go.Proofs.Ytkjmjgiklelpiaa.OtD Go.Proofs.Ytkjmjgiklelpiaa.OtE Go.Proofs.Ytkjmjgiklelpiaa.OtF Go.Proofs.Ytkjmjgiklelpiaa.OtG Go.Proofs.Ytkjmjgiklelpiaa.OtH
set_option linter.unusedVariables false
set_option linter.unusedSimpArgs false

theorem addT_val (b a : List Int) (hb : b.length = 5) : val (addT b a 5) = val b + val a := by
  unfold val
  rw [addT_get b a hb 5 0, addT_get b a hb 5 1, addT_get b a hb 5 2, addT_get b a hb 5 3, addT_get b a hb 5 4, if_pos (by omega), if_pos (by omega), if_pos (by omega), if_pos (by omega), if_pos (by omega)]
  omega
theorem mod_step (x h b r : Int) (hx : x % P130 = h) : ((b + x) * r) % P130 = ((h + b) * r) % P130 := by
  rw [← hx, Int.add_comm b x, Int.mul_emod, Int.add_emod, ← Int.mul_emod, Int.mul_emod ((x % P130) + b), Int.add_emod (x % P130) b, Int.emod_emod, ← Int.mul_emod]
/-- One block more, in limbs. -/
theorem takeS_val {a r b : List Int} {h : Int} (ha : Low a) (hlr : r.length = 5) (hr : IsBd 67108864 r) (hlb : b.length = 5) (hb : IsBd 134217728 b) (hv : val a % P130 = h) : val (takeS a r b) % P130 = ((h + val b) * val r) % P130 := by
  unfold takeS
  rw [(times_val (by rw [addT_length]; exact hlb) hlr (addT_bd hlb (low_bd ha) hb 5) hr).2, addT_val b a hlb]
  exact mod_step _ _ _ _ hv
theorem blk_read {b : List Int} (hb : IsB b) (j : Nat) (hj : 16 * (j + 1) ≤ b.length) : val (readS ((b.drop (16 * j)).take 16) 1) = dn (blkD b j) (blkD b j).length := by
  have hl : ((b.drop (16 * j)).take 16).length = 16 := by rw [List.length_take, List.length_drop]; omega
  have hI : IsB ((b.drop (16 * j)).take 16) := fun x hx => hb x (List.mem_of_mem_drop (List.mem_of_mem_take hx))
  rw [read_val _ _ hl hI, le_dn, hl]
  unfold blkD
  have h1 := dn_snoc ((b.drop (16 * j)).take 16) 1
  rw [List.length_append, List.length_singleton, h1, hl]
  rw [show (256 : Int) ^ 16 = 340282366920938463463374607431768211456 from rfl]
theorem accS_val {r b : List Int} (hlr : r.length = 5) (hr : IsBd 67108864 r) (hb : IsB b) (j : Nat) (hj : 16 * j ≤ b.length) : val (accS r zero5 b j) % P130 = hV (val r) b j := by
  induction j with
  | zero => show val zero5 % P130 = 0; simp [val, zero5]
  | succ j ih =>
    simp only [accS, hV]
    rw [takeS_val (accS_low low_zero hlr hr hb j) hlr hr (readS_length _ _) (readS_bd (fun x hx => hb x (List.mem_of_mem_drop (List.mem_of_mem_take hx))) _ (by omega) (by omega) (by omega)) (ih (by omega)), blk_read hb j hj]
/-- What is left over, with a 1 and noughts behind it. -/
def padB (x : List Int) : List Int := x ++ [1] ++ List.replicate (15 - x.length) 0
theorem pad_length {x : List Int} (h : x.length < 16) : (padB x).length = 16 := by simp [padB]; omega
theorem pad_isB {x : List Int} (h : IsB x) : IsB (padB x) := by
  intro y hy
  unfold padB at hy
  rcases List.mem_append.1 hy with hy | hy
  · exact snoc_isB h (by decide) (by decide) y hy
  · rw [(List.mem_replicate.1 hy).2]; decide
theorem dn_zeros (x : List Int) (m n : Nat) : dn (x ++ List.replicate m 0) n = dn x n := dn_congr fun i hi => by
  rw [List.getD_eq_getElem?_getD, List.getD_eq_getElem?_getD]
  by_cases h : i < x.length
  · rw [List.getElem?_append_left h]
  · rw [List.getElem?_append_right (by omega), List.getElem?_replicate, List.getElem?_eq_none (l := x) (by omega)]
    split <;> rfl
theorem pad_dn {x : List Int} (h : x.length < 16) : dn (padB x) 16 = dn (x ++ [1]) (x ++ [1]).length := by
  unfold padB
  rw [dn_zeros]
  exact dn_over (by simp; omega)
theorem blkD_rest (b : List Int) : blkD b (b.length / 16) = rest16 b ++ [1] := by
  unfold blkD rest16
  rw [List.take_of_length_le (by rw [List.length_drop]; omega)]
/-- The sum whose least is told: of all that was added. -/
def endS (r b : List Int) : List Int := if rest16 b = [] then gone r b else takeS (gone r b) r (readS (padB (rest16 b)) 0)
theorem rest_isB {b : List Int} (hb : IsB b) : IsB (rest16 b) := fun x hx => hb x (List.mem_of_mem_drop hx)
theorem endS_low {r b : List Int} (hlr : r.length = 5) (hr : IsBd 67108864 r) (hb : IsB b) : Low (endS r b) := by
  unfold endS
  split
  · exact gone_low hlr hr hb
  · exact takeS_low (gone_low hlr hr hb) hlr hr (readS_length _ _) (readS_bd (pad_isB (rest_isB hb)) _ (by omega) (by omega) (by omega))
theorem endS_val {r b : List Int} (hlr : r.length = 5) (hr : IsBd 67108864 r) (hb : IsB b) : val (endS r b) % P130 = hV (val r) b (nB b) := by
  have h1 := accS_val hlr hr hb (b.length / 16) (by omega)
  have h2 := rest16_length b
  unfold endS
  split
  · rename_i h
    rw [h] at h2
    have h3 : b.length % 16 = 0 := h2.symm
    rw [show nB b = b.length / 16 by unfold nB; omega]
    exact h1
  · rename_i h
    have h3 : 0 < (rest16 b).length := List.length_pos_iff.2 h
    have h4 : (rest16 b).length < 16 := by omega
    rw [show nB b = b.length / 16 + 1 by unfold nB; omega]
    rw [takeS_val (gone_low hlr hr hb) hlr hr (readS_length _ _) (readS_bd (pad_isB (rest_isB hb)) _ (by omega) (by omega) (by omega)) h1, read_val _ _ (pad_length h4) (pad_isB (rest_isB hb)), le_dn, pad_length h4, pad_dn h4, ← blkD_rest]
    simp only [hV]
    rw [Int.zero_mul, Int.add_zero]
theorem store_dn (x : Int) (h0 : 0 ≤ x) (h1 : x < 4294967296) : dn (storeW x true) 4 = x := by
  have h := le_dn (storeW x true)
  rw [storeW_length] at h
  rw [← h]
  unfold le storeW
  rw [if_pos rfl, List.reverse_reverse]
  exact be_told 4 x h0 (by simpa using h1)
def sumW (W s : List Int) : Nat → Int
  | 0 => 0
  | t + 1 => sumW W s t + (W.getD t 0 % 4294967296 + s.getD t 0) * 256 ^ (4 * t)
theorem tgS_ok {W s : List Int} (hs : IsW s) (t : Nat) : IsB (tgS W s t).1 ∧ 0 ≤ (tgS W s t).2 ∧ (tgS W s t).2 < 4294967296 ∧ dn (tgS W s t).1 (4 * t) + (tgS W s t).2 * 256 ^ (4 * t) = sumW W s t := by
  induction t with
  | zero => exact ⟨(by intro x hx; cases hx), Int.le_refl _, (by show (0 : Int) < 4294967296; decide), rfl⟩
  | succ t ih =>
    obtain ⟨i1, i2, i3, i4⟩ := ih
    have h2 := getD_isW hs t
    have hl := tgS_length W s t
    simp only [tgS, sumW]
    have hx : 0 ≤ W.getD t 0 % 4294967296 ∧ W.getD t 0 % 4294967296 < 4294967296 := by omega
    generalize s.getD t 0 = y at *
    generalize W.getD t 0 % 4294967296 = x at *
    generalize (tgS W s t).2 = c at *
    generalize (tgS W s t).1 = o at *
    have hq : (c + (x + y)) = (c + (x + y)) % 4294967296 + 4294967296 * ((c + (x + y)) / 4294967296) := by omega
    have hq0 : 0 ≤ (c + (x + y)) % 4294967296 ∧ (c + (x + y)) % 4294967296 < 4294967296 := by omega
    have hq1 : 0 ≤ (c + (x + y)) / 4294967296 ∧ (c + (x + y)) / 4294967296 < 4294967296 := by omega
    generalize (c + (x + y)) % 4294967296 = q at *
    generalize (c + (x + y)) / 4294967296 = p at *
    refine ⟨?_, hq1.1, hq1.2, ?_⟩
    · intro z hz
      rcases List.mem_append.1 hz with hz | hz
      · exact i1 z hz
      · exact storeW_isB _ _ z hz
    · rw [show 4 * (t + 1) = 4 * t + 4 by omega, dn_split, dn_append (by omega), show (o ++ storeW q true).drop (4 * t) = storeW q true by rw [← hl, List.drop_left], store_dn q hq0.1 hq0.2, ← i4, Int.pow_add, show (256 : Int) ^ 4 = 4294967296 from rfl]
      generalize (256 : Int) ^ (4 * t) = B at *
      have : c = q + 4294967296 * p - x - y := by omega
      rw [this]
      grind
theorem words_sum {l s : List Int} (h : OtV.Can l) : sumW (wordsS l) s 4 % 340282366920938463463374607431768211456 = (val l + (s.getD 0 0 + s.getD 1 0 * 4294967296 + s.getD 2 0 * 18446744073709551616 + s.getD 3 0 * 79228162514264337593543950336)) % 340282366920938463463374607431768211456 := by
  obtain ⟨a, b, c, d, e, rfl, h1, h2, h3, h4, h5⟩ := h
  have e0 : (a + b * 67108864) % 4294967296 = a + b % 64 * 67108864 := by omega
  have e1 : (b / 64 + c * 1048576) % 4294967296 = b / 64 + c % 4096 * 1048576 := by omega
  have e2 : (c / 4096 + d * 16384) % 4294967296 = c / 4096 + d % 262144 * 16384 := by omega
  have e3 : (d / 262144 + e * 256) % 4294967296 = d / 262144 + e % 16777216 * 256 := by omega
  simp only [sumW, wordsS, val, List.getD_cons_zero, List.getD_cons_succ]
  rw [e0, e1, e2, e3]
  rw [show (256 : Int) ^ (4 * 0) = 1 from rfl, show (256 : Int) ^ (4 * 1) = 4294967296 from rfl, show (256 : Int) ^ (4 * 2) = 18446744073709551616 from rfl, show (256 : Int) ^ (4 * 3) = 79228162514264337593543950336 from rfl]
  generalize s.getD 0 0 = s0
  generalize s.getD 1 0 = s1
  generalize s.getD 2 0 = s2
  generalize s.getD 3 0 = s3
  have f1 := Int.emod_add_mul_ediv b 64
  have f2 := Int.emod_add_mul_ediv c 4096
  have f3 := Int.emod_add_mul_ediv d 262144
  have f4 := Int.emod_add_mul_ediv e 16777216
  clear e0 e1 e2 e3 h1 h2 h3 h4 h5
  generalize b % 64 = b0 at *
  generalize b / 64 = b1 at *
  generalize c % 4096 = c0 at *
  generalize c / 4096 = c1 at *
  generalize d % 262144 = d0 at *
  generalize d / 262144 = d1 at *
  generalize e % 16777216 = e0 at *
  generalize e / 16777216 = e1 at *
  subst f1 f2 f3 f4
  omega
theorem load_dn (x : List Int) (h : x.length = 4) : (loadW x true).1 = dn x 4 := by
  have h1 := le_dn x
  rw [h] at h1
  rw [← h1]
  unfold loadW le
  rw [if_pos h]; rfl
theorem ws_dn (k : List Int) (h : k.length = 16) : (ws k).getD 0 0 + (ws k).getD 1 0 * 4294967296 + (ws k).getD 2 0 * 18446744073709551616 + (ws k).getD 3 0 * 79228162514264337593543950336 = dn k 16 := by
  have g : ∀ i, i < 4 → (ws k).getD i 0 = dn (k.drop (4 * i)) 4 := by
    intro i hi
    rw [List.getD_eq_getElem?_getD, ws_get k 4 (by omega) i hi, Option.getD_some, load_dn _ (by rw [List.length_drop, List.length_take]; omega)]
    rw [List.drop_take, show 4 * i + 4 - 4 * i = 4 by omega, dn_take _ _ _ (Nat.le_refl _)]
  rw [g 0 (by omega), g 1 (by omega), g 2 (by omega), g 3 (by omega)]
  have d1 := dn_split k 4 12
  have d2 := dn_split (k.drop 4) 4 8
  have d3 := dn_split (k.drop 8) 4 4
  rw [List.drop_drop] at d2 d3
  rw [show 4 + 12 = 16 from rfl] at d1
  rw [show 4 + 8 = 12 from rfl, show (4 : Nat) + 4 = 8 from rfl] at d2
  rw [show 4 + 4 = 8 from rfl, show (8 : Nat) + 4 = 12 from rfl] at d3
  rw [d1, d2, d3, show (256 : Int) ^ 4 = 4294967296 from rfl, show 4 * 0 = 0 from rfl, show 4 * 1 = 4 from rfl, show 4 * 2 = 8 from rfl, show 4 * 3 = 12 from rfl, List.drop_zero]
  omega
theorem tagS_ok {k b : List Int} {r s a : List Int} {h : Int} (hk : k.length = 16) (hs : s = ws k) (hw : IsW s) (hl : a.length = 5) (ha : IsL a) (hv : val a % P130 = h) : IsB (tagS a s) ∧ (tagS a s).length = 16 ∧ dn (tagS a s) 16 = (h + dn k 16) % 340282366920938463463374607431768211456 := by
  obtain ⟨hc, hlv⟩ := least_val hl ha
  have h1 := tgS_ok (W := wordsS (leastS a)) hw 4
  have h2 := words_sum (s := s) hc
  rw [hlv, hv, hs, ws_dn k hk, ← hs] at h2
  unfold tagS
  refine ⟨h1.1, tgS_length _ _ 4, ?_⟩
  have h3 := dn_range h1.1 16
  have h4 := h1.2.2.2
  rw [show 4 * 4 = 16 from rfl] at h4
  rw [show (256 : Int) ^ 16 = 340282366920938463463374607431768211456 from rfl] at h3 h4
  rw [← h2, ← h4, Int.add_mul_emod_self_right]
  exact (Int.emod_eq_of_lt h3.1 h3.2).symm
/-- The program's r and s of a key. -/
def rK (k : List Int) : List Int := readS (cutS (k.take 16)) 0
def sK (k : List Int) : List Int := ws (k.drop 16)
theorem cutS_length (b : List Int) : (cutS b).length = b.length := by unfold cutS; rw [cutB_length, cutA_length]
theorem cutS_isB {b : List Int} (h : IsB b) : IsB (cutS b) := cutB_isB (cutA_isB h 4) 3
theorem rK_bd {k : List Int} (h : IsB k) : IsBd 67108864 (rK k) := readS_bd (cutS_isB (fun x hx => h x (List.mem_of_mem_take hx))) _ (by omega) (by omega) (by omega)
/-- THE LAW: what the program tells is the document's tag. -/
theorem tag_ok {k b : List Int} (hk : k.length = 32) (bk : IsB k) (bb : IsB b) : IsTag k b (tagS (endS (rK k) b) (sK k)) := by
  have hlr : (rK k).length = 5 := readS_length _ _
  have hl16 : (k.drop 16).length = 16 := by rw [List.length_drop, hk]
  have hw : IsW (sK k) := ws_isW 4 _ hl16 (fun x hx => bk x (List.mem_of_mem_drop hx))
  have hlow := endS_low hlr (rK_bd bk) bb
  have hv := endS_val hlr (rK_bd bk) bb
  have h := tagS_ok (k := k.drop 16) (b := b) (r := rK k) hl16 rfl hw hlow.length hlow.isL hv
  refine ⟨h.1, h.2.1, ?_⟩
  refine Eq.trans h.2.2 ?_
  have hc16 : (cutS (k.take 16)).length = 16 := by rw [cutS_length, List.length_take, hk]; rfl
  have hrv : val (rK k) = dn (cutS (k.take 16)) 16 := by
    unfold rK
    rw [read_val _ _ hc16 (cutS_isB (fun x hx => bk x (List.mem_of_mem_take hx))), le_dn, hc16]
    omega
  rw [hrv]
end Go.Proofs.Ytkjmjgiklelpiaa.OtI
/- onetime: Tag in general, and of some bytes. -/
namespace Go.Proofs.Ytkjmjgiklelpiaa.OtJ
open Go.RowKit Go.Proofs.YtkjmjgiklelpiaaW.PrintWords Go.Proofs.Ytkjmjgiklelpiaa.Num Go.Proofs.Ytkjmjgiklelpiaa.WordC Go.Proofs.Ytkjmjgiklelpiaa.Arr Go.Proofs.Ytkjmjgiklelpiaa.App Go.Proofs.Ytkjmjgiklelpiaa.CiC Go.Proofs.Ytkjmjgiklelpiaa.CiD Go.Proofs.Ytkjmjgiklelpiaa.OtC Go.Proofs.Ytkjmjgiklelpiaa.OtR Go.Proofs.Ytkjmjgiklelpiaa.OtL Go.Proofs.Ytkjmjgiklelpiaa.OtM Go.Proofs.Ytkjmjgiklelpiaa.OtT Go.Proofs.Ytkjmjgiklelpiaa.OtV Go.Proofs.Ytkjmjgiklelpiaa.OtK Go.Proofs.Ytkjmjgiklelpiaa.OtN Go.Proofs.Ytkjmjgiklelpiaa.OtO Go.Proofs.Ytkjmjgiklelpiaa.OtP Go.Proofs.Ytkjmjgiklelpiaa.OtQ Go.Proofs.Ytkjmjgiklelpiaa.OtS Go.Proofs.Ytkjmjgiklelpiaa.OtU Go.Proofs.Ytkjmjgiklelpiaa.OtD Go.Proofs.Ytkjmjgiklelpiaa.OtE Go.Proofs.Ytkjmjgiklelpiaa.OtF Go.Proofs.Ytkjmjgiklelpiaa.OtG Go.Proofs.Ytkjmjgiklelpiaa.OtH Go.Proofs.Ytkjmjgiklelpiaa.OtI
set_option linter.unusedVariables false
set_option linter.unusedSimpArgs false

theorem copy_part {P : Program} {ops : Array Oper} {rest : List Oper} {o : Oper} {a : Act} {w : World} {Q : Exit → Act → World → Prop} (hgd : o.guard = none) (d s : Operand) (dT sT : TypeId)
    (ho : o.op = .call { callee := .builtin .copy, args := #[d, s], argTypes := #[dT, sT] }) (elem : TypeId) (hu : P.underlying dT = some (.slice elem)) (hsz : (P.info? elem).map (·.size) = some 1)
    (g dLen dCap : Nat) (sp : Option Addr) (sLen sCap : Nat) (hd : a.eval d = .slice (some ⟨g, 0, none⟩) dLen dCap) (hs : a.eval s = .slice sp sLen sCap)
    (cur : List Int) (t : Nat) (hg : Blk w g t (nums .u8 cur)) (l : List Int) (hr : Rd w sp sLen sCap l) (hn : sLen ≤ dLen) (hp : 0 < sLen) (hc : cur.length = dLen)
    (h : ∀ w', Blk w' g t (nums .u8 (l ++ cur.drop sLen)) → w.grownBy w' (some g) → wpList P ops Q rest (a.put o.dst (.int .i64 sLen)) w') : wpList P ops Q (o :: rest) a w :=
  wpList_plain hgd fun _ hK => by
    have hl := hr.len
    obtain ⟨ad, rfl, hsrc⟩ := rd_cells hr (by omega)
    have hlen : (nums .u8 l).length = sLen := by rw [nums_length]; exact hl
    have hrun := run_copy_row (P := P) w dT sT o.type elem g 0 dLen dCap ad sLen sCap (nums .u8 cur).toArray t (nums .u8 l) hu hsz hg (by rw [hlen]; exact (Nat.min_eq_left hn).symm)
      (fun j v hj => hsrc j v hj) (by simp [nums_length, hl, hc]; omega) (nums_one _ _)
    unfold Oper.wp
    simp [execOp, ho, resolve, invoke, builtin, hd, hs, hrun, Result.andThen]
    have h1 := h (w.setRow g (nums .u8 (l ++ cur.drop sLen)).toArray) (setRow_heap w g _ _ t _ hg) ⟨rfl, rfl, rfl, by simp [World.setRow], fun k hk hne => setRow_other w g k _ (fun e => hne (by rw [e]))⟩
    rw [nums_append] at h1
    rw [hlen, show List.drop sLen (nums .u8 cur) = nums .u8 (cur.drop sLen) by simp [nums]]
    exact hK _ _ h1
theorem pad_of {x : List Int} (h : x.length < 16) : (x ++ (List.replicate 16 (0 : Int)).drop x.length).set x.length 1 = padB x := by
  unfold padB
  rw [List.drop_replicate, List.set_append_right _ _ (Nat.le_refl _), Nat.sub_self, show 16 - x.length = (15 - x.length) + 1 by omega, List.replicate_succ, List.set_cons_zero, List.append_assoc]
  rfl
set_option maxHeartbeats 8000000 in
set_option maxRecDepth 100000 in
theorem Tag_1 {g c m : Nat} {A : Option Addr} {r a s x0 : List Int} {w : World} (hg : Blk w g 83 (adr r a s (.slice A m c))) (hr : r.length = 5) (hrb : IsBd 67108864 r) (ha : a.length = 5) (hs : s.length = 4) (hal : Low a) (hsw : IsW s) (hx : Rd w A m c x0) (bx : IsB x0) (hm : 0 < m) (hm2 : m < 16) :
    Calls Try.prog 31 #[.pointer (some ⟨g, 0, none⟩)] w fun e w' => ∃ v, e = .returned v ∧ Ow w' w.heap.size v (tagS (takeS a r (readS (padB x0) 0)) s) ∧ Below w.heap.size w w' := by
  have HG := Aside0.mk hg
  have HR := Aside0.mk hr
  have HA := Aside0.mk ha
  have HS := Aside0.mk hs
  have HAL := Aside0.mk hal
  have HRB := Aside0.mk hrb
  have HXX := Aside0.mk hx
  have HBX := Aside0.mk bx
  have HXL : Aside0 (x0.length = m) := ⟨hx.len⟩
  have hmk : ∀ W : World, (Instr.makeSlice 22 (.int .i64 16) (.int .i64 16)).run Try.prog W = .ok (.slice (some ⟨W.heap.size, 0, none⟩) 16 16) (W.alloc (.cells (nums .u8 [0, 0, 0, 0, 0, 0, 0, 0, 0, 0, 0, 0, 0, 0, 0, 0]).toArray 5)) := by
    intro W
    have h := print_make (P := Try.prog) 22 5 .u8 1 Try.underlying22 infoB (by omega) 16 (by omega) W
    have e : madeCells #[.int .u8 0] 16 = (nums .u8 [0, 0, 0, 0, 0, 0, 0, 0, 0, 0, 0, 0, 0, 0, 0, 0]).toArray := by kernel_rfl
    rw [e] at h; exact h
  have hm' : (0 : Int) < (m : Int) := by omega
  have hm2' : (m : Int) < 16 := by omega
  have HSW := Aside0.mk hsw
  have hglt := Blk.lt hg
  have HRA := Aside0.mk (range_adr_a hg hr)
  have k14 : w.cell? ⟨g, 14, none⟩ = some (.slice A m c) := (Blk.cell hg 14).trans (adr_tail hr ha hs)
  have hi : Aside0 ((Try.prog.info? 79).map (·.size) = some (nums .u64 a).length) := ⟨by rw [nums_length, ha]; exact size79⟩
  clear hg hr ha hs hal hsw hrb hx bx
  go_enter Try.func31, Try.ntmps31
  go_wp2_with (first
    | (refine wpList_load_mid rfl 79 (.tmp 14) rfl g 5 rfl (nums .u64 a) _ HRA.out Try.underlying79 rfl hi.out ?_)
    | (have HZ0 : Aside0 (Blk (w.alloc (.cells (nums .u64 (List.replicate 5 0)).toArray 79)) w.heap.size 79 (nums .u64 (List.replicate 5 0))) := ⟨heap_alloc_new _ _⟩
       have HB0 := Aside0.mk ((Below.refl w.heap.size w).alloc (Nat.le_refl _) (.cells (nums .u64 (List.replicate 5 0)).toArray 79))
       refine store_arr rfl 79 (.tmp 3) (.tmp 15) rfl w.heap.size .u64 a rfl rfl 79 5 _ HZ0.out size79 HA.out (by rw [nums_length]; rfl) ?_; intro w1 hX1 hg1
       have HX1 := Aside0.mk hX1
       have HB1 := Aside0.mk (HB0.out.grown hg1 HB0.out.size (fun k hk => by cases hk; exact Nat.le_refl _))
       have k14' : w1.cell? ⟨g, 14, none⟩ = some (.slice A m c) := (HB1.out.cell (p := ⟨g, 14, none⟩) hglt).trans k14
       have k14b : (w1.alloc (.cells (nums .u8 [0, 0, 0, 0, 0, 0, 0, 0, 0, 0, 0, 0, 0, 0, 0, 0]).toArray 5)).cell? ⟨g, 14, none⟩ = some (.slice A m c) := (World.cell?_alloc_lt _ _ _ (Nat.lt_of_lt_of_le hglt HB1.out.size)).trans k14'
       clear hX1 hg1)
    | (have HS2 : Aside0 (Blk (w1.alloc (.cells (nums .u8 [0, 0, 0, 0, 0, 0, 0, 0, 0, 0, 0, 0, 0, 0, 0, 0]).toArray 5)) w1.heap.size 5 (nums .u8 [0, 0, 0, 0, 0, 0, 0, 0, 0, 0, 0, 0, 0, 0, 0, 0])) := ⟨heap_alloc_new _ _⟩
       have HB2a := Aside0.mk (HB1.out.alloc HB1.out.size (.cells (nums .u8 [0, 0, 0, 0, 0, 0, 0, 0, 0, 0, 0, 0, 0, 0, 0, 0]).toArray 5))
       have HX2a := Aside0.mk (HX1.out.below (below_alloc (Below.refl _ w1) (.cells (nums .u8 [0, 0, 0, 0, 0, 0, 0, 0, 0, 0, 0, 0, 0, 0, 0, 0]).toArray 5)))
       have HR2a := Aside0.mk (HXX.out.below HB2a.out)
       refine copy_part rfl (.tmp 23) (.tmp 27) 22 22 rfl 5 Try.underlying22 sizeU8 w1.heap.size 16 16 A m c rfl rfl [0, 0, 0, 0, 0, 0, 0, 0, 0, 0, 0, 0, 0, 0, 0, 0] 5 HS2.out x0 HR2a.out (by omega) hm (by rfl) ?_; intro w2 hS3 hg3
       have HB3a := Aside0.mk (HB2a.out.grown hg3 HB2a.out.size (fun k hk => by cases hk; exact HB1.out.size))
       have HX3a := Aside0.mk (blk_grow HX2a.out hg3 (by intro e; injection e with e; have := Blk.lt HX1.out; omega))
       have HS3 := Aside0.mk hS3
       have k14'' : w2.cell? ⟨g, 14, none⟩ = some (.slice A m c) := (HB3a.out.cell (p := ⟨g, 14, none⟩) hglt).trans k14
       have ks := blk_num hS3 m (by rw [List.length_append, HXL.out, List.length_drop]; show m < m + (16 - m); omega)
       have fs := Blk.frozen hS3 m
       have HG1 : Aside0 (w.heap.size ≤ w1.heap.size ∧ w.heap.size < w1.heap.size) := ⟨⟨HB1.out.size, Blk.lt HX1.out⟩⟩
       clear hS3 hg3))
  have HS4 : Aside0 (Blk (w2.setCell ⟨w1.heap.size, m, none⟩ (.int .u8 1)) w1.heap.size 5 (nums .u8 (padB x0))) := ⟨by
    have h1 := CiC.blk_put HS3.out m 1
    have h2 := pad_of (x := x0) (by rw [HXL.out]; exact hm2)
    rw [HXL.out, show List.replicate 16 (0 : Int) = [0, 0, 0, 0, 0, 0, 0, 0, 0, 0, 0, 0, 0, 0, 0, 0] from rfl] at h2
    rwa [h2] at h1⟩
  have HB4a := Aside0.mk (HB3a.out.setCell (p := ⟨w1.heap.size, m, none⟩) HG1.out.1 (.int .u8 1))
  have HX4a := Aside0.mk (Blk.far HX3a.out (p := ⟨w1.heap.size, m, none⟩) (by have := HG1.out.2; simp; omega) (.int .u8 1))
  generalize hW4 : World.setCell w2 _ _ = w4 at *
  clear hW4
  have hpl := pad_length (x := x0) (by rw [HXL.out]; exact hm2)
  have hpb := pad_isB HBX.out
  have hR4 : Rd w4 (some ⟨w1.heap.size, 0, none⟩) 16 16 (padB x0) := by
    have h1 := rd_of_blk HS4.out 0 (padB x0) 16 (by omega) (by omega) (fun j hj => by rw [Nat.zero_add]; exact nums_get .u8 (padB x0) j hj)
    rwa [hpl] at h1
  refine (read_c hR4 (Nat.le_refl _) hpb (.inl rfl)).mono ?_
  rintro x w5 ⟨rfl, hb5⟩
  have HB5 := Aside0.mk (below_next HB4a.out hb5)
  have HX5 := Aside0.mk (HX4a.out.below hb5)
  have HG5 := HG.out.below HB5.out
  have hbd := Aside0.mk (readS_bd hpb 134217728 (top := 0) (by omega) (by omega) (by omega))
  have hrdl := Aside0.mk (readS_length (padB x0) 0)
  have HP := Aside0.mk hpb
  clear hR4 hpl hpb hb5
  obtain ⟨Z, HZZ⟩ : ∃ z, Aside0 (readS (padB x0) 0 = z) := ⟨_, ⟨rfl⟩⟩
  rw [HZZ.out] at hbd hrdl ⊢
  go_wp2_with fail
  refine (take_c (range_adr_r HG5) (range_adr_a HG5 HR.out) (Blk.lt HG5) HA.out HR.out hrdl.out (low_bd HAL.out) HRB.out hbd.out).mono ?_
  rintro x w6 ⟨rfl, hb6⟩
  have HB6 := Aside0.mk (below_next HB5.out hb6)
  have HX6 := Aside0.mk (HX5.out.below hb6)
  have HTL := Aside0.mk (takeS_low HAL.out HR.out HRB.out hrdl.out hbd.out)
  clear hb6 HG5
  obtain ⟨a1, HA1⟩ : ∃ z, Aside0 (takeS a r Z = z) := ⟨_, ⟨rfl⟩⟩
  rw [HA1.out] at HTL ⊢
  have HA1L : Aside0 (a1.length = 5) := ⟨HTL.out.length⟩
  go_wp2_with (first
    | (refine store_arr rfl 79 (.tmp 3) (.tmp 39) rfl w.heap.size .u64 a1 rfl rfl 79 5 _ HX6.out size79 HA1L.out (by rw [nums_length]; exact HA.out) ?_; intro w7 hX7 hg7
       have HX7 := Aside0.mk hX7
       have HB7 := Aside0.mk (HB6.out.grown hg7 HB6.out.size (fun k hk => by cases hk; exact Nat.le_refl _))
       clear hX7 hg7)
    | (refine load_arr rfl 79 (.tmp 3) rfl w.heap.size rfl 79 .u64 a1 5 36 HX7.out Try.underlying79 size79 HA1L.out ?_))
  refine (least_c HA1L.out HTL.out.isL).mono ?_
  rintro x w2 ⟨rfl, hb2⟩
  have hlv := (least_val HA1L.out HTL.out.isL).1
  have htg : Aside0 (tagS a1 s = (tgS (wordsS (leastS a1)) s 4).1) := ⟨rfl⟩
  obtain ⟨S, HSS⟩ : ∃ z, Aside0 (leastS a1 = z) := ⟨_, ⟨rfl⟩⟩
  rw [HSS.out] at hlv htg ⊢
  have HX2 := Aside0.mk (HX7.out.below hb2)
  have HB2 := Aside0.mk (below_next HB7.out hb2)
  have HG2 := Aside0.mk (HG.out.below HB2.out)
  obtain ⟨l0, l1, l2, l3, l4, rfl, b0, b1, b2, b3, b4⟩ := hlv
  have hS5 : Aside0 (([l0, l1, l2, l3, l4] : List Int).length = 5) := ⟨rfl⟩
  have o1 : Go.bits .or .u64 l0 (l1 * 67108864) = l0 + l1 * 67108864 := or_sh l0 l1 26 (by omega) (by omega) (by omega) (by omega) (by omega)
  have o2 : Go.bits .or .u64 (l1 / 64) (l2 * 1048576) = l1 / 64 + l2 * 1048576 := or_sh (l1 / 64) l2 20 (by omega) (by omega) (by omega) (by omega) (by omega)
  have o3 : Go.bits .or .u64 (l2 / 4096) (l3 * 16384) = l2 / 4096 + l3 * 16384 := or_sh (l2 / 4096) l3 14 (by omega) (by omega) (by omega) (by omega) (by omega)
  have o4 : Go.bits .or .u64 (l3 / 262144) (l4 * 256) = l3 / 262144 + l4 * 256 := or_sh (l3 / 262144) l4 8 (by omega) (by omega) (by omega) (by omega) (by omega)
  clear hb2
  go_wp2_with (first
    | (refine store_arr rfl 79 (.tmp 3) (.tmp 41) rfl w.heap.size .u64 [l0, l1, l2, l3, l4] rfl rfl 79 5 _ HX2.out size79 hS5.out (by rw [nums_length]; exact HA1L.out) ?_; intro w3 hX3 hg3
       have HX3 := Aside0.mk hX3
       have HB3 := Aside0.mk (HB2.out.grown hg3 HB2.out.size (fun k hk => by cases hk; exact Nat.le_refl _))
       have HG3 := Aside0.mk (HG.out.below HB3.out)
       have q0 : w3.cell? ⟨w.heap.size, 0, none⟩ = some (.int .u64 l0) := Blk.cell hX3 0
       have q1 : w3.cell? ⟨w.heap.size, 1, none⟩ = some (.int .u64 l1) := Blk.cell hX3 1
       have q2 : w3.cell? ⟨w.heap.size, 2, none⟩ = some (.int .u64 l2) := Blk.cell hX3 2
       have q3 : w3.cell? ⟨w.heap.size, 3, none⟩ = some (.int .u64 l3) := Blk.cell hX3 3
       have q4 : w3.cell? ⟨w.heap.size, 4, none⟩ = some (.int .u64 l4) := Blk.cell hX3 4
       clear hX3 hg3))
  obtain ⟨W, HWD⟩ : ∃ z, Aside0 (wordsS [l0, l1, l2, l3, l4] = z) := ⟨_, ⟨rfl⟩⟩
  have hwd : Aside0 (W = [l0 + l1 * 67108864, l1 / 64 + l2 * 1048576, l2 / 4096 + l3 * 16384, l3 / 262144 + l4 * 256]) := ⟨by rw [← HWD.out]; rfl⟩
  have hwb : Aside0 (∀ i, 0 ≤ W.getD i 0 ∧ W.getD i 0 < 18446744073709551616) := ⟨by
    intro i
    rw [hwd.out]
    have hi : i = 0 ∨ i = 1 ∨ i = 2 ∨ i = 3 ∨ 4 ≤ i := by omega
    rcases hi with rfl | rfl | rfl | rfl | hi
    all_goals first
      | (simp; omega)
      | (rw [List.getD_eq_getElem?_getD, List.getElem?_eq_none (by simpa using hi)]; simp)⟩
  rw [HWD.out] at htg
  have hbe : Aside0 (∀ t, 0 ≤ (tgS W s t).2 ∧ (tgS W s t).2 < 4294967296) := ⟨by
    intro t
    induction t with
    | zero => exact ⟨Int.le_refl _, by show (0 : Int) < _; decide⟩
    | succ t ih =>
      have h1 := hwb.out t
      have h2 := getD_isW HSW.out t
      simp only [tgS]
      omega⟩
  have hB4 := HB3.out.alloc HB3.out.size (.cells #[.int .u64 (l0 + l1 * 67108864), .int .u64 (l1 / 64 + l2 * 1048576), .int .u64 (l2 / 4096 + l3 * 16384), .int .u64 (l3 / 262144 + l4 * 256)] 81)
  generalize hW4 : w3.alloc _ = w4 at hB4 ⊢
  clear hW4
  have hagg : #[Value.int .u64 (l0 + l1 * 67108864), .int .u64 (l1 / 64 + l2 * 1048576), .int .u64 (l2 / 4096 + l3 * 16384), .int .u64 (l3 / 262144 + l4 * 256)] = (nums .u64 W).toArray := by rw [hwd.out]; rfl
  rw [hagg]
  go_loopw [71, 6, 7] (fun i v u wr => ∃ (t : Nat) (vv : Value), t ≤ 4 ∧ i = .int .i64 t ∧ vv = v ∧ u = .int .u64 (tgS W s t).2 ∧ Aside0 (Ow wr w.heap.size vv (tgS W s t).1) ∧ Below w.heap.size w wr) (fun i _ _ _ => 4 - (intOf i).toNat)
  case atStart => exact ⟨0, _, by omega, rfl, rfl, rfl, ⟨Kd.R_nil _ _ _ _ _⟩, hB4⟩
  case round =>
    clear hB4
    obtain ⟨t, vv, ht, rfl, rfl, rfl, hO, hB⟩ := hrel
    by_cases hlt : t < 4
    · have hlt' : (t : Int) < 4 := by omega
      have hGw := HG.out.below hB
      have ks : wr.cell? ⟨g, 10 + t, none⟩ = some (.int .u64 (s.getD t 0)) := (Blk.cell hGw (10 + t)).trans (adr_get_s HR.out HA.out t (by rw [HS.out]; exact hlt))
      have hx := hwb.out t
      have hy := getD_isW HSW.out t
      have hc := hbe.out t
      have hol : Aside0 ((tgS W s t).1.length = 4 * t) := ⟨tgS_length W s t⟩
      have hix := index4 W (by rw [hwd.out]; rfl) t hlt
      have hn1 : Aside0 ((tgS W s (t + 1)).1 = (tgS W s t).1 ++ storeW (((tgS W s t).2 + (W.getD t 0 % 4294967296 + s.getD t 0)) % 4294967296) true) := ⟨rfl⟩
      have hn2 : Aside0 ((tgS W s (t + 1)).2 = ((tgS W s t).2 + (W.getD t 0 % 4294967296 + s.getD t 0)) / 4294967296) := ⟨rfl⟩
      generalize W.getD t 0 = x at *
      generalize s.getD t 0 = y at *
      generalize (tgS W s t).2 = cc at *
      generalize (tgS W s t).1 = oo at *
      have e1 := and32 x hx.1 hx.2
      have e2 : (x % 4294967296 + y) % 18446744073709551616 = x % 4294967296 + y := by omega
      have e3 : (cc + (x % 4294967296 + y)) % 18446744073709551616 = cc + (x % 4294967296 + y) := by omega
      clear hGw
      go_wp2_with fail
      refine (Store_c (a := (cc + (x % 4294967296 + y)) % 4294967296) (by omega) (by omega) true).mono ?_
      rintro z w5 ⟨v5, rfl, ho5, hb5⟩
      obtain ⟨A5, c5, rfl, hr5⟩ := rd_of_own ho5
      have HO5 := Aside0.mk (Kd.R_below hO.out hb5)
      have HB5 := Aside0.mk (below_next hB hb5)
      have HR5 := Aside0.mk hr5
      have e4 : shr .u64 (cc + (x % 4294967296 + y)) 32 = (cc + (x % 4294967296 + y)) / 4294967296 := shr_var64 _ 32 (by omega)
      clear ho5 hb5 hr5 ks hix
      go_wp2_with (first
        | (refine append_ow (w0 := w) w.heap.size rfl (.tmp 86) (.tmp 89) rfl vv oo (storeW ((cc + (x % 4294967296 + y)) % 4294967296) true) A5 _ c5 rfl rfl HO5.out HR5.out HB5.out HB5.out.size (by rw [hol.out, storeW_length]; omega) ?_; intro v6 w6 ho6 hb6 hg6 ha6; have HO6 := Aside0.mk ho6; have HB6 := Aside0.mk hb6; clear ho6 hb6 hg6 ha6))
      have HN : Aside0 (Ow w6 w.heap.size v6 (tgS W s (t + 1)).1) := ⟨by rw [hn1.out]; exact HO6.out⟩
      go_roundw
      case rel => exact ⟨t + 1, v6, by omega, by go_num, rfl, by rw [hn2.out], HN, HB6.out⟩
      case measure => simp [intOf]; omega
    · have hge : ¬ (t : Int) < 4 := by omega
      obtain rfl : t = 4 := by omega
      have hfin : Aside0 (Ow wr w.heap.size vv (tagS a1 s)) := ⟨by rw [htg.out]; exact hO.out⟩
      clear hO
      go_wp2_with fail
      go_ret
      rw [HZZ.out, HA1.out]
      exact ⟨_, rfl, hfin.out, hB⟩
theorem endS_nil {r b : List Int} (h : rest16 b = []) : endS r b = gone r b := by unfold endS; rw [if_pos h]
theorem endS_more {r b : List Int} (h : rest16 b ≠ []) : endS r b = takeS (gone r b) r (readS (padB (rest16 b)) 0) := by unfold endS; rw [if_neg h]
/-- The tag of all that was added. -/
theorem Tag_c {base g : Nat} {v : Value} {r s b : List Int} {w : World} (hS : St w base g v r s b) :
    Calls Try.prog 31 #[.pointer (some ⟨g, 0, none⟩)] w fun e w' => ∃ v', e = .returned v' ∧ Ow w' w.heap.size v' (tagS (endS r b) s) ∧ Below w.heap.size w w' := by
  obtain ⟨hge, hbB, hrl5, hrb, hsl4, hsw, hblk, htail⟩ := hS
  obtain ⟨A, c, rfl, hr⟩ := htail.rd
  have hlow := gone_low hrl5 hrb hbB
  have hlen := rest16_length b
  by_cases h : rest16 b = []
  · rw [endS_nil h]
    rw [h] at hblk
    exact Tag_0 hblk hrl5 hlow.length hsl4 hlow.isL hsw
  · rw [endS_more h]
    have h3 : 0 < (rest16 b).length := List.length_pos_iff.2 h
    exact Tag_1 hblk hrl5 hrb hlow.length hsl4 hlow hsw hr (rest_isB hbB) h3 (by omega)
theorem New_St {A : Option Addr} {c : Nat} {k : List Int} {w : World} (hk : Rd w A 32 c k) (bk : IsB k) :
    Calls Try.prog 29 #[.slice A 32 c] w fun e w' => ∃ g, e = .returned (.tuple #[.pointer (some ⟨g, 0, none⟩), .int .i64 0]) ∧ St w' w.heap.size g (.slice none 0 0) (rK k) (sK k) [] ∧ Below w.heap.size w w' := by
  have hl : k.length = 32 := hk.len
  have h4 : (sK k).length = 4 := ws_length 4 _ (by rw [List.length_drop, hl])
  have hw4 : IsW (sK k) := ws_isW 4 _ (by rw [List.length_drop, hl]) (fun x hx => bk x (List.mem_of_mem_drop hx))
  refine (New_c hk bk).mono ?_
  rintro e w' ⟨g, rfl, hg0, hg, hB⟩
  exact ⟨g, rfl, ⟨hg0, (by intro x hx; cases hx), readS_length _ _, rK_bd bk, h4, hw4, hg, Qw.nil _ _⟩, hB⟩
end Go.Proofs.Ytkjmjgiklelpiaa.OtJ
