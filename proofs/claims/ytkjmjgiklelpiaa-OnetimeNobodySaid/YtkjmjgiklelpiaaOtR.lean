/- onetime.read, walked. -/
import Derived.Test.YtkjmjgiklelpiaaApp
import Derived.Test.YtkjmjgiklelpiaaQuart
import Derived.Test.YtkjmjgiklelpiaaPlainCipherBlocks
import Derived.Deep.RegionHeld3
import Derived.Deep.Cut
import Derived.Deep.CutRange
import Derived.Test.YtkjmjgiklelpiaaOtC
namespace Go.Proofs.Ytkjmjgiklelpiaa.OtR
open Go.RowKit Go.Proofs.YtkjmjgiklelpiaaW.PrintWords Go.Proofs.Ytkjmjgiklelpiaa.Num Go.Proofs.Ytkjmjgiklelpiaa.WordC Go.Proofs.Ytkjmjgiklelpiaa.Arr Go.Proofs.Ytkjmjgiklelpiaa.App Go.Proofs.Ytkjmjgiklelpiaa.CiC Go.Proofs.Ytkjmjgiklelpiaa.OtC
set_option linter.unusedVariables false
set_option linter.unusedSimpArgs false

/-- The word at place 3*i, cut to its 26 bits. -/
def limb (b : List Int) (i : Nat) : Int := (loadW ((b.take (3 * i + 4)).drop (3 * i)) true).1 / 2 ^ (2 * i) % 67108864
def rdT (b : List Int) : Nat → List Int
  | 0 => [0, 0, 0, 0, 0]
  | i + 1 => (rdT b i).set i (limb b i)
def readS (b : List Int) (top : Int) : List Int := (rdT b 4).set 4 ((loadW ((b.take 16).drop 12) true).1 / 256 + top * 16777216)
theorem rdT_length (b : List Int) (i : Nat) : (rdT b i).length = 5 := by
  induction i with
  | zero => rfl
  | succ i ih => simp [rdT, ih]
theorem shr_var64 (x : Int) (n : Nat) (hn : n ≤ 64) : shr .u64 x (n : Int) = x / 2 ^ n := by
  unfold shr
  rw [show min ((n : Int)).toNat IntKind.u64.bits = n from by simp [IntKind.bits]; omega]
theorem or24 (x top : Int) (h0 : 0 ≤ x) (h1 : x < 16777216) (ht : top = 0 ∨ top = 1) : Go.bits .or .u64 x (top * 16777216) = x + top * 16777216 := by
  obtain ⟨X, rfl⟩ := Int.eq_ofNat_of_zero_le h0
  rcases ht with rfl | rfl
  · rw [show (0 : Int) * 16777216 = ((0 : Nat) : Int) from rfl, u64_or_nat X 0 (by omega) (by omega)]; simp
  · rw [show (1 : Int) * 16777216 = ((16777216 : Nat) : Int) from rfl, u64_or_nat X 16777216 (by omega) (by omega)]
    have h := Nat.two_pow_add_eq_or_of_lt (i := 24) (b := X) (by omega) 1
    rw [Nat.or_comm, show (16777216 : Nat) = 2 ^ 24 * 1 from rfl, ← h]; omega
set_option maxHeartbeats 8000000 in
set_option maxRecDepth 100000 in
theorem read_c {A : Option Addr} {c : Nat} {b : List Int} {n : Nat} {top : Int} {w : World} (hr : Rd w A n c b) (hn : 16 ≤ n) (hb : IsB b) (ht : top = 0 ∨ top = 1) :
    Calls Try.prog 53 #[.slice A n c, .int .u64 top] w fun e w' => e = .returned (.agg (nums .u64 (readS b top)).toArray) ∧ Below w.heap.size w w' := by
  have HR := Aside0.mk hr
  clear hr
  go_enter Try.func53, Try.ntmps53
  go_wp2_with fail
  generalize hW : (w.alloc _).alloc _ = W0
  have hX : Aside0 (Blk W0 (w.heap.size + 1) 79 (nums .u64 (rdT b 0))) := ⟨by rw [← hW]; exact heap_alloc2_new _ _ _⟩
  have hY : Aside0 (Blk W0 w.heap.size 79 (nums .u64 (List.replicate 5 0))) := ⟨by rw [← hW]; exact heap_alloc2_old _ _ _⟩
  have hB : Below w.heap.size w W0 := by rw [← hW]; exact ((Below.refl _ w).alloc (Nat.le_refl _) _).alloc (by simp) _
  clear hW
  go_loopw [11] (fun i wr => ∃ t : Nat, t ≤ 4 ∧ i = .int .i64 t ∧ Aside0 (Blk wr (w.heap.size + 1) 79 (nums .u64 (rdT b t))) ∧ Aside0 (Blk wr w.heap.size 79 (nums .u64 (List.replicate 5 0))) ∧ Below w.heap.size w wr) (fun i _ => 4 - (intOf i).toNat)
  case atStart => exact ⟨0, by omega, rfl, hX, hY, hB⟩
  case round =>
    clear hX hY hB
    obtain ⟨t, htt, rfl, hX, hY, hB⟩ := hrel
    by_cases hlt : t < 4
    · have hlt' : (t : Int) < 4 := by omega
      obtain ⟨A', c', hcut, hrd⟩ := rd_slice (HR.out.below hB) (3 * t) (3 * t + 4) (x := 3 * (t : Int)) (y := 3 * (t : Int) + 4) (by omega) (by omega) (by omega) (by omega)
      rw [show 3 * t + 4 - 3 * t = 4 by omega] at hcut hrd
      have hI : IsB ((b.take (3 * t + 4)).drop (3 * t)) := fun x hx => hb x (List.mem_of_mem_take (List.mem_of_mem_drop hx))
      go_wp2_with fail
      refine (Load_c hrd hI true).mono ?_
      rintro x w2 ⟨rfl, ⟨n2, rfl⟩⟩
      have hlr := load_range hI true
      have hlim : Aside0 (limb b t = (loadW ((b.take (3 * t + 4)).drop (3 * t)) true).1 / 2 ^ (2 * t) % 67108864) := ⟨rfl⟩
      generalize (loadW ((b.take (3 * t + 4)).drop (3 * t)) true).1 = x at *
      have f0 := blk_num hX.out t (by rw [rdT_length]; omega)
      have f1 := Blk.frozen hX.out t
      have i5 : (t : Int) < 5 := by omega
      have p0 : (0 : Int) ≤ 2 * (t : Int) := by omega
      have e1 : x % 18446744073709551616 = x := by omega
      have e2 : shr .u64 x (2 * (t : Int)) = x / 2 ^ (2 * t) := by
        have := shr_var64 x (2 * t) (by omega)
        rw [show (2 * (t : Int)) = ((2 * t : Nat) : Int) by omega]; exact this
      have e3 : Go.bits .and .u64 (x / 2 ^ (2 * t)) 67108863 = x / 2 ^ (2 * t) % 67108864 := and26 _ (Int.ediv_nonneg hlr.1 (Int.le_of_lt (Int.pow_pos (by omega)))) (by
        have h1 : x / 2 ^ (2 * t) ≤ x := Int.ediv_le_self _ hlr.1
        omega)
      go_wp2_with fail
      have R1 : Aside0 (Blk ((wr.drewN n2).setCell ⟨w.heap.size + 1, t, none⟩ (.int .u64 (x / 2 ^ (2 * t) % 67108864))) (w.heap.size + 1) 79 (nums .u64 (rdT b (t + 1)))) := ⟨by
        have h1 := CiC.blk_put hX.out t (x / 2 ^ (2 * t) % 67108864)
        rw [show rdT b (t + 1) = (rdT b t).set t (limb b t) from rfl, hlim.out]; exact h1⟩
      have R2 : Aside0 (Blk ((wr.drewN n2).setCell ⟨w.heap.size + 1, t, none⟩ (.int .u64 (x / 2 ^ (2 * t) % 67108864))) w.heap.size 79 (nums .u64 (List.replicate 5 0))) := ⟨Blk.far hY.out (p := ⟨w.heap.size + 1, t, none⟩) (by simp) _⟩
      go_roundw
      case rel => exact ⟨t + 1, by omega, by go_num, R1, R2, (pw_below_drewN hB _).setCell (p := ⟨w.heap.size + 1, t, none⟩) (by simp) _⟩
      case measure => simp [intOf]; omega
    · have hge : ¬ (t : Int) < 4 := by omega
      obtain rfl : t = 4 := by omega
      obtain ⟨A', c', hcut, hrd⟩ := rd_slice (HR.out.below hB) 12 16 (x := 12) (y := 16) (by omega) (by omega) (by omega) (by omega)
      rw [show 16 - 12 = 4 from rfl] at hcut hrd
      have hI : IsB ((b.take 16).drop 12) := fun x hx => hb x (List.mem_of_mem_take (List.mem_of_mem_drop hx))
      go_wp2_with fail
      refine (Load_c hrd hI true).mono ?_
      rintro x w2 ⟨rfl, ⟨n2, rfl⟩⟩
      have hlr := load_range hI true
      have hrs : Aside0 (readS b top = (rdT b 4).set 4 ((loadW ((b.take 16).drop 12) true).1 / 256 + top * 16777216)) := ⟨rfl⟩
      have hcl : Aside0 ((readS b top).length = 5) := ⟨by simp [readS, rdT_length]⟩
      generalize (loadW ((b.take 16).drop 12) true).1 = x at *
      have f0 := blk_num hX.out 4 (by rw [rdT_length]; omega)
      have f1 := Blk.frozen hX.out 4
      have e1 : x % 18446744073709551616 = x := by omega
      have e2 : shr .u64 x 8 = x / 256 := shr_var64 x 8 (by omega)
      have e3 : shl .u64 top 24 = top * 16777216 := by rcases ht with rfl | rfl <;> rfl
      have e4 := or24 (x / 256) top (by omega) (by omega) ht
      obtain ⟨V, HV⟩ : ∃ V, Aside0 (x / 256 + top * 16777216 = V) := ⟨_, ⟨rfl⟩⟩
      rw [HV.out] at e4 hrs
      have HXX : Aside0 (Blk ((wr.drewN n2).setCell ⟨w.heap.size + 1, 4, none⟩ (.int .u64 V)) (w.heap.size + 1) 79 (nums .u64 (readS b top))) := ⟨by rw [hrs.out]; exact CiC.blk_put hX.out 4 V⟩
      have HYY : Aside0 (Blk ((wr.drewN n2).setCell ⟨w.heap.size + 1, 4, none⟩ (.int .u64 V)) w.heap.size 79 (nums .u64 (List.replicate 5 0))) := ⟨Blk.far hY.out (p := ⟨w.heap.size + 1, 4, none⟩) (by simp) _⟩
      have HBB : Aside0 (Below w.heap.size w ((wr.drewN n2).setCell ⟨w.heap.size + 1, 4, none⟩ (.int .u64 V))) := ⟨(pw_below_drewN hB _).setCell (p := ⟨w.heap.size + 1, 4, none⟩) (by simp) _⟩
      obtain ⟨S, HS⟩ : ∃ S, Aside0 (readS b top = S) := ⟨_, ⟨rfl⟩⟩
      rw [HS.out] at HXX hcl
      go_wp2_with (first
        | (refine load_arr rfl 79 (.tmp 5) rfl (w.heap.size + 1) rfl 79 .u64 S 5 36 HXX.out Try.underlying79 size79 hcl.out ?_)
        | (refine store_arr rfl 79 (.tmp 4) (.tmp 47) rfl w.heap.size .u64 S rfl rfl 79 5 _ HYY.out size79 hcl.out (by rw [nums_length]; rfl) ?_; intro w9 hZ hg9; have HZ := Aside0.mk hZ; have HG9 := Aside0.mk hg9; clear hZ hg9))
      refine bodyPost_ret (v := .agg (nums .u64 S).toArray) ?_ rfl ⟨by rw [HS.out], HBB.out.grown HG9.out HBB.out.size (fun k hk => by cases hk; exact Nat.le_refl _)⟩
      exact results_arr (p := 4) (ty := 79) rfl _ w9 w.heap.size 79 5 36 .u64 S rfl HZ.out Try.underlying79 size79 hcl.out
end Go.Proofs.Ytkjmjgiklelpiaa.OtR
