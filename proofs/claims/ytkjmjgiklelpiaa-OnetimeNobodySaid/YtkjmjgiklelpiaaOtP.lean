/- Adder.Tag, walked. -/
import Derived.Test.YtkjmjgiklelpiaaApp
import Derived.Test.YtkjmjgiklelpiaaQuart
import Derived.Test.YtkjmjgiklelpiaaPlainCipherBlocks
import Derived.Deep.RegionHeld3
import Derived.Deep.Cut
import Derived.Deep.CutRange
import Derived.Test.YtkjmjgiklelpiaaOtO
import Derived.Test.YtkjmjgiklelpiaaCiL
namespace Go.Proofs.Ytkjmjgiklelpiaa.OtP
open Go.RowKit Go.Proofs.YtkjmjgiklelpiaaW.PrintWords Go.Proofs.Ytkjmjgiklelpiaa.Num Go.Proofs.Ytkjmjgiklelpiaa.WordC Go.Proofs.Ytkjmjgiklelpiaa.Arr Go.Proofs.Ytkjmjgiklelpiaa.App Go.Proofs.Ytkjmjgiklelpiaa.CiC Go.Proofs.Ytkjmjgiklelpiaa.CiD Go.Proofs.Ytkjmjgiklelpiaa.OtC Go.Proofs.Ytkjmjgiklelpiaa.OtR Go.Proofs.Ytkjmjgiklelpiaa.OtL Go.Proofs.Ytkjmjgiklelpiaa.OtM Go.Proofs.Ytkjmjgiklelpiaa.OtT Go.Proofs.Ytkjmjgiklelpiaa.OtV Go.Proofs.Ytkjmjgiklelpiaa.OtK Go.Proofs.Ytkjmjgiklelpiaa.OtN Go.Proofs.Ytkjmjgiklelpiaa.OtO
set_option linter.unusedVariables false
set_option linter.unusedSimpArgs false

theorem or_sh (x y : Int) (k : Nat) (hk : k ≤ 64) (h0 : 0 ≤ x) (h1 : x < 2 ^ k) (h2 : 0 ≤ y) (h3 : y * 2 ^ k < 18446744073709551616) : Go.bits .or .u64 x (y * 2 ^ k) = x + y * 2 ^ k := by
  obtain ⟨X, rfl⟩ := Int.eq_ofNat_of_zero_le h0
  obtain ⟨Y, rfl⟩ := Int.eq_ofNat_of_zero_le h2
  have e : (Y : Int) * 2 ^ k = ((2 ^ k * Y : Nat) : Int) := by push_cast; rw [Int.mul_comm]
  rw [e] at h3 ⊢
  have hX : X < 2 ^ k := by exact_mod_cast h1
  have h := Nat.two_pow_add_eq_or_of_lt (i := k) (b := X) hX Y
  have hlt : 2 ^ k * Y < 18446744073709551616 := by
    generalize 2 ^ k * Y = Z at h3
    omega
  have hp : (2 : Nat) ^ k ≤ 18446744073709551616 := Nat.pow_le_pow_right (n := 2) (by omega) hk
  have hX2 : X < 18446744073709551616 := Nat.lt_of_lt_of_le hX hp
  rw [u64_or_nat X _ hX2 hlt, Nat.or_comm, ← h, Int.natCast_add, Int.add_comm]
/-- The four words of a number in limbs. -/
def wordsS (l : List Int) : List Int := [l.getD 0 0 + l.getD 1 0 * 67108864, l.getD 1 0 / 64 + l.getD 2 0 * 1048576, l.getD 2 0 / 4096 + l.getD 3 0 * 16384, l.getD 3 0 / 262144 + l.getD 4 0 * 256]
/-- The tag's bytes, word by word, and the carry. -/
def tgS (W s : List Int) : Nat → List Int × Int
  | 0 => ([], 0)
  | i + 1 => ((tgS W s i).1 ++ storeW (((tgS W s i).2 + (W.getD i 0 % 4294967296 + s.getD i 0)) % 4294967296) true, ((tgS W s i).2 + (W.getD i 0 % 4294967296 + s.getD i 0)) / 4294967296)
def tagS (a s : List Int) : List Int := (tgS (wordsS (leastS a)) s 4).1
theorem range_adr_a {w : World} {g : Nat} {r a s : List Int} {v : Value} (h : Blk w g 83 (adr r a s v)) (hr : r.length = 5) : w.rangeAt g 5 (nums .u64 a) := fun j u hj => by
  have hj1 : j < a.length := by have := (List.getElem?_eq_some_iff.1 hj).1; rwa [nums_length] at this
  rw [Blk.cell h]
  unfold adr
  rw [List.getElem?_append_left (by simp [nums_length, hr]; omega), List.getElem?_append_left (by simp [nums_length, hr]; omega), List.getElem?_append_right (by simp [nums_length, hr]), nums_length, hr, show 5 + j - 5 = j by omega]
  exact hj
theorem adr_tail {r a s : List Int} {v : Value} (hr : r.length = 5) (ha : a.length = 5) (hs : s.length = 4) : (adr r a s v)[14]? = some v := by
  unfold adr
  rw [List.getElem?_append_right (by simp [nums_length, hr, ha, hs])]
  simp [nums_length, hr, ha, hs]
theorem tgS_length (W s : List Int) (t : Nat) : (tgS W s t).1.length = 4 * t := by
  induction t with
  | zero => rfl
  | succ t ih => simp only [tgS]; rw [List.length_append, ih, storeW_length]; omega
theorem and32 (x : Int) (h0 : 0 ≤ x) (h1 : x < 18446744073709551616) : Go.bits .and .u64 x 4294967295 = x % 4294967296 := by
  rw [u64_and x 4294967295 h0 h1 (by decide) (by decide)]
  obtain ⟨X, rfl⟩ := Int.eq_ofNat_of_zero_le h0
  rw [Int.toNat_natCast, show (4294967295 : Int).toNat = 2 ^ 32 - 1 from rfl, Nat.and_two_pow_sub_one_eq_mod]; rfl
theorem infoU64 : (Try.prog.info? 36).map (·.size) = some 1 := by kernel_rfl
theorem index4 (l : List Int) (hl : l.length = 4) (t : Nat) (ht : t < 4) (w : World) : (Instr.index 81 (.agg (nums .u64 l).toArray) (.int .i64 t)).run Try.prog w = .ok (.int .u64 (l.getD t 0)) w := by
  obtain ⟨i, hi, hz⟩ := Option.map_eq_some_iff.1 infoU64
  have hn : (0 : Int) ≤ (t : Int) ∧ (t : Int) < 4 := by omega
  have hk := nums_get .u64 l t (by omega)
  have hg : (isAgg 36).run Try.prog w = .ok false w := by
    unfold isAgg
    rw [Sem.run_bind, run_underlying Try.underlying36]
    rfl
  simp [Instr.index, run_underlying Try.underlying81, asIntOf, hn, go_sem, Go.sizeOf, typeInfo, hi, hz, ht, hg, hk]
set_option maxHeartbeats 8000000 in
set_option maxRecDepth 100000 in
theorem Tag_0 {g c : Nat} {A : Option Addr} {r a s : List Int} {w : World} (hg : Blk w g 83 (adr r a s (.slice A 0 c))) (hr : r.length = 5) (ha : a.length = 5) (hs : s.length = 4) (hal : IsL a) (hsw : IsW s) :
    Calls Try.prog 31 #[.pointer (some ⟨g, 0, none⟩)] w fun e w' => ∃ v, e = .returned v ∧ Ow w' w.heap.size v (tagS a s) ∧ Below w.heap.size w w' := by
  have HG := Aside0.mk hg
  have HR := Aside0.mk hr
  have HA := Aside0.mk ha
  have HS := Aside0.mk hs
  have HAL := Aside0.mk hal
  have HSW := Aside0.mk hsw
  have hglt := Blk.lt hg
  have HRA := Aside0.mk (range_adr_a hg hr)
  have k14 : w.cell? ⟨g, 14, none⟩ = some (.slice A 0 c) := (Blk.cell hg 14).trans (adr_tail hr ha hs)
  have hi : Aside0 ((Try.prog.info? 79).map (·.size) = some (nums .u64 a).length) := ⟨by rw [nums_length, ha]; exact size79⟩
  clear hg hr ha hs hal hsw
  go_enter Try.func31, Try.ntmps31
  go_wp2_with (first
    | (refine wpList_load_mid rfl 79 (.tmp 14) rfl g 5 rfl (nums .u64 a) _ HRA.out Try.underlying79 rfl hi.out ?_)
    | (have HZ0 : Aside0 (Blk (w.alloc (.cells (nums .u64 (List.replicate 5 0)).toArray 79)) w.heap.size 79 (nums .u64 (List.replicate 5 0))) := ⟨heap_alloc_new _ _⟩
       have HB0 := Aside0.mk ((Below.refl w.heap.size w).alloc (Nat.le_refl _) (.cells (nums .u64 (List.replicate 5 0)).toArray 79))
       refine store_arr rfl 79 (.tmp 3) (.tmp 15) rfl w.heap.size .u64 a rfl rfl 79 5 _ HZ0.out size79 HA.out (by rw [nums_length]; rfl) ?_; intro w1 hX1 hg1
       have HX1 := Aside0.mk hX1
       have HB1 := Aside0.mk (HB0.out.grown hg1 HB0.out.size (fun k hk => by cases hk; exact Nat.le_refl _))
       have k14' : w1.cell? ⟨g, 14, none⟩ = some (.slice A 0 c) := (HB1.out.cell (p := ⟨g, 14, none⟩) hglt).trans k14
       clear hX1 hg1)
    | (refine load_arr rfl 79 (.tmp 3) rfl w.heap.size rfl 79 .u64 a 5 36 HX1.out Try.underlying79 size79 HA.out ?_))
  refine (least_c HA.out HAL.out).mono ?_
  rintro x w2 ⟨rfl, hb2⟩
  have hlv := (least_val HA.out HAL.out).1
  have htg : Aside0 (tagS a s = (tgS (wordsS (leastS a)) s 4).1) := ⟨rfl⟩
  obtain ⟨S, HSS⟩ : ∃ z, Aside0 (leastS a = z) := ⟨_, ⟨rfl⟩⟩
  rw [HSS.out] at hlv htg ⊢
  have HX2 := Aside0.mk (HX1.out.below hb2)
  have HB2 := Aside0.mk (below_next HB1.out hb2)
  have HG2 := Aside0.mk (HG.out.below HB2.out)
  obtain ⟨l0, l1, l2, l3, l4, rfl, b0, b1, b2, b3, b4⟩ := hlv
  have hS5 : Aside0 (([l0, l1, l2, l3, l4] : List Int).length = 5) := ⟨rfl⟩
  have o1 : Go.bits .or .u64 l0 (l1 * 67108864) = l0 + l1 * 67108864 := or_sh l0 l1 26 (by omega) (by omega) (by omega) (by omega) (by omega)
  have o2 : Go.bits .or .u64 (l1 / 64) (l2 * 1048576) = l1 / 64 + l2 * 1048576 := or_sh (l1 / 64) l2 20 (by omega) (by omega) (by omega) (by omega) (by omega)
  have o3 : Go.bits .or .u64 (l2 / 4096) (l3 * 16384) = l2 / 4096 + l3 * 16384 := or_sh (l2 / 4096) l3 14 (by omega) (by omega) (by omega) (by omega) (by omega)
  have o4 : Go.bits .or .u64 (l3 / 262144) (l4 * 256) = l3 / 262144 + l4 * 256 := or_sh (l3 / 262144) l4 8 (by omega) (by omega) (by omega) (by omega) (by omega)
  clear hb2 k14
  go_wp2_with (first
    | (refine store_arr rfl 79 (.tmp 3) (.tmp 41) rfl w.heap.size .u64 [l0, l1, l2, l3, l4] rfl rfl 79 5 _ HX2.out size79 hS5.out (by rw [nums_length]; exact HA.out) ?_; intro w3 hX3 hg3
       have HX3 := Aside0.mk hX3
       have HB3 := Aside0.mk (HB2.out.grown hg3 HB2.out.size (fun k hk => by cases hk; exact Nat.le_refl _))
       have HG3 := Aside0.mk (HG.out.below HB3.out)
       have q0 : w3.cell? ⟨w.heap.size, 0, none⟩ = some (.int .u64 l0) := Blk.cell hX3 0
       have q1 : w3.cell? ⟨w.heap.size, 1, none⟩ = some (.int .u64 l1) := Blk.cell hX3 1
       have q2 : w3.cell? ⟨w.heap.size, 2, none⟩ = some (.int .u64 l2) := Blk.cell hX3 2
       have q3 : w3.cell? ⟨w.heap.size, 3, none⟩ = some (.int .u64 l3) := Blk.cell hX3 3
       have q4 : w3.cell? ⟨w.heap.size, 4, none⟩ = some (.int .u64 l4) := Blk.cell hX3 4
       clear hX3 hg3))
  obtain ⟨W, HWD⟩ : ∃ z, Aside0 (wordsS [l0, l1, l2, l3, l4] = z) := ⟨_, ⟨rfl⟩⟩
  have hwd : Aside0 (W = [l0 + l1 * 67108864, l1 / 64 + l2 * 1048576, l2 / 4096 + l3 * 16384, l3 / 262144 + l4 * 256]) := ⟨by rw [← HWD.out]; rfl⟩
  have hwb : Aside0 (∀ i, 0 ≤ W.getD i 0 ∧ W.getD i 0 < 18446744073709551616) := ⟨by
    intro i
    rw [hwd.out]
    have hi : i = 0 ∨ i = 1 ∨ i = 2 ∨ i = 3 ∨ 4 ≤ i := by omega
    rcases hi with rfl | rfl | rfl | rfl | hi
    all_goals first
      | (simp; omega)
      | (rw [List.getD_eq_getElem?_getD, List.getElem?_eq_none (by simpa using hi)]; simp)⟩
  rw [HWD.out] at htg
  have hbe : Aside0 (∀ t, 0 ≤ (tgS W s t).2 ∧ (tgS W s t).2 < 4294967296) := ⟨by
    intro t
    induction t with
    | zero => exact ⟨Int.le_refl _, by show (0 : Int) < _; decide⟩
    | succ t ih =>
      have h1 := hwb.out t
      have h2 := getD_isW HSW.out t
      simp only [tgS]
      omega⟩
  have hB4 := HB3.out.alloc HB3.out.size (.cells #[.int .u64 (l0 + l1 * 67108864), .int .u64 (l1 / 64 + l2 * 1048576), .int .u64 (l2 / 4096 + l3 * 16384), .int .u64 (l3 / 262144 + l4 * 256)] 81)
  generalize hW4 : w3.alloc _ = w4 at hB4 ⊢
  clear hW4
  have hagg : #[Value.int .u64 (l0 + l1 * 67108864), .int .u64 (l1 / 64 + l2 * 1048576), .int .u64 (l2 / 4096 + l3 * 16384), .int .u64 (l3 / 262144 + l4 * 256)] = (nums .u64 W).toArray := by rw [hwd.out]; rfl
  rw [hagg]
  go_loopw [71, 6, 7] (fun i v u wr => ∃ (t : Nat) (vv : Value), t ≤ 4 ∧ i = .int .i64 t ∧ vv = v ∧ u = .int .u64 (tgS W s t).2 ∧ Aside0 (Ow wr w.heap.size vv (tgS W s t).1) ∧ Below w.heap.size w wr) (fun i _ _ _ => 4 - (intOf i).toNat)
  case atStart => exact ⟨0, _, by omega, rfl, rfl, rfl, ⟨Kd.R_nil _ _ _ _ _⟩, hB4⟩
  case round =>
    clear hB4
    obtain ⟨t, vv, ht, rfl, rfl, rfl, hO, hB⟩ := hrel
    by_cases hlt : t < 4
    · have hlt' : (t : Int) < 4 := by omega
      have hGw := HG.out.below hB
      have ks : wr.cell? ⟨g, 10 + t, none⟩ = some (.int .u64 (s.getD t 0)) := (Blk.cell hGw (10 + t)).trans (adr_get_s HR.out HA.out t (by rw [HS.out]; exact hlt))
      have hx := hwb.out t
      have hy := getD_isW HSW.out t
      have hc := hbe.out t
      have hol : Aside0 ((tgS W s t).1.length = 4 * t) := ⟨tgS_length W s t⟩
      have hix := index4 W (by rw [hwd.out]; rfl) t hlt
      have hn1 : Aside0 ((tgS W s (t + 1)).1 = (tgS W s t).1 ++ storeW (((tgS W s t).2 + (W.getD t 0 % 4294967296 + s.getD t 0)) % 4294967296) true) := ⟨rfl⟩
      have hn2 : Aside0 ((tgS W s (t + 1)).2 = ((tgS W s t).2 + (W.getD t 0 % 4294967296 + s.getD t 0)) / 4294967296) := ⟨rfl⟩
      generalize W.getD t 0 = x at *
      generalize s.getD t 0 = y at *
      generalize (tgS W s t).2 = cc at *
      generalize (tgS W s t).1 = oo at *
      have e1 := and32 x hx.1 hx.2
      have e2 : (x % 4294967296 + y) % 18446744073709551616 = x % 4294967296 + y := by omega
      have e3 : (cc + (x % 4294967296 + y)) % 18446744073709551616 = cc + (x % 4294967296 + y) := by omega
      clear hGw
      go_wp2_with fail
      refine (Store_c (a := (cc + (x % 4294967296 + y)) % 4294967296) (by omega) (by omega) true).mono ?_
      rintro z w5 ⟨v5, rfl, ho5, hb5⟩
      obtain ⟨A5, c5, rfl, hr5⟩ := rd_of_own ho5
      have HO5 := Aside0.mk (Kd.R_below hO.out hb5)
      have HB5 := Aside0.mk (below_next hB hb5)
      have HR5 := Aside0.mk hr5
      have e4 : shr .u64 (cc + (x % 4294967296 + y)) 32 = (cc + (x % 4294967296 + y)) / 4294967296 := shr_var64 _ 32 (by omega)
      clear ho5 hb5 hr5 ks hix
      go_wp2_with (first
        | (refine append_ow (w0 := w) w.heap.size rfl (.tmp 86) (.tmp 89) rfl vv oo (storeW ((cc + (x % 4294967296 + y)) % 4294967296) true) A5 _ c5 rfl rfl HO5.out HR5.out HB5.out HB5.out.size (by rw [hol.out, storeW_length]; omega) ?_; intro v6 w6 ho6 hb6 hg6 ha6; have HO6 := Aside0.mk ho6; have HB6 := Aside0.mk hb6; clear ho6 hb6 hg6 ha6))
      have HN : Aside0 (Ow w6 w.heap.size v6 (tgS W s (t + 1)).1) := ⟨by rw [hn1.out]; exact HO6.out⟩
      go_roundw
      case rel => exact ⟨t + 1, v6, by omega, by go_num, rfl, by rw [hn2.out], HN, HB6.out⟩
      case measure => simp [intOf]; omega
    · have hge : ¬ (t : Int) < 4 := by omega
      obtain rfl : t = 4 := by omega
      have hfin : Aside0 (Ow wr w.heap.size vv (tagS a s)) := ⟨by rw [htg.out]; exact hO.out⟩
      clear hO
      go_wp2_with fail
      go_ret
      exact ⟨_, rfl, hfin.out, hB⟩
end Go.Proofs.Ytkjmjgiklelpiaa.OtP
