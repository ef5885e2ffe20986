/- onetime.New, walked. -/
import Derived.Test.YtkjmjgiklelpiaaApp
import Derived.Test.YtkjmjgiklelpiaaQuart
import Derived.Test.YtkjmjgiklelpiaaPlainCipherBlocks
import Derived.Deep.RegionHeld3
import Derived.Deep.Cut
import Derived.Deep.CutRange
import Derived.Test.YtkjmjgiklelpiaaOtN
namespace Go.Proofs.Ytkjmjgiklelpiaa.OtO
open Go.RowKit Go.Proofs.YtkjmjgiklelpiaaW.PrintWords Go.Proofs.Ytkjmjgiklelpiaa.Num Go.Proofs.Ytkjmjgiklelpiaa.WordC Go.Proofs.Ytkjmjgiklelpiaa.Arr Go.Proofs.Ytkjmjgiklelpiaa.App Go.Proofs.Ytkjmjgiklelpiaa.CiC Go.Proofs.Ytkjmjgiklelpiaa.CiD Go.Proofs.Ytkjmjgiklelpiaa.OtC Go.Proofs.Ytkjmjgiklelpiaa.OtR Go.Proofs.Ytkjmjgiklelpiaa.OtL Go.Proofs.Ytkjmjgiklelpiaa.OtM Go.Proofs.Ytkjmjgiklelpiaa.OtT Go.Proofs.Ytkjmjgiklelpiaa.OtV Go.Proofs.Ytkjmjgiklelpiaa.OtK Go.Proofs.Ytkjmjgiklelpiaa.OtN
set_option linter.unusedVariables false
set_option linter.unusedSimpArgs false

/-- An Adder's cells: r, what was added, s, what is left over. -/
def adr (r a s : List Int) (v : Value) : List Value := nums .u64 r ++ nums .u64 a ++ nums .u64 s ++ [v]
theorem adr_get_s {r a s : List Int} {v : Value} (hr : r.length = 5) (ha : a.length = 5) (i : Nat) (hi : i < s.length) : (adr r a s v)[10 + i]? = some (.int .u64 (s.getD i 0)) := by
  unfold adr
  rw [List.getElem?_append_left (by simp [nums_length, hr, ha]; omega), List.getElem?_append_right (by simp [nums_length, hr, ha]), List.length_append, nums_length, nums_length, hr, ha, show 10 + i - (5 + 5) = i by omega]
  exact nums_get .u64 s i hi
theorem adr_set_s {r a s : List Int} {v : Value} (hr : r.length = 5) (ha : a.length = 5) (i : Nat) (hi : i < s.length) (x : Int) : (adr r a s v).set (10 + i) (.int .u64 x) = adr r a (s.set i x) v := by
  unfold adr
  rw [List.set_append_left _ _ (by simp [nums_length, hr, ha]; omega), List.set_append_right _ _ (by simp [nums_length, hr, ha]), List.length_append, nums_length, nums_length, hr, ha, show 10 + i - (5 + 5) = i by omega, nums_set]
def sT (l : List Int) (t : Nat) : List Int := l.take t ++ List.replicate (4 - t) 0
theorem sT_length (l : List Int) (hl : l.length = 4) (t : Nat) (ht : t ≤ 4) : (sT l t).length = 4 := by simp [sT, hl]; omega
theorem sT_next (l : List Int) (hl : l.length = 4) (t : Nat) (ht : t < 4) : (sT l t).set t (l.getD t 0) = sT l (t + 1) := by
  match l, hl with
  | [a, b, c, d], _ =>
    have h : t = 0 ∨ t = 1 ∨ t = 2 ∨ t = 3 := by omega
    rcases h with rfl | rfl | rfl | rfl <;> rfl
set_option maxHeartbeats 8000000 in
set_option maxRecDepth 100000 in
theorem New_c {A : Option Addr} {c : Nat} {k : List Int} {w : World} (hk : Rd w A 32 c k) (bk : IsB k) :
    Calls Try.prog 29 #[.slice A 32 c] w fun e w' => ∃ g, e = .returned (.tuple #[.pointer (some ⟨g, 0, none⟩), .int .i64 0]) ∧ w.heap.size ≤ g ∧ Blk w' g 83 (nums .u64 (readS (cutS (k.take 16)) 0) ++ nums .u64 [0, 0, 0, 0, 0] ++ nums .u64 (ws (k.drop 16)) ++ [.slice none 0 0]) ∧ Below w.heap.size w w' := by
  have hmk : ∀ W : World, (Instr.makeSlice 22 (.int .i64 16) (.int .i64 16)).run Try.prog W = .ok (.slice (some ⟨W.heap.size, 0, none⟩) 16 16) (W.alloc (.cells (nums .u8 (List.replicate 16 0)).toArray 5)) := by
    intro W
    have h := print_make (P := Try.prog) 22 5 .u8 1 Try.underlying22 infoB (by omega) 16 (by omega) W
    have e : madeCells #[.int .u8 0] 16 = (nums .u8 (List.replicate 16 0)).toArray := by kernel_rfl
    rw [e] at h; exact h
  have HK := Aside0.mk hk
  have HMK := Aside0.mk hmk
  have hl : k.length = 32 := hk.len
  have HL := Aside0.mk hl
  clear hk hl
  have hX0 : Aside0 (Blk (w.alloc (.cells (nums .u8 (List.replicate 16 0)).toArray 5)) w.heap.size 5 (nums .u8 (List.replicate 16 0))) := ⟨heap_alloc_new _ _⟩
  have hB0 := Aside0.mk ((Below.refl w.heap.size w).alloc (Nat.le_refl _) (.cells (nums .u8 (List.replicate 16 0)).toArray 5))
  have hK0 := Aside0.mk (HK.out.alloc (.cells (nums .u8 (List.replicate 16 0)).toArray 5))
  go_enter Try.func29, Try.ntmps29
  go_wp2_with (first
    | (refine copy_top rfl (.tmp 15) (.tmp 16) 22 22 rfl 5 Try.underlying22 sizeU8 w.heap.size 16 16 A 32 c rfl rfl (nums .u8 (List.replicate 16 0)) 5 hX0.out k hK0.out (by omega) (by omega) (by rw [nums_length]; rfl) ?_; intro w1 hX1 hg1
       have HX1 := Aside0.mk hX1
       have HB1 := Aside0.mk (hB0.out.grown hg1 hB0.out.size (fun k hk => by cases hk; exact Nat.le_refl _))
       clear hX1 hg1))
  have hk16 : IsB (k.take 16) := fun x hx => bk x (List.mem_of_mem_take hx)
  have hl16 : Aside0 ((k.take 16).length = 16) := ⟨by rw [List.length_take, HL.out]; rfl⟩
  have HK16 := Aside0.mk hk16
  have hcut : Aside0 (cutS (k.take 16) = cutB (cutA (k.take 16) 4) 3) := ⟨rfl⟩
  clear hk16
  obtain ⟨b, HBB⟩ : ∃ b, Aside0 (k.take 16 = b) := ⟨_, ⟨rfl⟩⟩
  rw [HBB.out] at hl16 HK16 hcut HX1
  go_loopw [5] (fun i wr => ∃ t : Nat, t ≤ 4 ∧ i = .int .i64 (3 + 4 * (t : Int)) ∧ Aside0 (Blk wr w.heap.size 5 (nums .u8 (cutA b t))) ∧ Below w.heap.size w wr) (fun i _ => 20 - (intOf i).toNat)
  case atStart => exact ⟨0, by omega, rfl, HX1, HB1.out⟩
  case round =>
    clear HX1 HB1
    obtain ⟨t, ht, rfl, hX, hB⟩ := hrel
    by_cases hlt : t < 4
    · have hlt' : 3 + 4 * (t : Int) < 16 := by omega
      have n0 : 0 ≤ 3 + 4 * (t : Int) := by omega
      have n1 : (3 + 4 * (t : Int)).toNat = 3 + 4 * t := by omega
      have kx := blk_num hX.out (3 + 4 * t) (by rw [cutA_length, hl16.out]; omega)
      have fx := Blk.frozen hX.out (3 + 4 * t)
      have hx := getD_isB (cutA_isB HK16.out t) (3 + 4 * t)
      have hnx : Aside0 (cutA b (t + 1) = (cutA b t).set (3 + 4 * t) ((cutA b t).getD (3 + 4 * t) 0 % 16)) := ⟨rfl⟩
      generalize (cutA b t).getD (3 + 4 * t) 0 = x at *
      have e1 := and15 x hx.1 hx.2
      go_wp2_with fail
      have R1 : Aside0 (Blk (wr.setCell ⟨w.heap.size, 3 + 4 * t, none⟩ (.int .u8 (x % 16))) w.heap.size 5 (nums .u8 (cutA b (t + 1)))) := ⟨by rw [hnx.out]; exact CiC.blk_put hX.out _ _⟩
      go_roundw
      case rel => exact ⟨t + 1, by omega, by go_num, R1, hB.setCell (p := ⟨w.heap.size, 3 + 4 * t, none⟩) (Nat.le_refl _) _⟩
      case measure => simp [intOf]; omega
    · have hge : ¬ 3 + 4 * (t : Int) < 16 := by omega
      obtain rfl : t = 4 := by omega
      obtain ⟨b1, HB1⟩ : ∃ z, Aside0 (cutA b 4 = z) := ⟨_, ⟨rfl⟩⟩
      have hl1 : Aside0 ((cutA b 4).length = 16) := ⟨by rw [cutA_length]; exact hl16.out⟩
      have HI1 := Aside0.mk (cutA_isB HK16.out 4)
      rw [HB1.out] at hl1 HI1 hcut hX
      go_wp2_with fail
      go_loopw [6] (fun i wr => ∃ t : Nat, t ≤ 3 ∧ i = .int .i64 (4 + 4 * (t : Int)) ∧ Aside0 (Blk wr w.heap.size 5 (nums .u8 (cutB b1 t))) ∧ Below w.heap.size w wr) (fun i _ => 20 - (intOf i).toNat)
      case atStart => exact ⟨0, by omega, rfl, hX, hB⟩
      case round =>
        clear hX hB
        obtain ⟨t, ht, rfl, hX, hB⟩ := hrel
        by_cases hlt : t < 3
        · have hlt' : 4 + 4 * (t : Int) < 16 := by omega
          have n0 : 0 ≤ 4 + 4 * (t : Int) := by omega
          have n1 : (4 + 4 * (t : Int)).toNat = 4 + 4 * t := by omega
          have kx := blk_num hX.out (4 + 4 * t) (by rw [cutB_length, hl1.out]; omega)
          have fx := Blk.frozen hX.out (4 + 4 * t)
          have hx := getD_isB (cutB_isB HI1.out t) (4 + 4 * t)
          have hnx : Aside0 (cutB b1 (t + 1) = (cutB b1 t).set (4 + 4 * t) ((cutB b1 t).getD (4 + 4 * t) 0 - (cutB b1 t).getD (4 + 4 * t) 0 % 4)) := ⟨rfl⟩
          generalize (cutB b1 t).getD (4 + 4 * t) 0 = x at *
          have e1 := and252 x hx.1 hx.2
          go_wp2_with fail
          have R1 : Aside0 (Blk (wr.setCell ⟨w.heap.size, 4 + 4 * t, none⟩ (.int .u8 (x - x % 4))) w.heap.size 5 (nums .u8 (cutB b1 (t + 1)))) := ⟨by rw [hnx.out]; exact CiC.blk_put hX.out _ _⟩
          go_roundw
          case rel => exact ⟨t + 1, by omega, by go_num, R1, hB.setCell (p := ⟨w.heap.size, 4 + 4 * t, none⟩) (Nat.le_refl _) _⟩
          case measure => simp [intOf]; omega
        · have hge : ¬ 4 + 4 * (t : Int) < 16 := by omega
          obtain rfl : t = 3 := by omega
          have hl2 : (cutB b1 3).length = 16 := by rw [cutB_length]; exact hl1.out
          have hi2 := cutB_isB HI1.out 3
          rw [← hcut.out] at hX hl2 hi2
          obtain ⟨C, HC⟩ : ∃ z, Aside0 (cutS b = z) := ⟨_, ⟨rfl⟩⟩
          rw [HC.out] at hX hl2 hi2
          have hR : Rd wr (some ⟨w.heap.size, 0, none⟩) 16 16 C := by
            have h1 := rd_of_blk hX.out 0 C 16 (by omega) (by omega) (fun j hj => by rw [Nat.zero_add]; exact nums_get .u8 C j hj)
            rwa [hl2] at h1
          have HR := Aside0.mk hR
          have HI2 := Aside0.mk hi2
          clear hl2 hi2 hR
          go_wp2_with fail
          refine (read_c HR.out (by omega) HI2.out (.inl rfl)).mono ?_
          rintro x w2 ⟨rfl, hb2⟩
          have hB2 := below_next hB hb2
          have HB2 := Aside0.mk hB2
          have HK2 := Aside0.mk (HK.out.below hB2)
          clear hB2 hb2 hX
          obtain ⟨R, HRR⟩ : ∃ R, Aside0 (readS C 0 = R) := ⟨_, ⟨rfl⟩⟩
          have hrl : R.length = 5 := by rw [← HRR.out]; simp [readS, rdT_length]
          rw [HRR.out]
          obtain ⟨r0, r1, r2, r3, r4, HRE⟩ : ∃ r0 r1 r2 r3 r4, Aside0 (R = [r0, r1, r2, r3, r4]) := by
            match R, hrl with
            | [r0, r1, r2, r3, r4], _ => exact ⟨r0, r1, r2, r3, r4, ⟨rfl⟩⟩
          rw [HRE.out, show (nums .u64 [r0, r1, r2, r3, r4]).toArray = #[.int .u64 r0, .int .u64 r1, .int .u64 r2, .int .u64 r3, .int .u64 r4] from rfl]
          clear hrl
          go_wp2_with fail
          have hws : (ws (k.drop 16)).length = 4 := ws_length 4 _ (by rw [List.length_drop, HL.out])
          have HWS := Aside0.mk hws
          clear hws
          have hG : Aside0 (Blk (w2.alloc (.cells #[.int .u64 r0, .int .u64 r1, .int .u64 r2, .int .u64 r3, .int .u64 r4, .int .u64 0, .int .u64 0, .int .u64 0, .int .u64 0, .int .u64 0, .int .u64 0, .int .u64 0, .int .u64 0, .int .u64 0, .slice none 0 0] 83)) w2.heap.size 83 (adr [r0, r1, r2, r3, r4] [0, 0, 0, 0, 0] (sT (ws (k.drop 16)) 0) (.slice none 0 0))) := ⟨heap_alloc_new _ _⟩
          have hB3 := HB2.out.alloc HB2.out.size (.cells #[.int .u64 r0, .int .u64 r1, .int .u64 r2, .int .u64 r3, .int .u64 r4, .int .u64 0, .int .u64 0, .int .u64 0, .int .u64 0, .int .u64 0, .int .u64 0, .int .u64 0, .int .u64 0, .int .u64 0, .slice none 0 0] 83)
          have hsz := HB2.out.size
          generalize hW3 : w2.alloc _ = w3 at hG hB3 ⊢
          clear hW3
          generalize w2.heap.size = G at *
          go_loopw [42] (fun i wr => ∃ t : Nat, t ≤ 4 ∧ i = .int .i64 t ∧ Aside0 (Blk wr G 83 (adr [r0, r1, r2, r3, r4] [0, 0, 0, 0, 0] (sT (ws (k.drop 16)) t) (.slice none 0 0))) ∧ Below w.heap.size w wr) (fun i _ => 4 - (intOf i).toNat)
          case atStart => exact ⟨0, by omega, rfl, hG, hB3⟩
          case round =>
            clear hG hB3
            obtain ⟨t, ht, rfl, hG, hB⟩ := hrel
            by_cases hlt : t < 4
            · have hlt' : (t : Int) < 4 := by omega
              obtain ⟨A', c', hcut2, hrd⟩ := rd_slice (HK.out.below hB) (16 + 4 * t) (20 + 4 * t) (x := 16 + 4 * (t : Int)) (y := 20 + 4 * (t : Int)) (by omega) (by omega) (by omega) (by omega)
              rw [show 20 + 4 * t - (16 + 4 * t) = 4 by omega] at hcut2 hrd
              have hI : IsB ((k.take (20 + 4 * t)).drop (16 + 4 * t)) := fun x hx => bk x (List.mem_of_mem_take (List.mem_of_mem_drop hx))
              have hwg : (loadW ((k.take (20 + 4 * t)).drop (16 + 4 * t)) true).1 = (ws (k.drop 16)).getD t 0 := by
                have h1 := ws_get (k.drop 16) 4 (by rw [List.length_drop, HL.out]) t hlt
                rw [List.getD_eq_getElem?_getD, h1, Option.getD_some, List.take_drop, List.drop_drop, show 16 + (4 * t + 4) = 20 + 4 * t by omega]
              have hlr := load_range hI true
              go_wp2_with fail
              refine (Load_c hrd hI true).mono ?_
              rintro x w5 ⟨rfl, ⟨n5, rfl⟩⟩
              have hnx := sT_next (ws (k.drop 16)) HWS.out t hlt
              rw [← hwg] at hnx
              generalize (loadW ((k.take (20 + 4 * t)).drop (16 + 4 * t)) true).1 = x at *
              have e1 : x % 18446744073709551616 = x := by omega
              have k0 : wr.cell? ⟨G, 10 + t, none⟩ = some (.int .u64 ((sT (ws (k.drop 16)) t).getD t 0)) := (Blk.cell hG.out (10 + t)).trans (adr_get_s rfl rfl t (by rw [sT_length _ HWS.out t ht]; exact hlt))
              have f0 := Blk.frozen hG.out (10 + t)
              have HNX := Aside0.mk hnx
              clear hnx hwg
              go_wp2_with fail
              have R1 : Aside0 (Blk ((wr.drewN n5).setCell ⟨G, 10 + t, none⟩ (.int .u64 x)) G 83 (adr [r0, r1, r2, r3, r4] [0, 0, 0, 0, 0] (sT (ws (k.drop 16)) (t + 1)) (.slice none 0 0))) := ⟨by
                have h1 := Blk.set_ (w := wr.drewN n5) hG.out (10 + t) (.int .u64 x)
                rw [adr_set_s rfl rfl t (by rw [sT_length _ HWS.out t ht]; exact hlt), HNX.out] at h1
                exact h1⟩
              go_roundw
              case rel => exact ⟨t + 1, by omega, by go_num, R1, (pw_below_drewN hB _).setCell (p := ⟨G, 10 + t, none⟩) hsz _⟩
              case measure => simp [intOf]; omega
            · have hge : ¬ (t : Int) < 4 := by omega
              obtain rfl : t = 4 := by omega
              have hfin : Blk wr G 83 (nums .u64 (readS (cutS b) 0) ++ nums .u64 [0, 0, 0, 0, 0] ++ nums .u64 (ws (k.drop 16)) ++ [.slice none 0 0]) := by
                have h1 := hG.out
                have h2 : sT (ws (k.drop 16)) 4 = ws (k.drop 16) := by unfold sT; rw [List.take_of_length_le (by rw [HWS.out]; omega)]; simp
                rw [h2] at h1
                rw [HC.out, HRR.out, HRE.out]
                exact h1
              have HF := Aside0.mk hfin
              clear hfin
              go_wp2_with fail
              go_ret2
              rw [HBB.out]
              exact ⟨G, rfl, hsz, HF.out, hB⟩
theorem New_no {A : Option Addr} {n c : Nat} {w : World} (h : n ≠ 32) : Calls Try.prog 29 #[.slice A n c] w fun e w' => e = .returned (.tuple #[.pointer none, .int .i64 1]) ∧ w' = w := by
  have h2 : ((n : Int) != 32) = true := by rw [bne_iff_ne]; omega
  go_enter Try.func29, Try.ntmps29
  go_wp2_with fail
  go_ret2
  exact ⟨rfl, rfl⟩
theorem Add_nil {A : Option Addr} {n c : Nat} {w : World} : Calls Try.prog 30 #[.pointer none, .slice A n c] w fun e w' => e = .returned (.tuple #[]) ∧ w' = w := by
  go_enter Try.func30, Try.ntmps30
  go_wp2_with fail
  exact bodyPost_ret (v := .tuple #[]) (by simp [results, Try.results30, go_sem]) rfl ⟨rfl, rfl⟩
theorem Tag_nil {w : World} : Calls Try.prog 31 #[.pointer none] w fun e w' => e = .returned (.slice none 0 0) ∧ w' = w := by
  go_enter Try.func31, Try.ntmps31
  go_wp2_with fail
  go_ret
  exact ⟨rfl, rfl⟩
end Go.Proofs.Ytkjmjgiklelpiaa.OtO
