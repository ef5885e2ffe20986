/- cipher.begun, walked. -/
import Derived.Test.YtkjmjgiklelpiaaApp
import Derived.Test.YtkjmjgiklelpiaaQuart
import Derived.Test.YtkjmjgiklelpiaaPlainCipherBlocks
import Derived.Deep.RegionHeld3
import Derived.Deep.Cut
import Derived.Deep.CutRange
import Derived.Test.YtkjmjgiklelpiaaCiC
import Derived.Laws.ResultCell
namespace Go.Proofs.Ytkjmjgiklelpiaa.CiB
open Go.RowKit Go.Proofs.YtkjmjgiklelpiaaW.PrintWords Go.Proofs.Ytkjmjgiklelpiaa.Num Go.Proofs.Ytkjmjgiklelpiaa.WordC Go.Proofs.Ytkjmjgiklelpiaa.Arr Go.Proofs.Ytkjmjgiklelpiaa.App Go.Proofs.Ytkjmjgiklelpiaa.CiC
set_option linter.unusedVariables false
set_option linter.unusedSimpArgs false

/-- The words at first, without the counter. -/
def c4 : List Int := [1634760805, 857760878, 2036477234, 1797285236]
def g0S (k o : List Int) : List Int := c4 ++ ws k ++ [0] ++ ws o
def gS (k o : List Int) (n : Int) : List Int := c4 ++ ws k ++ [n] ++ ws o
theorem g0_set (k o : List Int) (n : Int) (hk : (ws k).length = 8) : (g0S k o).set 12 n = gS k o n := by
  unfold g0S gS
  rw [List.append_assoc, List.set_append_right _ _ (by simp [c4, hk]), List.append_assoc]
  simp [c4, hk]
/-- So many words, and noughts behind them. -/
def fillG (l : List Int) : List Int := l ++ List.replicate (16 - l.length) 0
theorem fillG_length (l : List Int) (h : l.length ≤ 16) : (fillG l).length = 16 := by simp [fillG]; omega
theorem fillG_set (l : List Int) (x : Int) (h : l.length < 16) : (fillG l).set l.length x = fillG (l ++ [x]) := by
  unfold fillG
  rw [List.set_append_right _ _ (by omega), Nat.sub_self]
  obtain ⟨d, hd⟩ : ∃ d, 16 - l.length = d + 1 := ⟨15 - l.length, by omega⟩
  rw [hd, List.replicate_succ, List.set_cons_zero, List.length_append, List.length_singleton, show 16 - (l.length + 1) = d by omega]
  simp
theorem fillG_zero (l : List Int) (h : l.length < 16) : fillG (l ++ [0]) = fillG l := by
  unfold fillG
  obtain ⟨d, hd⟩ : ∃ d, 16 - l.length = d + 1 := ⟨15 - l.length, by omega⟩
  rw [hd, List.replicate_succ, List.length_append, List.length_singleton, show 16 - (l.length + 1) = d by omega]
  simp
theorem wsl (l : List Int) (m : Nat) (hl : l.length = 4 * m) (t : Nat) (ht : t ≤ m) : ((ws l).take t).length = t := by
  rw [List.length_take, ws_length m l hl]; omega
theorem results_two_row {P : Program} {fn : Func} {p u : Tmp} {ty : TypeId} (h : fn.results = #[.cell p ty, .tmp u]) (tmps : Array Value) (w : World) (g t n e : Nat) (k : IntKind) (l : List Int)
    (hp : tmps.getD p undef = .pointer (some ⟨g, 0, none⟩)) (hg : Blk w g t (nums k l)) (hu : P.underlying ty = some (.array n e)) (hi : (P.info? ty).map (·.size) = some n) (hl : l.length = n) :
    (results fn tmps).run P w = .ok (.tuple #[.agg (nums k l).toArray, tmps.getD u undef]) w := by
  rw [results_cell_tmp h, hp]
  simp [asAddr, run_loadVar_row w g t ty (nums k l).toArray (0, 0) (.array n e) hg hu rfl (by rw [size_nums, hl]; exact hi), Result.andThen]
set_option maxHeartbeats 8000000 in
set_option maxRecDepth 100000 in
theorem begun_yes {A B : Option Addr} {c d : Nat} {k o : List Int} {w : World} (hk : Rd w A 32 c k) (ho : Rd w B 12 d o) (bk : IsB k) (bo : IsB o) :
    Calls Try.prog 41 #[.slice A 32 c, .slice B 12 d] w fun e w' => e = .returned (.tuple #[.agg (nums .u32 (g0S k o)).toArray, .bool true]) ∧ Below w.heap.size w w' := by
  go_enter Try.func41, Try.ntmps41
  go_wp2_with fail
  generalize hW : (w.alloc _).alloc _ = W0
  have hX : Aside0 (Blk W0 (w.heap.size + 1) 65 (nums .u32 (fillG (c4 ++ (ws k).take 0)))) := ⟨by rw [← hW]; exact heap_alloc2_new _ _ _⟩
  have hY : Aside0 (Blk W0 w.heap.size 65 (nums .u32 (fillG []))) := ⟨by rw [← hW]; exact heap_alloc2_old _ _ _⟩
  have hB0 : Below w.heap.size w W0 := by rw [← hW]; exact ((Below.refl _ w).alloc (Nat.le_refl _) _).alloc (by simp) _
  clear hW
  have HK := Aside0.mk hk
  have HO := Aside0.mk ho
  clear hk ho
  have hlk : k.length = 4 * 8 := HK.out.len
  have hlo : o.length = 4 * 3 := HO.out.len
  have HLK := Aside0.mk hlk
  have HLO := Aside0.mk hlo
  clear hlk hlo
  go_loopw [19] (fun i wr => ∃ t : Nat, t ≤ 8 ∧ i = .int .i64 t ∧ Aside0 (Blk wr (w.heap.size + 1) 65 (nums .u32 (fillG (c4 ++ (ws k).take t)))) ∧ Aside0 (Blk wr w.heap.size 65 (nums .u32 (fillG []))) ∧ Below w.heap.size w wr) (fun i _ => 8 - (intOf i).toNat)
  case atStart => exact ⟨0, by omega, rfl, hX, hY, hB0⟩
  case round =>
    clear hX hY hB0
    obtain ⟨t, ht, rfl, hX, hY, hB⟩ := hrel
    by_cases hlt : t < 8
    · have hlt' : (t : Int) < 8 := by omega
      obtain ⟨A', c', hcut, hrd⟩ := rd_slice (HK.out.below hB) (4 * t) (4 * t + 4) (x := 4 * (t : Int)) (y := 4 * (t : Int) + 4) (by omega) (by omega) (by omega) (by omega)
      rw [show 4 * t + 4 - 4 * t = 4 by omega] at hcut hrd
      have hI : IsB ((k.take (4 * t + 4)).drop (4 * t)) := fun x hx => bk x (List.mem_of_mem_take (List.mem_of_mem_drop hx))
      have i0 : (0 : Int) ≤ 4 + (t : Int) := by omega
      have i1 : (4 : Int) + (t : Int) < 16 := by omega
      have it : ((4 : Int) + (t : Int)).toNat = 4 + t := by omega
      go_wp2_with fail
      refine (Load_c hrd hI true).mono ?_
      rintro x w2 ⟨rfl, ⟨n2, rfl⟩⟩
      have f0 := blk_num hX.out (4 + t) (by rw [fillG_length _ (by rw [List.length_append, wsl k 8 HLK.out t (by omega)]; simp [c4]; omega)]; omega)
      have f1 := Blk.frozen hX.out (4 + t)
      go_wp2_with fail
      have R1 : Aside0 (Blk ((wr.drewN n2).setCell ⟨w.heap.size + 1, 4 + t, none⟩ (.int .u32 (loadW ((k.take (4 * t + 4)).drop (4 * t)) true).1)) (w.heap.size + 1) 65 (nums .u32 (fillG (c4 ++ (ws k).take (t + 1))))) := ⟨by
        have h1 := blk_put hX.out (4 + t) (loadW ((k.take (4 * t + 4)).drop (4 * t)) true).1
        have h2 := fillG_set (c4 ++ (ws k).take t) (loadW ((k.take (4 * t + 4)).drop (4 * t)) true).1 (by rw [List.length_append, wsl k 8 HLK.out t (by omega)]; simp [c4]; omega)
        rw [List.length_append, wsl k 8 HLK.out t (by omega), show c4.length + t = 4 + t from rfl] at h2
        rw [h2, List.append_assoc, ← ws_take k 8 HLK.out t hlt] at h1
        exact h1⟩
      have R2 : Aside0 (Blk ((wr.drewN n2).setCell ⟨w.heap.size + 1, 4 + t, none⟩ (.int .u32 (loadW ((k.take (4 * t + 4)).drop (4 * t)) true).1)) w.heap.size 65 (nums .u32 (fillG []))) := ⟨Blk.far hY.out (p := ⟨w.heap.size + 1, 4 + t, none⟩) (by simp) _⟩
      go_roundw
      case rel => exact ⟨t + 1, by omega, by go_num, ⟨R1.out⟩, ⟨R2.out⟩, (pw_below_drewN hB _).setCell (p := ⟨w.heap.size + 1, 4 + t, none⟩) (by simp) _⟩
      case measure => simp [intOf]; omega
    · have hge : ¬ (t : Int) < 8 := by omega
      obtain rfl : t = 8 := by omega
      have hX8 : Aside0 (Blk wr (w.heap.size + 1) 65 (nums .u32 (fillG (c4 ++ ws k ++ [0] ++ (ws o).take 0)))) := ⟨by
        have h1 := hX.out
        rw [List.take_of_length_le (by rw [ws_length 8 k HLK.out]; omega)] at h1
        rw [List.take_zero, List.append_nil, fillG_zero _ (by rw [List.length_append, ws_length 8 k HLK.out]; decide)]
        exact h1⟩
      have hlk' : (c4 ++ ws k ++ [0]).length = 13 := by rw [List.length_append, List.length_append, ws_length 8 k HLK.out]; rfl
      have HLK' := Aside0.mk hlk'
      clear hlk' hX
      go_wp2_with fail
      go_loopw [37] (fun i wr => ∃ t : Nat, t ≤ 3 ∧ i = .int .i64 t ∧ Aside0 (Blk wr (w.heap.size + 1) 65 (nums .u32 (fillG (c4 ++ ws k ++ [0] ++ (ws o).take t)))) ∧ Aside0 (Blk wr w.heap.size 65 (nums .u32 (fillG []))) ∧ Below w.heap.size w wr) (fun i _ => 3 - (intOf i).toNat)
      case atStart => exact ⟨0, by omega, rfl, hX8, hY, hB⟩
      case round =>
        clear hX8 hY hB
        obtain ⟨t, ht, rfl, hX, hY, hB⟩ := hrel
        by_cases hlt : t < 3
        · have hlt' : (t : Int) < 3 := by omega
          obtain ⟨A', c', hcut, hrd⟩ := rd_slice (HO.out.below hB) (4 * t) (4 * t + 4) (x := 4 * (t : Int)) (y := 4 * (t : Int) + 4) (by omega) (by omega) (by omega) (by omega)
          rw [show 4 * t + 4 - 4 * t = 4 by omega] at hcut hrd
          have hI : IsB ((o.take (4 * t + 4)).drop (4 * t)) := fun x hx => bo x (List.mem_of_mem_take (List.mem_of_mem_drop hx))
          have i0 : (0 : Int) ≤ 13 + (t : Int) := by omega
          have i1 : (13 : Int) + (t : Int) < 16 := by omega
          have it : ((13 : Int) + (t : Int)).toNat = 13 + t := by omega
          go_wp2_with fail
          refine (Load_c hrd hI true).mono ?_
          rintro x w2 ⟨rfl, ⟨n2, rfl⟩⟩
          have f0 := blk_num hX.out (13 + t) (by rw [fillG_length _ (by rw [List.length_append, wsl o 3 HLO.out t (by omega), HLK'.out]; omega)]; omega)
          have f1 := Blk.frozen hX.out (13 + t)
          go_wp2_with fail
          have R1 : Aside0 (Blk ((wr.drewN n2).setCell ⟨w.heap.size + 1, 13 + t, none⟩ (.int .u32 (loadW ((o.take (4 * t + 4)).drop (4 * t)) true).1)) (w.heap.size + 1) 65 (nums .u32 (fillG (c4 ++ ws k ++ [0] ++ (ws o).take (t + 1))))) := ⟨by
            have h1 := blk_put hX.out (13 + t) (loadW ((o.take (4 * t + 4)).drop (4 * t)) true).1
            have h2 := fillG_set (c4 ++ ws k ++ [0] ++ (ws o).take t) (loadW ((o.take (4 * t + 4)).drop (4 * t)) true).1 (by rw [List.length_append, wsl o 3 HLO.out t (by omega), HLK'.out]; omega)
            rw [List.length_append, wsl o 3 HLO.out t (by omega), HLK'.out] at h2
            rw [h2, List.append_assoc, ← ws_take o 3 HLO.out t hlt] at h1
            exact h1⟩
          have R2 : Aside0 (Blk ((wr.drewN n2).setCell ⟨w.heap.size + 1, 13 + t, none⟩ (.int .u32 (loadW ((o.take (4 * t + 4)).drop (4 * t)) true).1)) w.heap.size 65 (nums .u32 (fillG []))) := ⟨Blk.far hY.out (p := ⟨w.heap.size + 1, 13 + t, none⟩) (by simp) _⟩
          go_roundw
          case rel => exact ⟨t + 1, by omega, by go_num, ⟨R1.out⟩, ⟨R2.out⟩, (pw_below_drewN hB _).setCell (p := ⟨w.heap.size + 1, 13 + t, none⟩) (by simp) _⟩
          case measure => simp [intOf]; omega
        · have hge : ¬ (t : Int) < 3 := by omega
          obtain rfl : t = 3 := by omega
          have hlg : (g0S k o).length = 16 := by unfold g0S; rw [List.length_append, HLK'.out, ws_length 3 o HLO.out]
          have hXX : Aside0 (Blk wr (w.heap.size + 1) 65 (nums .u32 (g0S k o))) := ⟨by
            have h1 := hX.out
            rw [List.take_of_length_le (by rw [ws_length 3 o HLO.out]; omega)] at h1
            have h2 : fillG (c4 ++ ws k ++ [0] ++ ws o) = g0S k o := by
              have h3 := hlg
              unfold g0S at h3 ⊢
              unfold fillG
              rw [h3]; simp
            rwa [h2] at h1⟩
          clear hX
          obtain ⟨S, HS⟩ : ∃ S, Aside0 (g0S k o = S) := ⟨_, ⟨rfl⟩⟩
          rw [HS.out] at hXX hlg
          have HLS := Aside0.mk hlg
          clear hlg
          go_wp2_with (first
            | (refine load_arr rfl 65 (.tmp 6) rfl (w.heap.size + 1) rfl 65 .u32 S 16 23 hXX.out Try.underlying65 size65 HLS.out ?_)
            | (refine store_arr rfl 65 (.tmp 4) (.tmp 55) rfl w.heap.size .u32 S rfl rfl 65 16 (nums .u32 (fillG [])) hY.out size65 HLS.out (by rw [nums_length]; rfl) ?_; intro w9 hZ hg9; have HZ := Aside0.mk hZ; clear hZ))
          refine bodyPost_ret (v := .tuple #[.agg (nums .u32 S).toArray, .bool true]) ?_ rfl ⟨by rw [HS.out], hB.grown hg9 hB.size (fun k hk => by cases hk; exact Nat.le_refl _)⟩
          exact results_two_row (p := 4) (u := 5) (ty := 65) rfl _ w9 w.heap.size 65 16 23 .u32 S rfl HZ.out Try.underlying65 size65 HLS.out
set_option maxHeartbeats 8000000 in
set_option maxRecDepth 100000 in
theorem begun_no {A B : Option Addr} {n m c d : Nat} {w : World} (h : rightC n m = false) :
    Calls Try.prog 41 #[.slice A n c, .slice B m d] w fun e w' => e = .returned (.tuple #[.agg (nums .u32 (fillG c4)).toArray, .bool false]) ∧ Below w.heap.size w w' := by
  by_cases h1 : n = 32
  · subst h1
    have h2 : ((m : Int) != 12) = true := by
      rw [bne_iff_ne]
      intro h3
      have : m = 12 := by omega
      subst this; revert h; decide
    go_enter Try.func41, Try.ntmps41
    go_wp2_with fail
    refine bodyPost_ret (v := .tuple #[.agg (nums .u32 (fillG c4)).toArray, .bool false]) ?_ rfl ⟨rfl, ((Below.refl _ w).alloc (Nat.le_refl _) _).alloc (by simp) _⟩
    exact results_two_row (p := 4) (u := 5) (ty := 65) rfl _ _ w.heap.size 65 16 23 .u32 (fillG c4) rfl (heap_alloc2_old _ _ _) Try.underlying65 size65 rfl
  · have h2 : ((n : Int) != 32) = true := by rw [bne_iff_ne]; omega
    go_enter Try.func41, Try.ntmps41
    go_wp2_with fail
    refine bodyPost_ret (v := .tuple #[.agg (nums .u32 (fillG c4)).toArray, .bool false]) ?_ rfl ⟨rfl, ((Below.refl _ w).alloc (Nat.le_refl _) _).alloc (by simp) _⟩
    exact results_two_row (p := 4) (u := 5) (ty := 65) rfl _ _ w.heap.size 65 16 23 .u32 (fillG c4) rfl (heap_alloc2_old _ _ _) Try.underlying65 size65 rfl
end Go.Proofs.Ytkjmjgiklelpiaa.CiB
