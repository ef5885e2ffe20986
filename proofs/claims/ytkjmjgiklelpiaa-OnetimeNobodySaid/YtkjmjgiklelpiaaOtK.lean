/- onetime.take, walked. -/
import Derived.Test.YtkjmjgiklelpiaaApp
import Derived.Test.YtkjmjgiklelpiaaQuart
import Derived.Test.YtkjmjgiklelpiaaPlainCipherBlocks
import Derived.Deep.RegionHeld3
import Derived.Deep.Cut
import Derived.Deep.CutRange
import Derived.Test.YtkjmjgiklelpiaaOtV
import Derived.Deep.MidRow
namespace Go.Proofs.Ytkjmjgiklelpiaa.OtK
open Go.RowKit Go.Proofs.YtkjmjgiklelpiaaW.PrintWords Go.Proofs.Ytkjmjgiklelpiaa.Num Go.Proofs.Ytkjmjgiklelpiaa.WordC Go.Proofs.Ytkjmjgiklelpiaa.Arr Go.Proofs.Ytkjmjgiklelpiaa.App Go.Proofs.Ytkjmjgiklelpiaa.CiC Go.Proofs.Ytkjmjgiklelpiaa.CiD Go.Proofs.Ytkjmjgiklelpiaa.OtC Go.Proofs.Ytkjmjgiklelpiaa.OtR Go.Proofs.Ytkjmjgiklelpiaa.OtL Go.Proofs.Ytkjmjgiklelpiaa.OtM Go.Proofs.Ytkjmjgiklelpiaa.OtT Go.Proofs.Ytkjmjgiklelpiaa.OtV
set_option linter.unusedVariables false
set_option linter.unusedSimpArgs false

theorem range_blk {w : World} {g t : Nat} {cs : List Value} (h : Blk w g t cs) : w.rangeAt g 0 cs := fun j v hj => by
  rw [Nat.zero_add, Blk.cell h]; exact hj
theorem range_under {w w1 : World} {g o B : Nat} {cs : List Value} (h : w.rangeAt g o cs) (hb : Below B w w1) (hg : g < B) : w1.rangeAt g o cs := fun j v hj =>
  (hb.cell (p := ⟨g, o + j, none⟩) hg).trans (h j v hj)
theorem range_num {w : World} {g o : Nat} {l : List Int} (h : w.rangeAt g o (nums .u64 l)) (i : Nat) (hi : i < l.length) : w.cell? ⟨g, o + i, none⟩ = some (.int .u64 (l.getD i 0)) := h i _ (nums_get .u64 l i hi)
/-- Limbs added. -/
def addT (b a : List Int) : Nat → List Int
  | 0 => b
  | t + 1 => (addT b a t).set t ((addT b a t).getD t 0 + a.getD t 0)
def takeS (a r b : List Int) : List Int := timesS (addT b a 5) r
theorem addT_length (b a : List Int) (t : Nat) : (addT b a t).length = b.length := by
  induction t with
  | zero => rfl
  | succ t ih => simp [addT, ih]
theorem addT_get (b a : List Int) (hb : b.length = 5) (t m : Nat) : (addT b a t).getD m 0 = if m < t ∧ m < 5 then b.getD m 0 + a.getD m 0 else b.getD m 0 := by
  induction t with
  | zero => simp [addT]
  | succ t ih =>
    simp only [addT]
    by_cases hm : t = m
    · subst hm
      by_cases h5 : t < 5
      · rw [List.getD_eq_getElem?_getD, List.getElem?_set_self (by rw [addT_length, hb]; exact h5), Option.getD_some, ih]
        rw [if_neg (by omega), if_pos (by omega)]
      · rw [List.getD_eq_getElem?_getD, List.getElem?_eq_none (by simp [addT_length, hb]; omega), if_neg (by omega), List.getD_eq_getElem?_getD, List.getElem?_eq_none (by omega)]
    · rw [List.getD_eq_getElem?_getD, List.getElem?_set_ne hm, ← List.getD_eq_getElem?_getD, ih]
      by_cases h1 : m < t ∧ m < 5
      · rw [if_pos h1, if_pos (by omega)]
      · rw [if_neg h1, if_neg (by omega)]
theorem addT_bd {a b : List Int} (hb : b.length = 5) (ha : IsBd 134217728 a) (hb2 : IsBd 134217728 b) (t : Nat) : IsBd 268435456 (addT b a t) := by
  intro m
  have h1 := ha m
  have h2 := hb2 m
  rw [addT_get b a hb t m]
  split <;> omega
set_option maxHeartbeats 8000000 in
set_option maxRecDepth 100000 in
theorem take_c {g : Nat} {a r b : List Int} {w : World} (hr : w.rangeAt g 0 (nums .u64 r)) (ha : w.rangeAt g 5 (nums .u64 a)) (hg : g < w.heap.size) (hla : a.length = 5) (hlr : r.length = 5) (hlb : b.length = 5) (ba : IsBd 134217728 a) (br : IsBd 67108864 r) (bb : IsBd 134217728 b) :
    Calls Try.prog 55 #[.pointer (some ⟨g, 0, none⟩), .agg (nums .u64 b).toArray] w fun e w' => e = .returned (.agg (nums .u64 (takeS a r b)).toArray) ∧ Below w.heap.size w w' := by
  have HLA := Aside0.mk hla
  have HLR := Aside0.mk hlr
  have HLB := Aside0.mk hlb
  have BA := Aside0.mk ba
  have BR := Aside0.mk br
  have BB := Aside0.mk bb
  have HRG := Aside0.mk hr
  have HAG := Aside0.mk ha
  clear hla hlr hlb ba br bb hr ha
  go_enter Try.func55, Try.ntmps55
  go_wp2_with fail
  generalize hW : (w.alloc _).alloc _ = W0
  have hX : Aside0 (Blk W0 w.heap.size 79 (nums .u64 (addT b a 0))) := ⟨by rw [← hW]; exact heap_alloc2_old _ _ _⟩
  have hY : Aside0 (Blk W0 (w.heap.size + 1) 79 (nums .u64 (List.replicate 5 0))) := ⟨by rw [← hW]; exact heap_alloc2_new _ _ _⟩
  have hB : Below w.heap.size w W0 := by rw [← hW]; exact ((Below.refl _ w).alloc (Nat.le_refl _) _).alloc (by simp) _
  clear hW
  go_loopw [6] (fun i wr => ∃ t : Nat, t ≤ 5 ∧ i = .int .i64 t ∧ Aside0 (Blk wr w.heap.size 79 (nums .u64 (addT b a t))) ∧ Aside0 (Blk wr (w.heap.size + 1) 79 (nums .u64 (List.replicate 5 0))) ∧ Below w.heap.size w wr) (fun i _ => 5 - (intOf i).toNat)
  case atStart => exact ⟨0, by omega, rfl, hX, hY, hB⟩
  case round =>
    clear hX hY hB
    obtain ⟨t, ht, rfl, hX, hY, hB⟩ := hrel
    by_cases hlt : t < 5
    · have hlt' : (t : Int) < 5 := by omega
      have kx := blk_u64 hX.out t (by rw [addT_length, HLB.out]; exact hlt)
      have fx := Blk.frozen hX.out t
      have ka := range_num (range_under HAG.out hB hg) t (by rw [HLA.out]; exact hlt)
      have hx := addT_bd HLB.out BA.out BB.out t t
      have hy := BA.out t
      have hnx : Aside0 (addT b a (t + 1) = (addT b a t).set t ((addT b a t).getD t 0 + a.getD t 0)) := ⟨rfl⟩
      generalize (addT b a t).getD t 0 = x at *
      generalize a.getD t 0 = y at *
      have e1 : (x + y) % 18446744073709551616 = x + y := by omega
      go_wp2_with fail
      go_region
      have R1 : Aside0 (Blk (wr.setCell ⟨w.heap.size, t, none⟩ (.int .u64 (x + y))).drew w.heap.size 79 (nums .u64 (addT b a (t + 1)))) := ⟨by rw [hnx.out]; exact CiC.blk_put hX.out t _⟩
      have R2 : Aside0 (Blk (wr.setCell ⟨w.heap.size, t, none⟩ (.int .u64 (x + y))).drew (w.heap.size + 1) 79 (nums .u64 (List.replicate 5 0))) := ⟨Blk.far hY.out (p := ⟨w.heap.size, t, none⟩) (by simp) _⟩
      go_wp2_with fail
      go_roundw
      case rel => exact ⟨t + 1, by omega, by go_num, R1, R2, (hB.setCell (p := ⟨w.heap.size, t, none⟩) (Nat.le_refl _) _).drew⟩
      case measure => simp [intOf]; omega
    · have hge : ¬ (t : Int) < 5 := by omega
      obtain rfl : t = 5 := by omega
      have hls : Aside0 ((addT b a 5).length = 5) := ⟨by rw [addT_length]; exact HLB.out⟩
      have hbs := Aside0.mk (addT_bd HLB.out BA.out BB.out 5)
      have htk : Aside0 (takeS a r b = timesS (addT b a 5) r) := ⟨rfl⟩
      obtain ⟨D, HD⟩ : ∃ D, Aside0 (addT b a 5 = D) := ⟨_, ⟨rfl⟩⟩
      rw [HD.out] at hls hbs htk hX
      have hRg := range_under HRG.out hB hg
      have hXg := range_blk hX.out
      have hu79 := Try.underlying79
      have hi1 : (Try.prog.info? 79).map (·.size) = some (nums .u64 D).length := by rw [nums_length, hls.out]; exact size79
      have hi2 : (Try.prog.info? 79).map (·.size) = some (nums .u64 r).length := by rw [nums_length, HLR.out]; exact size79
      have HI1 := Aside0.mk hi1
      have HI2 := Aside0.mk hi2
      clear hi1 hi2
      go_wp2_with fail
      refine wp_region_held_drew (S := fun w' => w'.rangeAt w.heap.size 0 (nums .u64 D) ∧ w'.rangeAt g 0 (nums .u64 r)) (by kernel_rfl) ?_ (fun hHeld => ?_)
      · exact ⟨hXg, hRg⟩
      refine wpAnyH_take (i := 0) (List.getElem?_toArray.trans rfl) (by kernel_rfl) (by kernel_rfl) (by kernel_rfl) (fun _ _ _ h => h) (yieldsIf_load_mid (by rfl) 79 (.tmp 3) rfl w.heap.size 0 rfl (nums .u64 D) _ (fun _ h => h.1) hu79 rfl HI1.out) (by assumption) ?_
      (try simp only [Act.put, List.setIfInBounds_toArray, List.set_cons_zero, List.set_cons_succ])
      refine wpAnyH_take (i := 1) (v := ?_) (List.getElem?_toArray.trans rfl) (by kernel_rfl) (by kernel_rfl) (by kernel_rfl) (fun _ _ _ h => h) (Or.inl ⟨by rfl, ?_⟩) (by assumption) ?_
      rotate_left
      · (intro w hSw; (try dsimp only at hSw); go_simp; try with_reducible rfl)
      (try simp only [Act.put, List.setIfInBounds_toArray, List.set_cons_zero, List.set_cons_succ])
      refine wpAnyH_take (i := 2) (v := ?_) (List.getElem?_toArray.trans rfl) (by kernel_rfl) (by kernel_rfl) (by kernel_rfl) (fun _ _ _ h => h) (Or.inl ⟨by rfl, ?_⟩) (by assumption) ?_
      rotate_left
      · (intro w hSw; (try dsimp only at hSw); go_simp; try with_reducible rfl)
      (try simp only [Act.put, List.setIfInBounds_toArray, List.set_cons_zero, List.set_cons_succ])
      refine wpAnyH_take (i := 3) (v := ?_) (List.getElem?_toArray.trans rfl) (by kernel_rfl) (by kernel_rfl) (by kernel_rfl) (fun _ _ _ h => h) (Or.inl ⟨by rfl, ?_⟩) (by assumption) ?_
      rotate_left
      · (intro w hSw; (try dsimp only at hSw); go_simp; try with_reducible rfl)
      (try simp only [Act.put, List.setIfInBounds_toArray, List.set_cons_zero, List.set_cons_succ])
      refine wpAnyH_take (i := 4) (List.getElem?_toArray.trans rfl) (by kernel_rfl) (by kernel_rfl) (by kernel_rfl) (fun _ _ _ h => h) (yieldsIf_load_mid (by rfl) 79 (.tmp 24) rfl g 0 rfl (nums .u64 r) _ (fun _ h => h.2) hu79 rfl HI2.out) (by assumption) ?_
      (try simp only [Act.put, List.setIfInBounds_toArray, List.set_cons_zero, List.set_cons_succ])
      refine wpAnyH_ready (rs := [5]) (by kernel_rfl) (by simp) (AllReadyH.cons (List.getElem?_toArray.trans rfl) (fun Kx hKx => ?_) AllReadyH.nil)
      go_simp
      refine (times_c hls.out HLR.out hbs.out BR.out).mono ?_
      rintro x w2 ⟨rfl, hb2⟩
      have hcl : Aside0 ((timesS D r).length = 5) := ⟨by simp [timesS, carS, top5, cst_length, tst_length]⟩
      obtain ⟨S, HS⟩ : ∃ S, Aside0 (timesS D r = S) := ⟨_, ⟨rfl⟩⟩
      rw [HS.out] at hcl htk ⊢
      have HY2 := Aside0.mk (Blk.below (w := wr.drew) hY.out hb2)
      have HB2 := Aside0.mk (below_next hB.drew hb2)
      have hX2 : w2.rangeAt w.heap.size 0 (nums .u64 D) ∧ w2.rangeAt g 0 (nums .u64 r) := ⟨range_blk (Blk.below (w := wr.drew) hX.out hb2), range_under HRG.out HB2.out hg⟩
      go_wp2_with fail
      refine hKx.out _ _ ?_ (fun hHeld => ?_)
      · exact hX2
      clear hKx Kx
      (try simp only [Act.put, List.setIfInBounds_toArray, List.set_cons_zero, List.set_cons_succ])
      refine wpAnyH_ready (rs := [6]) (by kernel_rfl) (by simp) (AllReadyH.cons (List.getElem?_toArray.trans rfl) (fun Kx hKx => ?_) AllReadyH.nil)
      rw [if_pos (by rfl)]
      refine wp_store_row 79 (.tmp 4) (.tmp 26) rfl (w.heap.size + 1) (nums .u64 S).toArray rfl rfl 79 (nums .u64 (List.replicate 5 0)).toArray HY2.out (by rw [size_nums, hcl.out]; exact size79) (by rw [size_nums, size_nums, hcl.out]; rfl) (all_nums _ _) ?_
      have hZ : Blk (w2.setRow (w.heap.size + 1) (nums .u64 S).toArray) (w.heap.size + 1) 79 (nums .u64 S) := setRow_heap w2 (w.heap.size + 1) _ _ 79 _ HY2.out
      have hgr : w2.grownBy (w2.setRow (w.heap.size + 1) (nums .u64 S).toArray) (some (w.heap.size + 1)) := ⟨rfl, rfl, rfl, by simp [World.setRow], fun j hj hne => setRow_other w2 (w.heap.size + 1) j _ (fun e => hne (by rw [e]))⟩
      generalize w2.setRow (w.heap.size + 1) (nums .u64 S).toArray = w3 at hZ hgr ⊢
      have hbu : Below (w.heap.size + 1) w2 w3 := (Below.refl _ _).grown hgr (Nat.le_of_lt (Blk.lt HY2.out)) (fun k hk => by cases hk; exact Nat.le_refl _)
      have HZ := Aside0.mk hZ
      have HB3 := Aside0.mk (HB2.out.grown hgr HB2.out.size (fun k hk => by cases hk; omega))
      have hX3 : w3.rangeAt w.heap.size 0 (nums .u64 D) ∧ w3.rangeAt g 0 (nums .u64 r) := ⟨range_under hX2.1 hbu (by omega), range_under hX2.2 hbu (by omega)⟩
      refine hKx.out _ _ ?_ (fun hHeld => ?_)
      · exact hX3
      clear hKx Kx
      (try simp only [Act.put, List.setIfInBounds_toArray, List.set_cons_zero, List.set_cons_succ])
      refine wpAnyH_done (by kernel_rfl) ?_ _
      go_wp2_with fail
      refine bodyPost_ret (v := .agg (nums .u64 S).toArray) ?_ rfl ⟨by rw [htk.out], HB3.out⟩
      exact results_arr (p := 4) (ty := 79) rfl _ w3 (w.heap.size + 1) 79 5 36 .u64 S rfl HZ.out Try.underlying79 size79 hcl.out
end Go.Proofs.Ytkjmjgiklelpiaa.OtK
