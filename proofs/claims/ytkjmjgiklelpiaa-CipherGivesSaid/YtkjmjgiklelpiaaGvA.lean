/- CipherGives. -/
import Derived.Test.YtkjmjgiklelpiaaApp
import Derived.Test.YtkjmjgiklelpiaaQuart
import Derived.Test.YtkjmjgiklelpiaaPlainCipherBlocks
import Derived.Deep.RegionHeld3
import Derived.Deep.Cut
import Derived.Deep.CutRange
import Derived.Test.YtkjmjgiklelpiaaMxC
import Derived.Test.YtkjmjgiklelpiaaCiA
namespace Go.Proofs.Ytkjmjgiklelpiaa.GvA
open Go.RowKit Go.Proofs.YtkjmjgiklelpiaaW.PrintWords Go.Proofs.Ytkjmjgiklelpiaa.Num Go.Proofs.Ytkjmjgiklelpiaa.WordC Go.Proofs.Ytkjmjgiklelpiaa.Arr Go.Proofs.Ytkjmjgiklelpiaa.App Go.Proofs.Ytkjmjgiklelpiaa.CiC Go.Proofs.Ytkjmjgiklelpiaa.CiD Go.Proofs.Ytkjmjgiklelpiaa.CiB Go.Proofs.Ytkjmjgiklelpiaa.CiK Go.Proofs.Ytkjmjgiklelpiaa.CiL Go.Proofs.Ytkjmjgiklelpiaa.CiM Go.Proofs.Ytkjmjgiklelpiaa.CiA Go.Proofs.Ytkjmjgiklelpiaa.Rz Go.Proofs.Ytkjmjgiklelpiaa.ItA Go.Proofs.Ytkjmjgiklelpiaa.MxA Go.Proofs.Ytkjmjgiklelpiaa.MxB Go.Proofs.Ytkjmjgiklelpiaa.MxC
set_option linter.unusedVariables false
set_option linter.unusedSimpArgs false

set_option maxHeartbeats 8000000 in
set_option maxRecDepth 100000 in
theorem blocks_f {gw gf go : Nat} {G : List Int} {m : Int} {ok : Bool} {W : World} {q0 q1 q2 q3 q4 q5 q6 : Value} (hg : Blk W gw 65 (nums .u32 G)) (hf : Blk W gf 23 [.int .u32 m]) (ho : Blk W go 4 [.bool ok]) (hl : G.length = 16) (hG : IsW G) (h0 : 0 ≤ m) (h1 : m < 4294967296)
    (J Jx : Nat → World → Prop) (hJ : ∀ s A B, J s A → Below W.heap.size A B → J s B) (hJx : ∀ s A B, Jx s A → Below W.heap.size A B → Jx s B)
    (hY : ∀ (j : Nat) (W1 : World), W.heap.size ≤ W1.heap.size → J j W1 → m + (j : Int) < 4294967296 → ok = true → Calls Try.prog 22 #[.int .u32 (m + (j : Nat)), .agg (nums .u8 (blkS (G.set 12 (m + (j : Nat))))).toArray, q0, q1, q2, q3, q4, q5, q6] W1 fun e W' => ∃ r, e = .returned (.bool r) ∧ KZ W.heap.size go W1 W' ∧ (r = true → J (j + 1) W') ∧ (r = false → Jx (j + 1) W'))
    (hJ0 : J 0 W) :
    Calls Try.prog 46 #[.func (.func 22) #[] #[q0, q1, q2, q3, q4, q5, q6], .pointer (some ⟨gw, 0, none⟩), .pointer (some ⟨gf, 0, none⟩), .pointer (some ⟨go, 0, none⟩)] W fun e W' => (∃ v, e = .returned v) ∧ (J (if ok then (4294967296 - m).toNat else 0) W' ∨ ∃ j, j + 1 ≤ (4294967296 - m).toNat ∧ ok = true ∧ Jx (j + 1) W') := by
  have HG0 := Aside0.mk hg
  have HO0 := Aside0.mk ho
  have HL := Aside0.mk hl
  have HGW := Aside0.mk hG
  have HY := Aside0.mk hY
  have HJ := Aside0.mk hJ
  have HJX := Aside0.mk hJx
  have HJ0 := Aside0.mk hJ0
  have hgo : Aside0 (go < W.heap.size) := ⟨Blk.lt ho⟩
  have HX0 : Aside0 (Blk (W.alloc (.cells (nums .u32 (List.replicate 16 0)).toArray 65)) W.heap.size 65 (nums .u32 (List.replicate 16 0))) := ⟨heap_alloc_new _ _⟩
  have HB0 := Aside0.mk ((Below.refl W.heap.size W).alloc (Nat.le_refl _) (.cells (nums .u32 (List.replicate 16 0)).toArray 65))
  have HF0 := Aside0.mk hf
  clear hg hf ho hl hG hY hJ hJx hJ0
  go_enter Try.func46, Try.ntmps46
  go_wp2_with (first
    | (refine load_arr rfl 65 (.tmp 1) rfl gw rfl 65 .u32 G 16 23 HG0.out Try.underlying65 size65 HL.out ?_)
    | (refine store_arr rfl 65 (.tmp 5) (.tmp 6) rfl W.heap.size .u32 G rfl rfl 65 16 _ HX0.out size65 HL.out (by rw [nums_length]; rfl) ?_; intro w1 hX1 hg1
       have HB1 := Aside0.mk (HB0.out.grown hg1 HB0.out.size (fun k hk => by cases hk; exact Nat.le_refl _))
       have kf : w1.cell? ⟨gf, 0, none⟩ = some (.int .u32 m) := Blk.cell (Blk.below HF0.out HB1.out) 0
       have k12 := blk_num hX1 12 (by rw [HL.out]; decide)
       have f12 := Blk.frozen hX1 12
       have HX1 := Aside0.mk hX1
       clear hX1 hg1))
  obtain ⟨N, HN⟩ : ∃ N : Nat, Aside0 ((4294967296 - m).toNat = N) := ⟨_, ⟨rfl⟩⟩
  have hNm : (N : Int) = 4294967296 - m := by have := HN.out; omega
  have HS : Aside0 (Blk (w1.setCell ⟨W.heap.size, 12, none⟩ (.int .u32 m)) W.heap.size 65 (nums .u32 (G.set 12 (m + (0 : Nat))))) := ⟨by
    have h1 := CiC.blk_put HX1.out 12 m
    rw [show m + ((0 : Nat) : Int) = m by omega]; exact h1⟩
  have HB2 := Aside0.mk (HB1.out.setCell (p := ⟨W.heap.size, 12, none⟩) (Nat.le_refl _) (.int .u32 m))
  have HJ2 : Aside0 (J 0 (w1.setCell ⟨W.heap.size, 12, none⟩ (.int .u32 m))) := ⟨HJ.out _ _ _ HJ0.out HB2.out⟩
  have HO2 : Aside0 (Blk (w1.setCell ⟨W.heap.size, 12, none⟩ (.int .u32 m)) go 4 [.bool ok]) := ⟨ItA.Blk.below' HO0.out HB2.out hgo.out⟩
  have hsz := HB2.out.size
  clear kf k12 f12
  go_loopg [9] N (fun k v wr => ∃ j : Nat, k + j = N ∧ Aside0 (Blk wr W.heap.size 65 (nums .u32 (G.set 12 (m + (j : Nat))))) ∧ Aside0 (J j wr) ∧ Aside0 (Blk wr go 4 [.bool ok]) ∧ W.heap.size < wr.heap.size ∧ (ok = true → j < N) ∧ (ok = false → j = 0))
  case atStart => exact ⟨0, by omega, HS, HJ2, HO2, Blk.lt HS.out, fun _ => by omega, fun _ => rfl⟩
  case round =>
    clear HS HJ2 HO2 hsz HB2
    obtain ⟨j, hkj, hS, hJj, hO, hlt, hjN, hj0⟩ := hrel
    have ko : wr.cell? ⟨go, 0, none⟩ = some (.bool ok) := Blk.cell hO.out 0
    cases ok with
    | false =>
      obtain rfl : j = 0 := hj0 rfl
      go_wp2_with fail
      go_end0
      first
        | exact ⟨⟨_, rfl⟩, Or.inl hJj.out⟩
        | exact ⟨⟨_, rfl⟩, hJj.out⟩
        | exact ⟨_, hJj.out⟩
    | true =>
      have hjN' := hjN rfl
      go_wp2_with fail
      have k12 : wr.cell? ⟨W.heap.size, 12, none⟩ = some (.int .u32 (m + (j : Nat))) := by
        have h1 := blk_num hS.out 12 (by rw [List.length_set, HL.out]; decide)
        have h2 : (G.set 12 (m + (j : Nat))).getD 12 0 = m + (j : Nat) := by rw [List.getD_eq_getElem?_getD, List.getElem?_set_self (by rw [HL.out]; decide)]; rfl
        rwa [h2] at h1
      refine wp_region_held_drew (S := (fun w' => w'.cell? ⟨W.heap.size, 12, none⟩ = some (.int .u32 (m + (j : Nat))) ∧ Blk w' W.heap.size 65 (nums .u32 (G.set 12 (m + (j : Nat)))))) (by kernel_rfl) ?_ (fun hHeld => ?_)
      · exact ⟨k12, hS.out⟩
      refine wpAnyH_take (i := 0) (v := ?_) (List.getElem?_toArray.trans rfl) (by kernel_rfl) (by kernel_rfl) (by kernel_rfl) (fun _ _ _ h => h) (Or.inl ⟨by rfl, ?_⟩) (by assumption) ?_
      rotate_left
      · (intro w hSw; (try dsimp only at hSw); obtain ⟨hs1, hs2⟩ := hSw; go_simp; try with_reducible rfl)
      (try simp only [Act.put, List.setIfInBounds_toArray, List.set_cons_zero, List.set_cons_succ])
      refine wpAnyH_take (i := 1) (v := ?_) (List.getElem?_toArray.trans rfl) (by kernel_rfl) (by kernel_rfl) (by kernel_rfl) (fun _ _ _ h => h) (Or.inl ⟨by rfl, ?_⟩) (by assumption) ?_
      rotate_left
      · (intro w hSw; (try dsimp only at hSw); obtain ⟨hs1, hs2⟩ := hSw; go_simp; try with_reducible rfl)
      (try simp only [Act.put, List.setIfInBounds_toArray, List.set_cons_zero, List.set_cons_succ])
      refine wpAnyH_take (i := 2) (v := ?_) (List.getElem?_toArray.trans rfl) (by kernel_rfl) (by kernel_rfl) (by kernel_rfl) (fun _ _ _ h => h) (Or.inl ⟨by rfl, ?_⟩) (by assumption) ?_
      rotate_left
      · (intro w hSw; (try dsimp only at hSw); obtain ⟨hs1, hs2⟩ := hSw; go_simp; try with_reducible rfl)
      (try simp only [Act.put, List.setIfInBounds_toArray, List.set_cons_zero, List.set_cons_succ])
      refine wpAnyH_take (i := 3) (v := ?_) (List.getElem?_toArray.trans rfl) (by kernel_rfl) (by kernel_rfl) (by kernel_rfl) (fun _ _ _ h => h) (Or.inl ⟨by rfl, ?_⟩) (by assumption) ?_
      rotate_left
      · (intro w hSw; (try dsimp only at hSw); refine run_load_arr 65 (.tmp 5) ?_ W.heap.size ?_ 65 .u32 (G.set 12 (m + (j : Nat))) 16 23 hSw.2 Try.underlying65 size65 (by rw [List.length_set]; exact HL.out) <;> rfl)
      (try simp only [Act.put, List.setIfInBounds_toArray, List.set_cons_zero, List.set_cons_succ])
      refine wpAnyH_ready (rs := [4]) (by kernel_rfl) (by simp) (AllReadyH.cons (List.getElem?_toArray.trans rfl) (fun Kx hKx => ?_) AllReadyH.nil)
      go_simp
      go_at_call 42
      refine (block_c (by rw [List.length_set]; exact HL.out) (set12_isW HGW.out (by omega) (by omega))).mono ?_
      rintro x w4 ⟨rfl, hb4⟩
      have hb4' : Below W.heap.size wr w4 := (Below.refl _ wr).drew.trans (hb4.mono (Nat.le_of_lt hlt))
      have S4 := Aside0.mk (Blk.below (w := wr.drew) hS.out hb4)
      have O4 := Aside0.mk (Blk.below (w := wr.drew) hO.out hb4)
      have hz4 : wr.heap.size ≤ w4.heap.size := hb4.size
      have k4 : w4.cell? ⟨W.heap.size, 12, none⟩ = some (.int .u32 (m + (j : Nat))) := by
        have h1 := blk_num S4.out 12 (by rw [List.length_set, HL.out]; decide)
        have h2 : (G.set 12 (m + (j : Nat))).getD 12 0 = m + (j : Nat) := by rw [List.getD_eq_getElem?_getD, List.getElem?_set_self (by rw [HL.out]; decide)]; rfl
        rwa [h2] at h1
      go_wp2_with fail
      refine hKx.out _ _ ?_ (fun hHeld => ?_)
      · exact ⟨k4, S4.out⟩
      clear hKx Kx
      (try simp only [Act.put, List.setIfInBounds_toArray, List.set_cons_zero, List.set_cons_succ])
      refine wpAnyH_ready (rs := [5]) (by kernel_rfl) (by simp) (AllReadyH.cons (List.getElem?_toArray.trans rfl) (fun Kx hKx => ?_) AllReadyH.nil)
      go_simp
      go_at_call 22
      refine (HY.out j w4 (by omega) (HJ.out _ _ _ hJj.out hb4') (by omega) (by trivial)).mono ?_
      rintro x w5 ⟨r, rfl, hK5, hT5, hF5⟩
      have S5 := Aside0.mk ((hK5.same _ (by omega) (.inl (Nat.le_refl _))).trans S4.out)
      have O5 : Aside0 (Blk w5 go 4 [.bool true]) := ⟨(hK5.same _ (Blk.lt O4.out) (.inr rfl)).trans O4.out⟩
      have hz5 := hK5.size
      have HT5 := Aside0.mk hT5
      have HF5 := Aside0.mk hF5
      have S5' : Aside0 (Blk w5 W.heap.size 65 (nums .u32 (G.set 12 (m + (j : Nat))))) := ⟨S5.out⟩
      have k5 : w5.cell? ⟨W.heap.size, 12, none⟩ = some (.int .u32 (m + (j : Nat))) := by
        have h1 := blk_num S5'.out 12 (by rw [List.length_set, HL.out]; decide)
        have h2 : (G.set 12 (m + (j : Nat))).getD 12 0 = m + (j : Nat) := by rw [List.getD_eq_getElem?_getD, List.getElem?_set_self (by rw [HL.out]; decide)]; rfl
        rwa [h2] at h1
      have f5 := Blk.frozen S5'.out 12
      clear hT5 hF5 k4 k12
      go_wp2_with fail
      refine hKx.out _ _ ?_ (fun hHeld => ?_)
      · exact ⟨k5, S5'.out⟩
      clear hKx Kx
      (try simp only [Act.put, List.setIfInBounds_toArray, List.set_cons_zero, List.set_cons_succ])
      refine wpAnyH_take (i := 6) (v := ?_) (List.getElem?_toArray.trans rfl) (by kernel_rfl) (by kernel_rfl) (by kernel_rfl) (fun _ _ _ h => h) (Or.inl ⟨by rfl, ?_⟩) (by assumption) ?_
      rotate_left
      · (intro w hSw; (try dsimp only at hSw); obtain ⟨hs1, hs2⟩ := hSw; go_simp; try with_reducible rfl)
      (try simp only [Act.put, List.setIfInBounds_toArray, List.set_cons_zero, List.set_cons_succ])
      refine wpAnyH_done (by kernel_rfl) ?_ _
      cases r with
      | true =>
        have HJ5 := Aside0.mk (HT5.out rfl)
        clear HT5 HF5
        by_cases hend : j + 1 < N
        · have e1 : (m + (j : Nat) + 1) % 4294967296 = m + (j : Nat) + 1 := by omega
          have e2 : ¬ (m + (j : Nat) + 1 = 0) := by omega
          have S6 : Aside0 (Blk (w5.setCell ⟨W.heap.size, 12, none⟩ (.int .u32 (m + (j : Nat) + 1))) W.heap.size 65 (nums .u32 (G.set 12 (m + ((j + 1 : Nat) : Int))))) := ⟨by have h1 := CiC.blk_put S5'.out 12 (m + (j : Nat) + 1); rw [List.set_set] at h1; rw [show m + ((j + 1 : Nat) : Int) = m + (j : Nat) + 1 by omega]; exact h1⟩
          have B6 : Below W.heap.size w5 (w5.setCell ⟨W.heap.size, 12, none⟩ (.int .u32 (m + (j : Nat) + 1))) := (Below.refl _ _).setCell (p := ⟨W.heap.size, 12, none⟩) (Nat.le_refl _) _
          have J6 : Aside0 (J (j + 1) (w5.setCell ⟨W.heap.size, 12, none⟩ (.int .u32 (m + (j : Nat) + 1)))) := ⟨HJ.out _ _ _ HJ5.out B6⟩
          have O6 : Aside0 (Blk (w5.setCell ⟨W.heap.size, 12, none⟩ (.int .u32 (m + (j : Nat) + 1))) go 4 [.bool true]) := ⟨ItA.Blk.below' O5.out B6 hgo.out⟩
          have L6 := Blk.lt S6.out
          go_wp2_with fail
          go_roundg (gk - 1)
          case measure => omega
          case rel => exact ⟨j + 1, by omega, S6, J6, O6, L6, (fun _ => hend), (fun h => by cases h)⟩
        · have e1 : (m + (j : Nat) + 1) % 4294967296 = 0 := by omega
          have B6 : Below W.heap.size w5 (w5.setCell ⟨W.heap.size, 12, none⟩ (.int .u32 0)) := (Below.refl _ _).setCell (p := ⟨W.heap.size, 12, none⟩) (Nat.le_refl _) _
          have J6 : Aside0 (J (j + 1) (w5.setCell ⟨W.heap.size, 12, none⟩ (.int .u32 0))) := ⟨HJ.out _ _ _ HJ5.out B6⟩
          have hjn : Aside0 ((4294967296 - m).toNat = j + 1) := ⟨by rw [HN.out]; omega⟩
          go_wp2_with fail
          exact bodyPost_ret (v := .tuple #[]) (by simp [results, Try.results46, go_sem]) rfl ⟨⟨_, rfl⟩, Or.inl (by rw [hjn.out]; exact J6.out)⟩
      | false =>
        have HX5 := Aside0.mk (HF5.out rfl)
        clear HT5 HF5
        have hjn : Aside0 (j + 1 ≤ (4294967296 - m).toNat) := ⟨by rw [HN.out]; omega⟩
        go_wp2_with fail
        exact bodyPost_ret (v := .tuple #[]) (by simp [results, Try.results46, go_sem]) rfl ⟨⟨_, rfl⟩, Or.inr ⟨j, hjn.out, HX5.out⟩⟩
end Go.Proofs.Ytkjmjgiklelpiaa.GvA
