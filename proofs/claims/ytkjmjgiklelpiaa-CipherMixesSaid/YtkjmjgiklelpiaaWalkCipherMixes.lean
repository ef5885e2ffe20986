/- CipherMixes, walked. -/
import Derived.Test.YtkjmjgiklelpiaaApp
import Derived.Test.YtkjmjgiklelpiaaQuart
import Derived.Test.YtkjmjgiklelpiaaPlainCipherBlocks
import Derived.Deep.RegionHeld3
import Derived.Deep.Cut
import Derived.Deep.CutRange
import Derived.Test.YtkjmjgiklelpiaaMxC
import Derived.Test.YtkjmjgiklelpiaaCiA
namespace Go.Proofs.Ytkjmjgiklelpiaa.WalkCipherMixes
open Go.RowKit Go.Proofs.YtkjmjgiklelpiaaW.PrintWords Go.Proofs.Ytkjmjgiklelpiaa.Num Go.Proofs.Ytkjmjgiklelpiaa.WordC Go.Proofs.Ytkjmjgiklelpiaa.Arr Go.Proofs.Ytkjmjgiklelpiaa.App Go.Proofs.Ytkjmjgiklelpiaa.CiC Go.Proofs.Ytkjmjgiklelpiaa.CiD Go.Proofs.Ytkjmjgiklelpiaa.CiB Go.Proofs.Ytkjmjgiklelpiaa.CiK Go.Proofs.Ytkjmjgiklelpiaa.CiL Go.Proofs.Ytkjmjgiklelpiaa.CiM Go.Proofs.Ytkjmjgiklelpiaa.CiA Go.Proofs.Ytkjmjgiklelpiaa.Rz Go.Proofs.Ytkjmjgiklelpiaa.ItA Go.Proofs.Ytkjmjgiklelpiaa.MxA Go.Proofs.Ytkjmjgiklelpiaa.MxB Go.Proofs.Ytkjmjgiklelpiaa.MxC
set_option linter.unusedVariables false
set_option linter.unusedSimpArgs false

set_option maxHeartbeats 8000000 in
set_option maxRecDepth 100000 in
theorem walk (A : Option Addr) (n c : Nat) (k : List Int) {w : World} (hr : Rd w A n c k) (hB : IsB k) (hn : n ≤ 140737488351232) (A' : Option Addr) (m c' : Nat) (o : List Int) (hr' : Rd w A' m c' o) (hB' : IsB o) (hn' : m ≤ 140737488351232) (z : Int) (hz : (Lit.int .u32 z).wf = true) (A'' : Option Addr) (p c'' : Nat) (b : List Int) (hr'' : Rd w A'' p c'' b) (hB'' : IsB b) (hn'' : p ≤ 140737488351232) :
    Calls Try.prog 5 #[.agg #[.slice A n c, .slice A' m c', .int .u32 z, .slice A'' p c'']] w fun e w' => e = .returned (.bool true) ∧ Below w.heap.size w w' := by
  obtain ⟨z0, z1⟩ := wf_u32 hz
  have HL := Aside0.mk hr.len
  have HL' := Aside0.mk hr'.len
  have HL'' := Aside0.mk hr''.len
  have HR := Aside0.mk hr
  have HR' := Aside0.mk hr'
  have HR'' := Aside0.mk hr''
  have hb0 : Below w.heap.size w (w.alloc (.cells #[.slice A n c, .slice A' m c', .int .u32 z, .slice A'' p c''] 40)) := (Below.refl _ w).alloc (Nat.le_refl _) _
  have hX0 : Blk (w.alloc (.cells #[.slice A n c, .slice A' m c', .int .u32 z, .slice A'' p c''] 40)) w.heap.size 40 [.slice A n c, .slice A' m c', .int .u32 z, .slice A'' p c''] := heap_alloc_new _ _
  clear hr hr' hr'' hz
  by_cases hp : p ≤ 4000
  · have b1 : ¬ (4000 : Int) < (p : Int) := by omega
    have hpm : p ≤ 1000000 := by omega
    have HB0 := Aside0.mk hb0
    have HX0 := Aside0.mk hX0
    clear hb0 hX0
    go_enter Try.func5, Try.ntmps5
    go_upto_region 3 with (fail)
    generalize hW : w.alloc _ = W0
    rw [hW] at HB0 HX0
    clear hW
    have kW0_3 : W0.cell? ⟨w.heap.size, 3, none⟩ = some (.slice A'' p c'') := Blk.cell HX0.out 3
    go_wp2_with fail
    refine (own16_c (HR''.out.below HB0.out) hn'').mono ?_
    rintro x w1 ⟨v1, rfl, ho1, hb1⟩
    obtain ⟨A1, c1, rfl, r1⟩ := rd_of_own ho1
    rw [HL''.out] at r1 ⊢
    have R1 := Aside0.mk r1
    have HB1 := Aside0.mk (below_next HB0.out hb1)
    have HX1 := Aside0.mk (Blk.below HX0.out hb1)
    clear ho1 r1 hb1 kW0_3
    go_upto_region 4 with (fail)
    have HBd : Aside0 (Below w1.heap.size w1 w1.drew) := ⟨(Below.refl _ w1).drew⟩
    have HBD := Aside0.mk (below_next HB1.out HBd.out)
    have HXD := Aside0.mk (Blk.below HX1.out HBd.out)
    have R1D := Aside0.mk (R1.out.below HBd.out)
    refine wp_region_held_drew (S := (fun w' => w'.cell? ⟨w.heap.size, 0, none⟩ = some (.slice A n c) ∧ w'.cell? ⟨w.heap.size, 1, none⟩ = some (.slice A' m c') ∧ w'.cell? ⟨w.heap.size, 2, none⟩ = some (.int .u32 z))) (by kernel_rfl) ?_ (fun hHeld => ?_)
    · exact ⟨Blk.cell HXD.out 0, Blk.cell HXD.out 1, Blk.cell HXD.out 2⟩
    refine wpAnyH_take (i := 0) (v := ?_) (List.getElem?_toArray.trans rfl) (by kernel_rfl) (by kernel_rfl) (by kernel_rfl) (fun _ _ _ h => h) (Or.inl ⟨by rfl, ?_⟩) (by assumption) ?_
    rotate_left
    · (intro w hSw; (try dsimp only at hSw); obtain ⟨hs0, hs1, hs2⟩ := hSw; go_simp; try with_reducible rfl)
    (try simp only [Act.put, List.setIfInBounds_toArray, List.set_cons_zero, List.set_cons_succ])
    refine wpAnyH_take (i := 1) (v := ?_) (List.getElem?_toArray.trans rfl) (by kernel_rfl) (by kernel_rfl) (by kernel_rfl) (fun _ _ _ h => h) (Or.inl ⟨by rfl, ?_⟩) (by assumption) ?_
    rotate_left
    · (intro w hSw; (try dsimp only at hSw); obtain ⟨hs0, hs1, hs2⟩ := hSw; go_simp; try with_reducible rfl)
    (try simp only [Act.put, List.setIfInBounds_toArray, List.set_cons_zero, List.set_cons_succ])
    refine wpAnyH_take (i := 3) (v := ?_) (List.getElem?_toArray.trans rfl) (by kernel_rfl) (by kernel_rfl) (by kernel_rfl) (fun _ _ _ h => h) (Or.inl ⟨by rfl, ?_⟩) (by assumption) ?_
    rotate_left
    · (intro w hSw; (try dsimp only at hSw); obtain ⟨hs0, hs1, hs2⟩ := hSw; go_simp; try with_reducible rfl)
    (try simp only [Act.put, List.setIfInBounds_toArray, List.set_cons_zero, List.set_cons_succ])
    refine wpAnyH_take (i := 4) (v := ?_) (List.getElem?_toArray.trans rfl) (by kernel_rfl) (by kernel_rfl) (by kernel_rfl) (fun _ _ _ h => h) (Or.inl ⟨by rfl, ?_⟩) (by assumption) ?_
    rotate_left
    · (intro w hSw; (try dsimp only at hSw); obtain ⟨hs0, hs1, hs2⟩ := hSw; go_simp; try with_reducible rfl)
    (try simp only [Act.put, List.setIfInBounds_toArray, List.set_cons_zero, List.set_cons_succ])
    refine wpAnyH_take (i := 6) (v := ?_) (List.getElem?_toArray.trans rfl) (by kernel_rfl) (by kernel_rfl) (by kernel_rfl) (fun _ _ _ h => h) (Or.inl ⟨by rfl, ?_⟩) (by assumption) ?_
    rotate_left
    · (intro w hSw; (try dsimp only at hSw); obtain ⟨hs0, hs1, hs2⟩ := hSw; go_simp; try with_reducible rfl)
    (try simp only [Act.put, List.setIfInBounds_toArray, List.set_cons_zero, List.set_cons_succ])
    refine wpAnyH_take (i := 7) (v := ?_) (List.getElem?_toArray.trans rfl) (by kernel_rfl) (by kernel_rfl) (by kernel_rfl) (fun _ _ _ h => h) (Or.inl ⟨by rfl, ?_⟩) (by assumption) ?_
    rotate_left
    · (intro w hSw; (try dsimp only at hSw); obtain ⟨hs0, hs1, hs2⟩ := hSw; go_simp; try with_reducible rfl)
    (try simp only [Act.put, List.setIfInBounds_toArray, List.set_cons_zero, List.set_cons_succ])
    refine wpAnyH_take (i := 8) (v := ?_) (List.getElem?_toArray.trans rfl) (by kernel_rfl) (by kernel_rfl) (by kernel_rfl) (fun _ _ _ h => h) (Or.inl ⟨by rfl, ?_⟩) (by assumption) ?_
    rotate_left
    · (intro w hSw; (try dsimp only at hSw); obtain ⟨hs0, hs1, hs2⟩ := hSw; go_simp; try with_reducible rfl)
    (try simp only [Act.put, List.setIfInBounds_toArray, List.set_cons_zero, List.set_cons_succ])
    refine wpAnyH_ready (rs := [2]) (by kernel_rfl) (by simp) (AllReadyH.cons (List.getElem?_toArray.trans rfl) (fun Kx hKx => ?_) AllReadyH.nil)
    go_simp
    go_at_call 16
    refine (own16_c (HR.out.below HBD.out) hn).mono ?_
    rintro x w2 ⟨v2, rfl, ho2, hb2⟩
    obtain ⟨A2, c2, rfl, r2⟩ := rd_of_own ho2
    rw [HL.out] at r2 ⊢
    have R2 := Aside0.mk r2
    have HB2 := Aside0.mk (below_next HBD.out hb2)
    have HX2 := Aside0.mk (Blk.below HXD.out hb2)
    have HN2 := Aside0.mk hb2
    clear ho2 r2 hb2
    go_wp2_with fail
    refine hKx.out _ _ ?_ (fun hHeld => ?_)
    · exact ⟨Blk.cell HX2.out 0, Blk.cell HX2.out 1, Blk.cell HX2.out 2⟩
    clear hKx Kx
    (try simp only [Act.put, List.setIfInBounds_toArray, List.set_cons_zero, List.set_cons_succ])
    refine wpAnyH_ready (rs := [5]) (by kernel_rfl) (by simp) (AllReadyH.cons (List.getElem?_toArray.trans rfl) (fun Kx hKx => ?_) AllReadyH.nil)
    go_simp
    go_at_call 16
    refine (own16_c (HR'.out.below HB2.out) hn').mono ?_
    rintro x w3 ⟨v3, rfl, ho3, hb3⟩
    obtain ⟨A3, c3, rfl, r3⟩ := rd_of_own ho3
    rw [HL'.out] at r3 ⊢
    have R3 := Aside0.mk r3
    have HB3 := Aside0.mk (below_next HB2.out hb3)
    have HX3 := Aside0.mk (Blk.below HX2.out hb3)
    have HN3 := Aside0.mk hb3
    clear ho3 r3 hb3
    go_wp2_with fail
    refine hKx.out _ _ ?_ (fun hHeld => ?_)
    · exact ⟨Blk.cell HX3.out 0, Blk.cell HX3.out 1, Blk.cell HX3.out 2⟩
    clear hKx Kx
    (try simp only [Act.put, List.setIfInBounds_toArray, List.set_cons_zero, List.set_cons_succ])
    refine wpAnyH_ready (rs := [9]) (by kernel_rfl) (by simp) (AllReadyH.cons (List.getElem?_toArray.trans rfl) (fun Kx hKx => ?_) AllReadyH.nil)
    go_simp
    go_at_call 23
    refine (Mix_u (R2.out.below HN3.out) R3.out ((R1D.out.below HN2.out).below HN3.out) hB hB' hB'' z0 z1 hpm).mono ?_
    rintro x w4 ⟨v4, rfl, ho4, hb4⟩
    obtain ⟨E, HE⟩ : ∃ Z, Aside0 (codeM n m z p = Z) := ⟨_, ⟨rfl⟩⟩
    rw [HE.out]
    obtain ⟨O, HO⟩ : ∃ Z, Aside0 (outM k o z b = Z) := ⟨_, ⟨rfl⟩⟩
    rw [HO.out] at ho4
    obtain ⟨A4, c4, rfl, r4⟩ := rd_of_own ho4
    have R4 := Aside0.mk r4
    have HB4 := Aside0.mk (below_next HB3.out hb4)
    have HX4 := Aside0.mk (Blk.below HX3.out hb4)
    have RB4 := Aside0.mk ((((R1D.out.below HN2.out).below HN3.out).below hb4))
    clear ho4 r4 hb4
    go_wp2_with fail
    refine hKx.out _ _ ?_ (fun hHeld => ?_)
    · exact ⟨Blk.cell HX4.out 0, Blk.cell HX4.out 1, Blk.cell HX4.out 2⟩
    clear hKx Kx
    (try simp only [Act.put, List.setIfInBounds_toArray, List.set_cons_zero, List.set_cons_succ])
    refine wpAnyH_take (i := 10) (v := ?_) (List.getElem?_toArray.trans rfl) (by kernel_rfl) (by kernel_rfl) (by kernel_rfl) (fun _ _ _ h => h) (Or.inl ⟨by rfl, ?_⟩) (by assumption) ?_
    rotate_left
    · (intro w hSw; (try dsimp only at hSw); obtain ⟨hs0, hs1, hs2⟩ := hSw; go_simp; try with_reducible rfl)
    (try simp only [Act.put, List.setIfInBounds_toArray, List.set_cons_zero, List.set_cons_succ])
    refine wpAnyH_take (i := 11) (v := ?_) (List.getElem?_toArray.trans rfl) (by kernel_rfl) (by kernel_rfl) (by kernel_rfl) (fun _ _ _ h => h) (Or.inl ⟨by rfl, ?_⟩) (by assumption) ?_
    rotate_left
    · (intro w hSw; (try dsimp only at hSw); obtain ⟨hs0, hs1, hs2⟩ := hSw; go_simp; try with_reducible rfl)
    (try simp only [Act.put, List.setIfInBounds_toArray, List.set_cons_zero, List.set_cons_succ])
    refine wpAnyH_take (i := 12) (v := ?_) (List.getElem?_toArray.trans rfl) (by kernel_rfl) (by kernel_rfl) (by kernel_rfl) (fun _ _ _ h => h) (Or.inl ⟨by rfl, ?_⟩) (by assumption) ?_
    rotate_left
    · (intro w hSw; (try dsimp only at hSw); obtain ⟨hs0, hs1, hs2⟩ := hSw; go_simp; try with_reducible rfl)
    (try simp only [Act.put, List.setIfInBounds_toArray, List.set_cons_zero, List.set_cons_succ])
    refine wpAnyH_take (i := 13) (v := ?_) (List.getElem?_toArray.trans rfl) (by kernel_rfl) (by kernel_rfl) (by kernel_rfl) (fun _ _ _ h => h) (Or.inl ⟨by rfl, ?_⟩) (by assumption) ?_
    rotate_left
    · (intro w hSw; (try dsimp only at hSw); obtain ⟨hs0, hs1, hs2⟩ := hSw; go_simp; try with_reducible rfl)
    (try simp only [Act.put, List.setIfInBounds_toArray, List.set_cons_zero, List.set_cons_succ])
    refine wpAnyH_take (i := 14) (v := ?_) (List.getElem?_toArray.trans rfl) (by kernel_rfl) (by kernel_rfl) (by kernel_rfl) (fun _ _ _ h => h) (Or.inl ⟨by rfl, ?_⟩) (by assumption) ?_
    rotate_left
    · (intro w hSw; (try dsimp only at hSw); obtain ⟨hs0, hs1, hs2⟩ := hSw; go_simp; try with_reducible rfl)
    (try simp only [Act.put, List.setIfInBounds_toArray, List.set_cons_zero, List.set_cons_succ])
    refine wpAnyH_done (by kernel_rfl) ?_ _
    have kw4_0 : w4.cell? ⟨w.heap.size, 0, none⟩ = some (.slice A n c) := Blk.cell HX4.out 0
    have kw4_1 : w4.cell? ⟨w.heap.size, 1, none⟩ = some (.slice A' m c') := Blk.cell HX4.out 1
    have kw4_2 : w4.cell? ⟨w.heap.size, 2, none⟩ = some (.int .u32 z) := Blk.cell HX4.out 2
    have kw4_3 : w4.cell? ⟨w.heap.size, 3, none⟩ = some (.slice A'' p c'') := Blk.cell HX4.out 3
    go_wp2_with fail
    refine (refMix_u (HR.out.below HB4.out) (HR'.out.below HB4.out) (HR''.out.below HB4.out) hB hB' hB'' z0 z1 hpm).mono ?_
    rintro x w5 ⟨v5, rfl, ho5, hb5⟩
    rw [HE.out]
    rw [HO.out] at ho5
    obtain ⟨A5, c5, rfl, r5⟩ := rd_of_own ho5
    have HB5 := Aside0.mk (below_next HB4.out hb5)
    have HX5 := Aside0.mk (Blk.below HX4.out hb5)
    have s1 := rd_string (R4.out.below hb5)
    have s2 := rd_string r5
    have s3 := rd_string (RB4.out.below hb5)
    have s4 := rd_string (HR''.out.below HB5.out)
    have q1 := str_self O
    have q2 := str_self b
    have q3 : (E == E) = true := beq_self_eq_true _
    clear kw4_0 kw4_1 kw4_2 kw4_3 ho5 r5 hb5
    have kw5_3 : w5.cell? ⟨w.heap.size, 3, none⟩ = some (.slice A'' p c'') := Blk.cell HX5.out 3
    go_wp2_with fail
    refine awake19_c.mono ?_
    rintro x w6 ⟨rfl, hb6⟩
    clear s1 s2 s3 s4 kw5_3
    go_wp2_with fail
    go_ret
    exact ⟨rfl, below_next HB5.out hb6⟩
  · have b1 : (4000 : Int) < (p : Int) := by omega
    have HB0 := Aside0.mk hb0
    clear hb0 hX0
    go_enter Try.func5, Try.ntmps5
    go_wp2_with fail
    refine awake19_c.mono ?_
    rintro x w5 ⟨rfl, hb5⟩
    go_wp2_with fail
    go_ret
    exact ⟨rfl, below_next HB0.out hb5⟩
end Go.Proofs.Ytkjmjgiklelpiaa.WalkCipherMixes
