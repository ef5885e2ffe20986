/- CipherParts, walked. -/
import Derived.Test.YtkjmjgiklelpiaaApp
import Derived.Test.YtkjmjgiklelpiaaQuart
import Derived.Test.YtkjmjgiklelpiaaPlainCipherBlocks
import Derived.Deep.RegionHeld3
import Derived.Deep.Cut
import Derived.Deep.CutRange
import Derived.Test.YtkjmjgiklelpiaaMxC
import Derived.Test.YtkjmjgiklelpiaaCiA
namespace Go.Proofs.Ytkjmjgiklelpiaa.WalkCipherParts
open Go.RowKit Go.Proofs.YtkjmjgiklelpiaaW.PrintWords Go.Proofs.Ytkjmjgiklelpiaa.Num Go.Proofs.Ytkjmjgiklelpiaa.WordC Go.Proofs.Ytkjmjgiklelpiaa.Arr Go.Proofs.Ytkjmjgiklelpiaa.App Go.Proofs.Ytkjmjgiklelpiaa.CiC Go.Proofs.Ytkjmjgiklelpiaa.CiD Go.Proofs.Ytkjmjgiklelpiaa.CiB Go.Proofs.Ytkjmjgiklelpiaa.CiK Go.Proofs.Ytkjmjgiklelpiaa.CiL Go.Proofs.Ytkjmjgiklelpiaa.CiM Go.Proofs.Ytkjmjgiklelpiaa.CiA Go.Proofs.Ytkjmjgiklelpiaa.Rz Go.Proofs.Ytkjmjgiklelpiaa.ItA Go.Proofs.Ytkjmjgiklelpiaa.MxA Go.Proofs.Ytkjmjgiklelpiaa.MxB Go.Proofs.Ytkjmjgiklelpiaa.MxC
set_option linter.unusedVariables false
set_option linter.unusedSimpArgs false

theorem part_c {k o b : List Int} {m : Int} (h : codeM k.length o.length m b.length = 0) (kk t : Nat) (ht : t ≤ b.length) (hk : 64 * kk < t) :
    m + (kk : Int) < 4294967296 ∧ codeM k.length o.length (m + (kk : Int)) (t - 64 * kk) = 0 ∧ outM k o (m + (kk : Int)) ((b.take t).drop (64 * kk)) = ((outM k o m b).take t).drop (64 * kk) := by
  obtain ⟨h1, h2⟩ := codeM_z.1 h
  have hl : ((b.take t).drop (64 * kk)).length = t - 64 * kk := by simp; omega
  have h3 : codeM k.length o.length (m + (kk : Int)) (t - 64 * kk) = 0 := codeM_z.2 ⟨h1, by omega⟩
  refine ⟨by omega, h3, ?_⟩
  have e1 : outM k o m b = mixT (ks (g0S k o) m) b b.length := by unfold outM; rw [if_pos h]
  have e2 : ∀ c : List Int, c.length = t - 64 * kk → outM k o (m + (kk : Int)) c = mixT (ks (g0S k o) (m + (kk : Int))) c (t - 64 * kk) := fun c hc => by unfold outM; rw [hc, if_pos h3]
  rw [e2 _ hl, e1]
  exact mixT_part kk t ht (Nat.le_of_lt hk)
theorem wf_u16 {x : Int} (h : (Lit.int .u16 x).wf = true) : 0 ≤ x ∧ x < 65536 := by
  have h' : 0 ≤ x ∧ x ≤ 65535 := by simpa [Lit.wf, IntKind.min, IntKind.max, IntKind.signed, IntKind.bits] using h
  omega
set_option maxHeartbeats 8000000 in
set_option maxRecDepth 100000 in
theorem walk (A : Option Addr) (n c : Nat) (k : List Int) {w : World} (hr : Rd w A n c k) (hB : IsB k) (hn : n ≤ 140737488351232) (A' : Option Addr) (m c' : Nat) (o : List Int) (hr' : Rd w A' m c' o) (hB' : IsB o) (hn' : m ≤ 140737488351232) (z : Int) (hz : (Lit.int .u32 z).wf = true) (A'' : Option Addr) (p c'' : Nat) (b : List Int) (hr'' : Rd w A'' p c'' b) (hB'' : IsB b) (hn'' : p ≤ 140737488351232) (at_ : Int) (hat : (Lit.int .u16 at_).wf = true) (to_ : Int) (hto : (Lit.int .u16 to_).wf = true) :
    Calls Try.prog 7 #[.agg #[.slice A n c, .slice A' m c', .int .u32 z, .slice A'' p c''], .int .u16 at_, .int .u16 to_] w fun e w' => e = .returned (.bool true) ∧ Below w.heap.size w w' := by
  obtain ⟨z0, z1⟩ := wf_u32 hz
  have HL := Aside0.mk hr.len
  have HL' := Aside0.mk hr'.len
  have HL'' := Aside0.mk hr''.len
  have HR := Aside0.mk hr
  have HR' := Aside0.mk hr'
  have HR'' := Aside0.mk hr''
  have hb0 : Below w.heap.size w (w.alloc (.cells #[.slice A n c, .slice A' m c', .int .u32 z, .slice A'' p c''] 40)) := (Below.refl _ w).alloc (Nat.le_refl _) _
  have hX0 : Blk (w.alloc (.cells #[.slice A n c, .slice A' m c', .int .u32 z, .slice A'' p c''] 40)) w.heap.size 40 [.slice A n c, .slice A' m c', .int .u32 z, .slice A'' p c''] := heap_alloc_new _ _
  clear hr hr' hr'' hz
  by_cases hp : p ≤ 4000
  · have b1 : ¬ (4000 : Int) < (p : Int) := by omega
    have hpm : p ≤ 1000000 := by omega
    have HB0 := Aside0.mk hb0
    have HX0 := Aside0.mk hX0
    clear hb0 hX0
    by_cases hE : codeM n m z p = 0
    · have HE := Aside0.mk hE
      obtain ⟨O, HO⟩ : ∃ Z, Aside0 (outM k o z b = Z) := ⟨_, ⟨rfl⟩⟩
      have HOL : Aside0 (O.length = p) := ⟨by rw [← HO.out, outM_length, HL.out, HL'.out, HL''.out, hE, if_pos rfl]⟩
      have HOB : Aside0 (IsB O) := ⟨by rw [← HO.out]; exact outM_isB hB''⟩
      go_enter Try.func7, Try.ntmps7
      go_upto_region 3 with (fail)
      generalize hW : w.alloc _ = W0
      rw [hW] at HB0 HX0
      clear hW
      have HBd : Aside0 (Below W0.heap.size W0 W0.drew) := ⟨(Below.refl _ W0).drew⟩
      have HBD := Aside0.mk (below_next HB0.out HBd.out)
      have HXD := Aside0.mk (Blk.below HX0.out HBd.out)
      refine wp_region_held_drew (S := (fun w' => w'.cell? ⟨w.heap.size, 0, none⟩ = some (.slice A n c) ∧ w'.cell? ⟨w.heap.size, 1, none⟩ = some (.slice A' m c') ∧ w'.cell? ⟨w.heap.size, 2, none⟩ = some (.int .u32 z) ∧ w'.cell? ⟨w.heap.size, 3, none⟩ = some (.slice A'' p c''))) (by kernel_rfl) ?_ (fun hHeld => ?_)
      · exact ⟨Blk.cell HXD.out 0, Blk.cell HXD.out 1, Blk.cell HXD.out 2, Blk.cell HXD.out 3⟩
      refine wpAnyH_take (i := 0) (v := ?_) (List.getElem?_toArray.trans rfl) (by kernel_rfl) (by kernel_rfl) (by kernel_rfl) (fun _ _ _ h => h) (Or.inl ⟨by rfl, ?_⟩) (by assumption) ?_
      rotate_left
      · (intro w hSw; (try dsimp only at hSw); obtain ⟨hs0, hs1, hs2, hs3⟩ := hSw; go_simp; try with_reducible rfl)
      (try simp only [Act.put, List.setIfInBounds_toArray, List.set_cons_zero, List.set_cons_succ])
      refine wpAnyH_take (i := 1) (v := ?_) (List.getElem?_toArray.trans rfl) (by kernel_rfl) (by kernel_rfl) (by kernel_rfl) (fun _ _ _ h => h) (Or.inl ⟨by rfl, ?_⟩) (by assumption) ?_
      rotate_left
      · (intro w hSw; (try dsimp only at hSw); obtain ⟨hs0, hs1, hs2, hs3⟩ := hSw; go_simp; try with_reducible rfl)
      (try simp only [Act.put, List.setIfInBounds_toArray, List.set_cons_zero, List.set_cons_succ])
      refine wpAnyH_take (i := 3) (v := ?_) (List.getElem?_toArray.trans rfl) (by kernel_rfl) (by kernel_rfl) (by kernel_rfl) (fun _ _ _ h => h) (Or.inl ⟨by rfl, ?_⟩) (by assumption) ?_
      rotate_left
      · (intro w hSw; (try dsimp only at hSw); obtain ⟨hs0, hs1, hs2, hs3⟩ := hSw; go_simp; try with_reducible rfl)
      (try simp only [Act.put, List.setIfInBounds_toArray, List.set_cons_zero, List.set_cons_succ])
      refine wpAnyH_take (i := 4) (v := ?_) (List.getElem?_toArray.trans rfl) (by kernel_rfl) (by kernel_rfl) (by kernel_rfl) (fun _ _ _ h => h) (Or.inl ⟨by rfl, ?_⟩) (by assumption) ?_
      rotate_left
      · (intro w hSw; (try dsimp only at hSw); obtain ⟨hs0, hs1, hs2, hs3⟩ := hSw; go_simp; try with_reducible rfl)
      (try simp only [Act.put, List.setIfInBounds_toArray, List.set_cons_zero, List.set_cons_succ])
      refine wpAnyH_take (i := 6) (v := ?_) (List.getElem?_toArray.trans rfl) (by kernel_rfl) (by kernel_rfl) (by kernel_rfl) (fun _ _ _ h => h) (Or.inl ⟨by rfl, ?_⟩) (by assumption) ?_
      rotate_left
      · (intro w hSw; (try dsimp only at hSw); obtain ⟨hs0, hs1, hs2, hs3⟩ := hSw; go_simp; try with_reducible rfl)
      (try simp only [Act.put, List.setIfInBounds_toArray, List.set_cons_zero, List.set_cons_succ])
      refine wpAnyH_take (i := 7) (v := ?_) (List.getElem?_toArray.trans rfl) (by kernel_rfl) (by kernel_rfl) (by kernel_rfl) (fun _ _ _ h => h) (Or.inl ⟨by rfl, ?_⟩) (by assumption) ?_
      rotate_left
      · (intro w hSw; (try dsimp only at hSw); obtain ⟨hs0, hs1, hs2, hs3⟩ := hSw; go_simp; try with_reducible rfl)
      (try simp only [Act.put, List.setIfInBounds_toArray, List.set_cons_zero, List.set_cons_succ])
      refine wpAnyH_take (i := 8) (v := ?_) (List.getElem?_toArray.trans rfl) (by kernel_rfl) (by kernel_rfl) (by kernel_rfl) (fun _ _ _ h => h) (Or.inl ⟨by rfl, ?_⟩) (by assumption) ?_
      rotate_left
      · (intro w hSw; (try dsimp only at hSw); obtain ⟨hs0, hs1, hs2, hs3⟩ := hSw; go_simp; try with_reducible rfl)
      (try simp only [Act.put, List.setIfInBounds_toArray, List.set_cons_zero, List.set_cons_succ])
      refine wpAnyH_take (i := 9) (v := ?_) (List.getElem?_toArray.trans rfl) (by kernel_rfl) (by kernel_rfl) (by kernel_rfl) (fun _ _ _ h => h) (Or.inl ⟨by rfl, ?_⟩) (by assumption) ?_
      rotate_left
      · (intro w hSw; (try dsimp only at hSw); obtain ⟨hs0, hs1, hs2, hs3⟩ := hSw; go_simp; try with_reducible rfl)
      (try simp only [Act.put, List.setIfInBounds_toArray, List.set_cons_zero, List.set_cons_succ])
      refine wpAnyH_ready (rs := [2]) (by kernel_rfl) (by simp) (AllReadyH.cons (List.getElem?_toArray.trans rfl) (fun Kx hKx => ?_) AllReadyH.nil)
      go_simp
      go_at_call 16
      refine (own16_c (HR.out.below HBD.out) hn).mono ?_
      rintro x w2 ⟨v2, rfl, ho2, hb2⟩
      obtain ⟨A2, c2, rfl, r2⟩ := rd_of_own ho2
      rw [HL.out] at r2 ⊢
      have R2 := Aside0.mk r2
      have HB2 := Aside0.mk (below_next HBD.out hb2)
      have HX2 := Aside0.mk (Blk.below HXD.out hb2)
      have HN2 := Aside0.mk hb2
      clear ho2 r2 hb2
      go_wp2_with fail
      refine hKx.out _ _ ?_ (fun hHeld => ?_)
      · exact ⟨Blk.cell HX2.out 0, Blk.cell HX2.out 1, Blk.cell HX2.out 2, Blk.cell HX2.out 3⟩
      clear hKx Kx
      (try simp only [Act.put, List.setIfInBounds_toArray, List.set_cons_zero, List.set_cons_succ])
      refine wpAnyH_ready (rs := [5]) (by kernel_rfl) (by simp) (AllReadyH.cons (List.getElem?_toArray.trans rfl) (fun Kx hKx => ?_) AllReadyH.nil)
      go_simp
      go_at_call 16
      refine (own16_c (HR'.out.below HB2.out) hn').mono ?_
      rintro x w3 ⟨v3, rfl, ho3, hb3⟩
      obtain ⟨A3, c3, rfl, r3⟩ := rd_of_own ho3
      rw [HL'.out] at r3 ⊢
      have R3 := Aside0.mk r3
      have HB3 := Aside0.mk (below_next HB2.out hb3)
      have HX3 := Aside0.mk (Blk.below HX2.out hb3)
      have HN3 := Aside0.mk hb3
      clear ho3 r3 hb3
      go_wp2_with fail
      refine hKx.out _ _ ?_ (fun hHeld => ?_)
      · exact ⟨Blk.cell HX3.out 0, Blk.cell HX3.out 1, Blk.cell HX3.out 2, Blk.cell HX3.out 3⟩
      clear hKx Kx
      (try simp only [Act.put, List.setIfInBounds_toArray, List.set_cons_zero, List.set_cons_succ])
      refine wpAnyH_ready (rs := [10]) (by kernel_rfl) (by simp) (AllReadyH.cons (List.getElem?_toArray.trans rfl) (fun Kx hKx => ?_) AllReadyH.nil)
      go_simp
      go_at_call 16
      refine (own16_c (HR''.out.below HB3.out) hn'').mono ?_
      rintro x w4 ⟨v4, rfl, ho4, hb4⟩
      obtain ⟨A4, c4, rfl, r4⟩ := rd_of_own ho4
      rw [HL''.out] at r4 ⊢
      have R4 := Aside0.mk r4
      have HB4 := Aside0.mk (below_next HB3.out hb4)
      have HX4 := Aside0.mk (Blk.below HX3.out hb4)
      have HN4 := Aside0.mk hb4
      clear ho4 r4 hb4
      go_wp2_with fail
      refine hKx.out _ _ ?_ (fun hHeld => ?_)
      · exact ⟨Blk.cell HX4.out 0, Blk.cell HX4.out 1, Blk.cell HX4.out 2, Blk.cell HX4.out 3⟩
      clear hKx Kx
      (try simp only [Act.put, List.setIfInBounds_toArray, List.set_cons_zero, List.set_cons_succ])
      refine wpAnyH_ready (rs := [11]) (by kernel_rfl) (by simp) (AllReadyH.cons (List.getElem?_toArray.trans rfl) (fun Kx hKx => ?_) AllReadyH.nil)
      go_simp
      go_at_call 23
      refine (Mix_u ((R2.out.below HN3.out).below HN4.out) (R3.out.below HN4.out) R4.out hB hB' hB'' z0 z1 hpm).mono ?_
      rintro x w5 ⟨v5, rfl, ho5, hb5⟩
      rw [HE.out]
      rw [HO.out] at ho5
      obtain ⟨A5, c5, rfl, r5⟩ := rd_of_own ho5
      rw [HOL.out] at r5 ⊢
      have R5 := Aside0.mk r5
      have HB5 := Aside0.mk (below_next HB4.out hb5)
      have HX5 := Aside0.mk (Blk.below HX4.out hb5)
      clear ho5 r5 hb5
      go_wp2_with fail
      refine hKx.out _ _ ?_ (fun hHeld => ?_)
      · exact ⟨Blk.cell HX5.out 0, Blk.cell HX5.out 1, Blk.cell HX5.out 2, Blk.cell HX5.out 3⟩
      clear hKx Kx
      (try simp only [Act.put, List.setIfInBounds_toArray, List.set_cons_zero, List.set_cons_succ])
      refine wpAnyH_take (i := 12) (v := ?_) (List.getElem?_toArray.trans rfl) (by kernel_rfl) (by kernel_rfl) (by kernel_rfl) (fun _ _ _ h => h) (Or.inl ⟨by rfl, ?_⟩) (by assumption) ?_
      rotate_left
      · (intro w hSw; (try dsimp only at hSw); obtain ⟨hs0, hs1, hs2, hs3⟩ := hSw; go_simp; try with_reducible rfl)
      (try simp only [Act.put, List.setIfInBounds_toArray, List.set_cons_zero, List.set_cons_succ])
      refine wpAnyH_take (i := 13) (v := ?_) (List.getElem?_toArray.trans rfl) (by kernel_rfl) (by kernel_rfl) (by kernel_rfl) (fun _ _ _ h => h) (Or.inl ⟨by rfl, ?_⟩) (by assumption) ?_
      rotate_left
      · (intro w hSw; (try dsimp only at hSw); obtain ⟨hs0, hs1, hs2, hs3⟩ := hSw; go_simp; try with_reducible rfl)
      (try simp only [Act.put, List.setIfInBounds_toArray, List.set_cons_zero, List.set_cons_succ])
      refine wpAnyH_take (i := 14) (v := ?_) (List.getElem?_toArray.trans rfl) (by kernel_rfl) (by kernel_rfl) (by kernel_rfl) (fun _ _ _ h => h) (Or.inl ⟨by rfl, ?_⟩) (by assumption) ?_
      rotate_left
      · (intro w hSw; (try dsimp only at hSw); obtain ⟨hs0, hs1, hs2, hs3⟩ := hSw; go_simp; try with_reducible rfl)
      (try simp only [Act.put, List.setIfInBounds_toArray, List.set_cons_zero, List.set_cons_succ])
      refine wpAnyH_take (i := 15) (v := ?_) (List.getElem?_toArray.trans rfl) (by kernel_rfl) (by kernel_rfl) (by kernel_rfl) (fun _ _ _ h => h) (Or.inl ⟨by rfl, ?_⟩) (by assumption) ?_
      rotate_left
      · (intro w hSw; (try dsimp only at hSw); obtain ⟨hs0, hs1, hs2, hs3⟩ := hSw; go_simp; try with_reducible rfl)
      (try simp only [Act.put, List.setIfInBounds_toArray, List.set_cons_zero, List.set_cons_succ])
      refine wpAnyH_take (i := 16) (v := ?_) (List.getElem?_toArray.trans rfl) (by kernel_rfl) (by kernel_rfl) (by kernel_rfl) (fun _ _ _ h => h) (Or.inl ⟨by rfl, ?_⟩) (by assumption) ?_
      rotate_left
      · (intro w hSw; (try dsimp only at hSw); obtain ⟨hs0, hs1, hs2, hs3⟩ := hSw; go_simp; try with_reducible rfl)
      (try simp only [Act.put, List.setIfInBounds_toArray, List.set_cons_zero, List.set_cons_succ])
      refine wpAnyH_done (by kernel_rfl) ?_ _
      have kw5_0 : w5.cell? ⟨w.heap.size, 0, none⟩ = some (.slice A n c) := Blk.cell HX5.out 0
      have kw5_1 : w5.cell? ⟨w.heap.size, 1, none⟩ = some (.slice A' m c') := Blk.cell HX5.out 1
      have kw5_2 : w5.cell? ⟨w.heap.size, 2, none⟩ = some (.int .u32 z) := Blk.cell HX5.out 2
      have kw5_3 : w5.cell? ⟨w.heap.size, 3, none⟩ = some (.slice A'' p c'') := Blk.cell HX5.out 3
      have hat0 := wf_u16 hat
      have hto0 := wf_u16 hto
      obtain ⟨t, HTT⟩ : ∃ Z : Nat, Aside0 (to_.toNat % (p + 1) = Z) := ⟨_, ⟨rfl⟩⟩
      have ht : t ≤ p := by have := HTT.out; have := Nat.mod_lt to_.toNat (show p + 1 > 0 by omega); omega
      obtain ⟨kk, HKK⟩ : ∃ Z : Nat, Aside0 (at_.toNat % (t / 64 + 1) = Z) := ⟨_, ⟨rfl⟩⟩
      have hkk : kk ≤ t / 64 := by have := HKK.out; have := Nat.mod_lt at_.toNat (show t / 64 + 1 > 0 by omega); omega
      have e1 : Int.tmod to_ ((p : Int) + 1) = (t : Int) := by rw [Int.tmod_eq_emod_of_nonneg (by omega), ← HTT.out, Int.natCast_emod, Int.toNat_of_nonneg hto0.1]; rfl
      obtain ⟨qt, HQT⟩ : ∃ Z : Nat, Aside0 (t / 64 = Z) := ⟨_, ⟨rfl⟩⟩
      have e2 : Int.tdiv (t : Int) 64 = (qt : Int) := by rw [Int.tdiv_eq_ediv_of_nonneg (by omega)]; have := HQT.out; omega
      rw [HQT.out] at HKK hkk
      have e3 : Int.tmod at_ ((qt : Int) + 1) = (kk : Int) := by rw [Int.tmod_eq_emod_of_nonneg (by omega), ← HKK.out, Int.natCast_emod, Int.toNat_of_nonneg hat0.1]; rfl
      have hqt : 64 * qt ≤ t := by have := HQT.out; omega
      have hqt' : qt ≤ 4000 := by omega
      by_cases hke : kk * 64 = t
      · have hke' : (kk : Int) * 64 = (t : Int) := by omega
        go_wp2_with fail
        refine awake19_c.mono ?_
        rintro x w9 ⟨rfl, hb9⟩
        go_wp2_with fail
        go_ret
        exact ⟨rfl, below_next HB5.out hb9⟩
      · have hke' : ¬ (kk : Int) * 64 = (t : Int) := by omega
        have hlt : 64 * kk < t := by omega
        obtain ⟨hz2, hcd, hout⟩ := part_c (k := k) (o := o) (b := b) (m := z) (by rw [HL.out, HL'.out, HL''.out]; exact hE) kk t (by rw [HL''.out]; exact ht) hlt
        rw [HL.out, HL'.out] at hcd
        rw [HO.out] at hout
        obtain ⟨D, HDD⟩ : ∃ Z, Aside0 ((b.take t).drop (64 * kk) = Z) := ⟨_, ⟨rfl⟩⟩
        obtain ⟨P, HPP⟩ : ∃ Z, Aside0 ((O.take t).drop (64 * kk) = Z) := ⟨_, ⟨rfl⟩⟩
        have HDL : Aside0 (D.length = t - 64 * kk) := ⟨by rw [← HDD.out]; have := HL''.out; simp; omega⟩
        have HPL : Aside0 (P.length = t - 64 * kk) := ⟨by rw [← HPP.out]; have := HOL.out; simp; omega⟩
        have HDB : Aside0 (IsB D) := ⟨by rw [← HDD.out]; exact fun x hx => hB'' x (List.mem_of_mem_take (List.mem_of_mem_drop hx))⟩
        rw [HDD.out, HPP.out] at hout
        have HOUT := Aside0.mk hout
        have HCD := Aside0.mk hcd
        clear hout hcd
        have e5 : (z + (kk : Int)) % 4294967296 = z + (kk : Int) := by omega
        have e6 : (kk : Int) % 4294967296 = (kk : Int) := by omega
        go_upto_region 10 with (fail)
        clear kw5_0 kw5_1 kw5_2 kw5_3
        have HBd2 : Aside0 (Below w5.heap.size w5 w5.drew) := ⟨(Below.refl _ w5).drew⟩
        have HBE := Aside0.mk (below_next HB5.out HBd2.out)
        have HXE := Aside0.mk (Blk.below HX5.out HBd2.out)
        have R5E := Aside0.mk (R5.out.below HBd2.out)
        have HKT : Aside0 ((kk : Int) * 64 = ((64 * kk : Nat) : Int)) := ⟨by omega⟩
        have hkr : (kk : Int) * 64 < 100000 := by omega
        have hwr : IntKind.i64.wrap ((kk : Int) * 64) = (kk : Int) * 64 := by rw [IntKind.wrap_i64]; omega
        have hw1 : IntKind.u32.wrap (kk : Int) = (kk : Int) := by rw [IntKind.wrap_u32]; omega
        have hw2 : IntKind.u32.wrap (z + (kk : Int)) = z + (kk : Int) := by rw [IntKind.wrap_u32]; omega
        obtain ⟨A20, c20, hcut, hrd20⟩ := rd_slice (HR''.out.below HBE.out) (64 * kk) t HKT.out rfl (by omega) ht
        rw [HDD.out] at hrd20
        have R20 := Aside0.mk hrd20
        clear hrd20
        refine wp_region_held_drew (S := (fun w' => w'.cell? ⟨w.heap.size, 0, none⟩ = some (.slice A n c) ∧ w'.cell? ⟨w.heap.size, 1, none⟩ = some (.slice A' m c') ∧ w'.cell? ⟨w.heap.size, 2, none⟩ = some (.int .u32 z) ∧ w'.cell? ⟨w.heap.size, 3, none⟩ = some (.slice A'' p c''))) (by kernel_rfl) ?_ (fun hHeld => ?_)
        · exact ⟨Blk.cell HXE.out 0, Blk.cell HXE.out 1, Blk.cell HXE.out 2, Blk.cell HXE.out 3⟩
        refine wpAnyH_take (i := 0) (v := ?_) (List.getElem?_toArray.trans rfl) (by kernel_rfl) (by kernel_rfl) (by kernel_rfl) (fun _ _ _ h => h) (Or.inl ⟨by rfl, ?_⟩) (by assumption) ?_
        rotate_left
        · (intro w hSw; (try dsimp only at hSw); obtain ⟨hs0, hs1, hs2, hs3⟩ := hSw; go_simp; try with_reducible rfl)
        (try simp only [Act.put, List.setIfInBounds_toArray, List.set_cons_zero, List.set_cons_succ])
        refine wpAnyH_take (i := 1) (v := ?_) (List.getElem?_toArray.trans rfl) (by kernel_rfl) (by kernel_rfl) (by kernel_rfl) (fun _ _ _ h => h) (Or.inl ⟨by rfl, ?_⟩) (by assumption) ?_
        rotate_left
        · (intro w hSw; (try dsimp only at hSw); obtain ⟨hs0, hs1, hs2, hs3⟩ := hSw; go_simp; try with_reducible rfl)
        (try simp only [Act.put, List.setIfInBounds_toArray, List.set_cons_zero, List.set_cons_succ])
        refine wpAnyH_take (i := 3) (v := ?_) (List.getElem?_toArray.trans rfl) (by kernel_rfl) (by kernel_rfl) (by kernel_rfl) (fun _ _ _ h => h) (Or.inl ⟨by rfl, ?_⟩) (by assumption) ?_
        rotate_left
        · (intro w hSw; (try dsimp only at hSw); obtain ⟨hs0, hs1, hs2, hs3⟩ := hSw; go_simp; try with_reducible rfl)
        (try simp only [Act.put, List.setIfInBounds_toArray, List.set_cons_zero, List.set_cons_succ])
        refine wpAnyH_take (i := 4) (v := ?_) (List.getElem?_toArray.trans rfl) (by kernel_rfl) (by kernel_rfl) (by kernel_rfl) (fun _ _ _ h => h) (Or.inl ⟨by rfl, ?_⟩) (by assumption) ?_
        rotate_left
        · (intro w hSw; (try dsimp only at hSw); obtain ⟨hs0, hs1, hs2, hs3⟩ := hSw; go_simp; try with_reducible rfl)
        (try simp only [Act.put, List.setIfInBounds_toArray, List.set_cons_zero, List.set_cons_succ])
        refine wpAnyH_take (i := 6) (v := ?_) (List.getElem?_toArray.trans rfl) (by kernel_rfl) (by kernel_rfl) (by kernel_rfl) (fun _ _ _ h => h) (Or.inl ⟨by rfl, ?_⟩) (by assumption) ?_
        rotate_left
        · (intro w hSw; (try dsimp only at hSw); obtain ⟨hs0, hs1, hs2, hs3⟩ := hSw; go_simp; try with_reducible rfl)
        (try simp only [Act.put, List.setIfInBounds_toArray, List.set_cons_zero, List.set_cons_succ])
        refine wpAnyH_take (i := 7) (v := ?_) (List.getElem?_toArray.trans rfl) (by kernel_rfl) (by kernel_rfl) (by kernel_rfl) (fun _ _ _ h => h) (Or.inl ⟨by rfl, ?_⟩) (by assumption) ?_
        rotate_left
        · (intro w hSw; (try dsimp only at hSw); obtain ⟨hs0, hs1, hs2, hs3⟩ := hSw; go_simp; try with_reducible rfl)
        (try simp only [Act.put, List.setIfInBounds_toArray, List.set_cons_zero, List.set_cons_succ])
        refine wpAnyH_take (i := 8) (v := ?_) (List.getElem?_toArray.trans rfl) (by kernel_rfl) (by kernel_rfl) (by kernel_rfl) (fun _ _ _ h => h) (Or.inl ⟨by rfl, ?_⟩) (by assumption) ?_
        rotate_left
        · (intro w hSw; (try dsimp only at hSw); obtain ⟨hs0, hs1, hs2, hs3⟩ := hSw; go_simp; try with_reducible rfl)
        (try simp only [Act.put, List.setIfInBounds_toArray, List.set_cons_zero, List.set_cons_succ])
        refine wpAnyH_take (i := 9) (v := ?_) (List.getElem?_toArray.trans rfl) (by kernel_rfl) (by kernel_rfl) (by kernel_rfl) (fun _ _ _ h => h) (Or.inl ⟨by rfl, ?_⟩) (by assumption) ?_
        rotate_left
        · (intro w hSw; (try dsimp only at hSw); obtain ⟨hs0, hs1, hs2, hs3⟩ := hSw; go_simp; try with_reducible rfl)
        (try simp only [Act.put, List.setIfInBounds_toArray, List.set_cons_zero, List.set_cons_succ])
        refine wpAnyH_take (i := 10) (v := ?_) (List.getElem?_toArray.trans rfl) (by kernel_rfl) (by kernel_rfl) (by kernel_rfl) (fun _ _ _ h => h) (Or.inl ⟨by rfl, ?_⟩) (by assumption) ?_
        rotate_left
        · (intro w hSw; (try dsimp only at hSw); obtain ⟨hs0, hs1, hs2, hs3⟩ := hSw; go_simp; try with_reducible rfl)
        (try simp only [Act.put, List.setIfInBounds_toArray, List.set_cons_zero, List.set_cons_succ])
        refine wpAnyH_take (i := 11) (v := ?_) (List.getElem?_toArray.trans rfl) (by kernel_rfl) (by kernel_rfl) (by kernel_rfl) (fun _ _ _ h => h) (Or.inl ⟨by rfl, ?_⟩) (by assumption) ?_
        rotate_left
        · (intro w hSw; (try dsimp only at hSw); obtain ⟨hs0, hs1, hs2, hs3⟩ := hSw; go_simp; try with_reducible rfl)
        (try simp only [Act.put, List.setIfInBounds_toArray, List.set_cons_zero, List.set_cons_succ])
        refine wpAnyH_take (i := 12) (v := ?_) (List.getElem?_toArray.trans rfl) (by kernel_rfl) (by kernel_rfl) (by kernel_rfl) (fun _ _ _ h => h) (Or.inl ⟨by rfl, ?_⟩) (by assumption) ?_
        rotate_left
        · (intro w hSw; (try dsimp only at hSw); obtain ⟨hs0, hs1, hs2, hs3⟩ := hSw; go_simp; try with_reducible rfl)
        (try simp only [Act.put, List.setIfInBounds_toArray, List.set_cons_zero, List.set_cons_succ])
        refine wpAnyH_take (i := 13) (v := ?_) (List.getElem?_toArray.trans rfl) (by kernel_rfl) (by kernel_rfl) (by kernel_rfl) (fun _ _ _ h => h) (Or.inl ⟨by rfl, ?_⟩) (by assumption) ?_
        rotate_left
        · (intro w hSw; (try dsimp only at hSw); obtain ⟨hs0, hs1, hs2, hs3⟩ := hSw; go_simp; try with_reducible rfl)
        (try simp only [Act.put, List.setIfInBounds_toArray, List.set_cons_zero, List.set_cons_succ])
        refine wpAnyH_take (i := 14) (v := ?_) (List.getElem?_toArray.trans rfl) (by kernel_rfl) (by kernel_rfl) (by kernel_rfl) (fun _ _ _ h => h) (Or.inl ⟨by rfl, ?_⟩) (by assumption) ?_
        rotate_left
        · (intro w hSw; (try dsimp only at hSw); obtain ⟨hs0, hs1, hs2, hs3⟩ := hSw; go_simp; try with_reducible rfl)
        (try simp only [Act.put, List.setIfInBounds_toArray, List.set_cons_zero, List.set_cons_succ])
        refine wpAnyH_take (i := 15) (v := ?_) (List.getElem?_toArray.trans rfl) (by kernel_rfl) (by kernel_rfl) (by kernel_rfl) (fun _ _ _ h => h) (Or.inl ⟨by rfl, ?_⟩) (by assumption) ?_
        rotate_left
        · (intro w hSw; (try dsimp only at hSw); obtain ⟨hs0, hs1, hs2, hs3⟩ := hSw; go_simp; try with_reducible rfl)
        (try simp only [Act.put, List.setIfInBounds_toArray, List.set_cons_zero, List.set_cons_succ])
        refine wpAnyH_take (i := 16) (v := ?_) (List.getElem?_toArray.trans rfl) (by kernel_rfl) (by kernel_rfl) (by kernel_rfl) (fun _ _ _ h => h) (Or.inl ⟨by rfl, ?_⟩) (by assumption) ?_
        rotate_left
        · (intro w hSw; (try dsimp only at hSw); obtain ⟨hs0, hs1, hs2, hs3⟩ := hSw; go_simp; try with_reducible rfl)
        (try simp only [Act.put, List.setIfInBounds_toArray, List.set_cons_zero, List.set_cons_succ])
        refine wpAnyH_ready (rs := [2]) (by kernel_rfl) (by simp) (AllReadyH.cons (List.getElem?_toArray.trans rfl) (fun Kx hKx => ?_) AllReadyH.nil)
        go_simp
        go_at_call 16
        refine (own16_c (HR.out.below HBE.out) hn).mono ?_
        rintro x w6 ⟨v6, rfl, ho6, hb6⟩
        obtain ⟨A6, c6, rfl, r6⟩ := rd_of_own ho6
        rw [HL.out] at r6 ⊢
        have R6 := Aside0.mk r6
        have HB6 := Aside0.mk (below_next HBE.out hb6)
        have HX6 := Aside0.mk (Blk.below HXE.out hb6)
        have HN6 := Aside0.mk hb6
        clear ho6 r6 hb6
        go_wp2_with fail
        refine hKx.out _ _ ?_ (fun hHeld => ?_)
        · exact ⟨Blk.cell HX6.out 0, Blk.cell HX6.out 1, Blk.cell HX6.out 2, Blk.cell HX6.out 3⟩
        clear hKx Kx
        (try simp only [Act.put, List.setIfInBounds_toArray, List.set_cons_zero, List.set_cons_succ])
        refine wpAnyH_ready (rs := [5]) (by kernel_rfl) (by simp) (AllReadyH.cons (List.getElem?_toArray.trans rfl) (fun Kx hKx => ?_) AllReadyH.nil)
        go_simp
        go_at_call 16
        refine (own16_c (HR'.out.below HB6.out) hn').mono ?_
        rintro x w7 ⟨v7, rfl, ho7, hb7⟩
        obtain ⟨A7, c7, rfl, r7⟩ := rd_of_own ho7
        rw [HL'.out] at r7 ⊢
        have R7 := Aside0.mk r7
        have HB7 := Aside0.mk (below_next HB6.out hb7)
        have HX7 := Aside0.mk (Blk.below HX6.out hb7)
        have HN7 := Aside0.mk hb7
        clear ho7 r7 hb7
        go_wp2_with fail
        refine hKx.out _ _ ?_ (fun hHeld => ?_)
        · exact ⟨Blk.cell HX7.out 0, Blk.cell HX7.out 1, Blk.cell HX7.out 2, Blk.cell HX7.out 3⟩
        clear hKx Kx
        (try simp only [Act.put, List.setIfInBounds_toArray, List.set_cons_zero, List.set_cons_succ])
        refine wpAnyH_ready (rs := [17]) (by kernel_rfl) (by simp) (AllReadyH.cons (List.getElem?_toArray.trans rfl) (fun Kx hKx => ?_) AllReadyH.nil)
        go_simp
        go_at_call 16
        refine (own16_c ((R20.out.below HN6.out).below HN7.out) (by omega)).mono ?_
        rintro x w8 ⟨v8, rfl, ho8, hb8⟩
        obtain ⟨A8, c8, rfl, r8⟩ := rd_of_own ho8
        rw [HDL.out] at r8 ⊢
        have R8 := Aside0.mk r8
        have HB8 := Aside0.mk (below_next HB7.out hb8)
        have HX8 := Aside0.mk (Blk.below HX7.out hb8)
        have HN8 := Aside0.mk hb8
        clear ho8 r8 hb8
        go_wp2_with fail
        refine hKx.out _ _ ?_ (fun hHeld => ?_)
        · exact ⟨Blk.cell HX8.out 0, Blk.cell HX8.out 1, Blk.cell HX8.out 2, Blk.cell HX8.out 3⟩
        clear hKx Kx
        (try simp only [Act.put, List.setIfInBounds_toArray, List.set_cons_zero, List.set_cons_succ])
        refine wpAnyH_ready (rs := [18]) (by kernel_rfl) (by simp) (AllReadyH.cons (List.getElem?_toArray.trans rfl) (fun Kx hKx => ?_) AllReadyH.nil)
        go_simp
        go_at_call 23
        refine (Mix_u ((R6.out.below HN7.out).below HN8.out) (R7.out.below HN8.out) R8.out hB hB' HDB.out (by omega) hz2 (by omega)).mono ?_
        rintro x w10 ⟨v10, rfl, ho10, hb10⟩
        rw [HCD.out]
        rw [HOUT.out] at ho10
        obtain ⟨A10, c10, rfl, r10⟩ := rd_of_own ho10
        rw [HPL.out] at r10 ⊢
        have R10 := Aside0.mk r10
        have HB10 := Aside0.mk (below_next HB8.out hb10)
        have HX10 := Aside0.mk (Blk.below HX8.out hb10)
        have R5F := Aside0.mk ((((R5E.out.below HN6.out).below HN7.out).below HN8.out).below hb10)
        clear ho10 r10 hb10
        go_wp2_with fail
        refine hKx.out _ _ ?_ (fun hHeld => ?_)
        · exact ⟨Blk.cell HX10.out 0, Blk.cell HX10.out 1, Blk.cell HX10.out 2, Blk.cell HX10.out 3⟩
        clear hKx Kx
        (try simp only [Act.put, List.setIfInBounds_toArray, List.set_cons_zero, List.set_cons_succ])
        refine wpAnyH_take (i := 19) (v := ?_) (List.getElem?_toArray.trans rfl) (by kernel_rfl) (by kernel_rfl) (by kernel_rfl) (fun _ _ _ h => h) (Or.inl ⟨by rfl, ?_⟩) (by assumption) ?_
        rotate_left
        · (intro w hSw; (try dsimp only at hSw); obtain ⟨hs0, hs1, hs2, hs3⟩ := hSw; go_simp; try with_reducible rfl)
        (try simp only [Act.put, List.setIfInBounds_toArray, List.set_cons_zero, List.set_cons_succ])
        refine wpAnyH_take (i := 20) (v := ?_) (List.getElem?_toArray.trans rfl) (by kernel_rfl) (by kernel_rfl) (by kernel_rfl) (fun _ _ _ h => h) (Or.inl ⟨by rfl, ?_⟩) (by assumption) ?_
        rotate_left
        · (intro w hSw; (try dsimp only at hSw); obtain ⟨hs0, hs1, hs2, hs3⟩ := hSw; go_simp; try with_reducible rfl)
        (try simp only [Act.put, List.setIfInBounds_toArray, List.set_cons_zero, List.set_cons_succ])
        refine wpAnyH_take (i := 21) (v := ?_) (List.getElem?_toArray.trans rfl) (by kernel_rfl) (by kernel_rfl) (by kernel_rfl) (fun _ _ _ h => h) (Or.inl ⟨by rfl, ?_⟩) (by assumption) ?_
        rotate_left
        · (intro w hSw; (try dsimp only at hSw); obtain ⟨hs0, hs1, hs2, hs3⟩ := hSw; go_simp; try with_reducible rfl)
        (try simp only [Act.put, List.setIfInBounds_toArray, List.set_cons_zero, List.set_cons_succ])
        refine wpAnyH_take (i := 22) (v := ?_) (List.getElem?_toArray.trans rfl) (by kernel_rfl) (by kernel_rfl) (by kernel_rfl) (fun _ _ _ h => h) (Or.inl ⟨by rfl, ?_⟩) (by assumption) ?_
        rotate_left
        · (intro w hSw; (try dsimp only at hSw); obtain ⟨hs0, hs1, hs2, hs3⟩ := hSw; go_simp; try with_reducible rfl)
        (try simp only [Act.put, List.setIfInBounds_toArray, List.set_cons_zero, List.set_cons_succ])
        refine wpAnyH_take (i := 23) (v := ?_) (List.getElem?_toArray.trans rfl) (by kernel_rfl) (by kernel_rfl) (by kernel_rfl) (fun _ _ _ h => h) (Or.inl ⟨by rfl, ?_⟩) (by assumption) ?_
        rotate_left
        · (intro w hSw; (try dsimp only at hSw); obtain ⟨hs0, hs1, hs2, hs3⟩ := hSw; go_simp; try with_reducible rfl)
        (try simp only [Act.put, List.setIfInBounds_toArray, List.set_cons_zero, List.set_cons_succ])
        refine wpAnyH_done (by kernel_rfl) ?_ _
        go_upto_region 11 with (fail)
        clear hcut
        obtain ⟨A21, c21, hcut, hrd21⟩ := rd_slice R5F.out (64 * kk) t HKT.out rfl (by omega) ht
        rw [HPP.out] at hrd21
        have R21 := Aside0.mk hrd21
        clear hrd21
        have HE2 : Aside0 (∀ w' : World, Below w10.heap.size w10 w' → (convert 22 9 (.slice A10 (t - 64 * kk) c10)).run Try.prog w' = .ok (.string (strOfNums P)) w' ∧ (convert 22 9 (.slice A21 (t - 64 * kk) c21)).run Try.prog w' = .ok (.string (strOfNums P)) w') := ⟨fun w' hb => ⟨rd_string (R10.out.below hb), rd_string (R21.out.below hb)⟩⟩
        have HD : Below w10.heap.size w10 w10.drew := (Below.refl _ w10).drew
        have str := str_self P
        refine wp_region_held_drew (S := (fun w' => (convert 22 9 (.slice A10 (t - 64 * kk) c10)).run Try.prog w' = .ok (.string (strOfNums P)) w' ∧ (convert 22 9 (.slice A21 (t - 64 * kk) c21)).run Try.prog w' = .ok (.string (strOfNums P)) w')) (by kernel_rfl) ?_ (fun hHeld => ?_)
        · exact HE2.out _ HD
        refine wpAnyH_take (i := 0) (v := ?_) (List.getElem?_toArray.trans rfl) (by kernel_rfl) (by kernel_rfl) (by kernel_rfl) (fun _ _ _ h => h) (Or.inl ⟨by rfl, ?_⟩) (by assumption) ?_
        rotate_left
        · (intro w hSw; (try dsimp only at hSw); obtain ⟨hs1, hs2⟩ := hSw; go_simp; try with_reducible rfl)
        (try simp only [Act.put, List.setIfInBounds_toArray, List.set_cons_zero, List.set_cons_succ])
        refine wpAnyH_take (i := 1) (v := ?_) (List.getElem?_toArray.trans rfl) (by kernel_rfl) (by kernel_rfl) (by kernel_rfl) (fun _ _ _ h => h) (Or.inl ⟨by rfl, ?_⟩) (by assumption) ?_
        rotate_left
        · (intro w hSw; (try dsimp only at hSw); obtain ⟨hs1, hs2⟩ := hSw; go_simp; try with_reducible rfl)
        (try simp only [Act.put, List.setIfInBounds_toArray, List.set_cons_zero, List.set_cons_succ])
        refine wpAnyH_take (i := 2) (v := ?_) (List.getElem?_toArray.trans rfl) (by kernel_rfl) (by kernel_rfl) (by kernel_rfl) (fun _ _ _ h => h) (Or.inl ⟨by rfl, ?_⟩) (by assumption) ?_
        rotate_left
        · (intro w hSw; (try dsimp only at hSw); obtain ⟨hs1, hs2⟩ := hSw; go_simp; try with_reducible rfl)
        (try simp only [Act.put, List.setIfInBounds_toArray, List.set_cons_zero, List.set_cons_succ])
        refine wpAnyH_take (i := 3) (v := ?_) (List.getElem?_toArray.trans rfl) (by kernel_rfl) (by kernel_rfl) (by kernel_rfl) (fun _ _ _ h => h) (Or.inl ⟨by rfl, ?_⟩) (by assumption) ?_
        rotate_left
        · (intro w hSw; (try dsimp only at hSw); obtain ⟨hs1, hs2⟩ := hSw; go_simp; try with_reducible rfl)
        (try simp only [Act.put, List.setIfInBounds_toArray, List.set_cons_zero, List.set_cons_succ])
        refine wpAnyH_take (i := 4) (v := ?_) (List.getElem?_toArray.trans rfl) (by kernel_rfl) (by kernel_rfl) (by kernel_rfl) (fun _ _ _ h => h) (Or.inl ⟨by rfl, ?_⟩) (by assumption) ?_
        rotate_left
        · (intro w hSw; (try dsimp only at hSw); obtain ⟨hs1, hs2⟩ := hSw; go_simp; try with_reducible rfl)
        (try simp only [Act.put, List.setIfInBounds_toArray, List.set_cons_zero, List.set_cons_succ])
        refine wpAnyH_take (i := 5) (v := ?_) (List.getElem?_toArray.trans rfl) (by kernel_rfl) (by kernel_rfl) (by kernel_rfl) (fun _ _ _ h => h) (Or.inl ⟨by rfl, ?_⟩) (by assumption) ?_
        rotate_left
        · (intro w hSw; (try dsimp only at hSw); obtain ⟨hs1, hs2⟩ := hSw; go_simp; try with_reducible rfl)
        (try simp only [Act.put, List.setIfInBounds_toArray, List.set_cons_zero, List.set_cons_succ])
        refine wpAnyH_take (i := 6) (v := ?_) (List.getElem?_toArray.trans rfl) (by kernel_rfl) (by kernel_rfl) (by kernel_rfl) (fun _ _ _ h => h) (Or.inl ⟨by rfl, ?_⟩) (by assumption) ?_
        rotate_left
        · (intro w hSw; (try dsimp only at hSw); obtain ⟨hs1, hs2⟩ := hSw; go_simp; try with_reducible rfl)
        (try simp only [Act.put, List.setIfInBounds_toArray, List.set_cons_zero, List.set_cons_succ])
        refine wpAnyH_take (i := 7) (v := ?_) (List.getElem?_toArray.trans rfl) (by kernel_rfl) (by kernel_rfl) (by kernel_rfl) (fun _ _ _ h => h) (Or.inl ⟨by rfl, ?_⟩) (by assumption) ?_
        rotate_left
        · (intro w hSw; (try dsimp only at hSw); obtain ⟨hs1, hs2⟩ := hSw; go_simp; try with_reducible rfl)
        (try simp only [Act.put, List.setIfInBounds_toArray, List.set_cons_zero, List.set_cons_succ])
        refine wpAnyH_take (i := 8) (v := ?_) (List.getElem?_toArray.trans rfl) (by kernel_rfl) (by kernel_rfl) (by kernel_rfl) (fun _ _ _ h => h) (Or.inl ⟨by rfl, ?_⟩) (by assumption) ?_
        rotate_left
        · (intro w hSw; (try dsimp only at hSw); obtain ⟨hs1, hs2⟩ := hSw; go_simp; try with_reducible rfl)
        (try simp only [Act.put, List.setIfInBounds_toArray, List.set_cons_zero, List.set_cons_succ])
        refine wpAnyH_take (i := 9) (v := ?_) (List.getElem?_toArray.trans rfl) (by kernel_rfl) (by kernel_rfl) (by kernel_rfl) (fun _ _ _ h => h) (Or.inl ⟨by rfl, ?_⟩) (by assumption) ?_
        rotate_left
        · (intro w hSw; (try dsimp only at hSw); obtain ⟨hs1, hs2⟩ := hSw; go_simp; try with_reducible rfl)
        (try simp only [Act.put, List.setIfInBounds_toArray, List.set_cons_zero, List.set_cons_succ])
        refine wpAnyH_take (i := 10) (v := ?_) (List.getElem?_toArray.trans rfl) (by kernel_rfl) (by kernel_rfl) (by kernel_rfl) (fun _ _ _ h => h) (Or.inl ⟨by rfl, ?_⟩) (by assumption) ?_
        rotate_left
        · (intro w hSw; (try dsimp only at hSw); obtain ⟨hs1, hs2⟩ := hSw; go_simp; try with_reducible rfl)
        (try simp only [Act.put, List.setIfInBounds_toArray, List.set_cons_zero, List.set_cons_succ])
        refine wpAnyH_take (i := 11) (v := ?_) (List.getElem?_toArray.trans rfl) (by kernel_rfl) (by kernel_rfl) (by kernel_rfl) (fun _ _ _ h => h) (Or.inl ⟨by rfl, ?_⟩) (by assumption) ?_
        rotate_left
        · (intro w hSw; (try dsimp only at hSw); obtain ⟨hs1, hs2⟩ := hSw; go_simp; try with_reducible rfl)
        (try simp only [Act.put, List.setIfInBounds_toArray, List.set_cons_zero, List.set_cons_succ])
        refine wpAnyH_take (i := 12) (v := ?_) (List.getElem?_toArray.trans rfl) (by kernel_rfl) (by kernel_rfl) (by kernel_rfl) (fun _ _ _ h => h) (Or.inl ⟨by rfl, ?_⟩) (by assumption) ?_
        rotate_left
        · (intro w hSw; (try dsimp only at hSw); obtain ⟨hs1, hs2⟩ := hSw; go_simp; try with_reducible rfl)
        (try simp only [Act.put, List.setIfInBounds_toArray, List.set_cons_zero, List.set_cons_succ])
        refine wpAnyH_take (i := 13) (v := ?_) (List.getElem?_toArray.trans rfl) (by kernel_rfl) (by kernel_rfl) (by kernel_rfl) (fun _ _ _ h => h) (Or.inl ⟨by rfl, ?_⟩) (by assumption) ?_
        rotate_left
        · (intro w hSw; (try dsimp only at hSw); obtain ⟨hs1, hs2⟩ := hSw; go_simp; try with_reducible rfl)
        (try simp only [Act.put, List.setIfInBounds_toArray, List.set_cons_zero, List.set_cons_succ])
        refine wpAnyH_ready (rs := [14]) (by kernel_rfl) (by simp) (AllReadyH.cons (List.getElem?_toArray.trans rfl) (fun Kx hKx => ?_) AllReadyH.nil)
        go_simp
        go_at_call 19
        refine awake19_c.mono ?_
        rintro x w13 ⟨rfl, hb13⟩
        have HB13 := below_next HD hb13
        go_wp2_with fail
        refine hKx.out _ _ ?_ (fun hHeld => ?_)
        · exact HE2.out _ HB13
        clear hKx Kx
        (try simp only [Act.put, List.setIfInBounds_toArray, List.set_cons_zero, List.set_cons_succ])
        refine wpAnyH_take (i := 15) (v := ?_) (List.getElem?_toArray.trans rfl) (by kernel_rfl) (by kernel_rfl) (by kernel_rfl) (fun _ _ _ h => h) (Or.inl ⟨by rfl, ?_⟩) (by assumption) ?_
        rotate_left
        · (intro w hSw; (try dsimp only at hSw); obtain ⟨hs1, hs2⟩ := hSw; go_simp; try with_reducible rfl)
        (try simp only [Act.put, List.setIfInBounds_toArray, List.set_cons_zero, List.set_cons_succ])
        refine wpAnyH_take (i := 16) (v := ?_) (List.getElem?_toArray.trans rfl) (by kernel_rfl) (by kernel_rfl) (by kernel_rfl) (fun _ _ _ h => h) (Or.inl ⟨by rfl, ?_⟩) (by assumption) ?_
        rotate_left
        · (intro w hSw; (try dsimp only at hSw); obtain ⟨hs1, hs2⟩ := hSw; go_simp; try with_reducible rfl)
        (try simp only [Act.put, List.setIfInBounds_toArray, List.set_cons_zero, List.set_cons_succ])
        refine wpAnyH_done (by kernel_rfl) ?_ _
        go_wp2_with fail
        go_ret
        exact ⟨rfl, below_next HB10.out HB13⟩
    · obtain ⟨E, HE⟩ : ∃ Z, Aside0 (codeM n m z p = Z) := ⟨_, ⟨rfl⟩⟩
      rw [HE.out] at hE
      have hE' : (E != 0) = true := bne_iff_ne.2 hE
      obtain ⟨O, HO⟩ : ∃ Z, Aside0 (outM k o z b = Z) := ⟨_, ⟨rfl⟩⟩
      have HOL : Aside0 (O.length = 0) := ⟨by rw [← HO.out, outM_length, HL.out, HL'.out, HL''.out, if_neg (by rw [HE.out]; exact hE)]⟩
      go_enter Try.func7, Try.ntmps7
      go_upto_region 3 with (fail)
      generalize hW : w.alloc _ = W0
      rw [hW] at HB0 HX0
      clear hW
      have HBd : Aside0 (Below W0.heap.size W0 W0.drew) := ⟨(Below.refl _ W0).drew⟩
      have HBD := Aside0.mk (below_next HB0.out HBd.out)
      have HXD := Aside0.mk (Blk.below HX0.out HBd.out)
      refine wp_region_held_drew (S := (fun w' => w'.cell? ⟨w.heap.size, 0, none⟩ = some (.slice A n c) ∧ w'.cell? ⟨w.heap.size, 1, none⟩ = some (.slice A' m c') ∧ w'.cell? ⟨w.heap.size, 2, none⟩ = some (.int .u32 z) ∧ w'.cell? ⟨w.heap.size, 3, none⟩ = some (.slice A'' p c''))) (by kernel_rfl) ?_ (fun hHeld => ?_)
      · exact ⟨Blk.cell HXD.out 0, Blk.cell HXD.out 1, Blk.cell HXD.out 2, Blk.cell HXD.out 3⟩
      refine wpAnyH_take (i := 0) (v := ?_) (List.getElem?_toArray.trans rfl) (by kernel_rfl) (by kernel_rfl) (by kernel_rfl) (fun _ _ _ h => h) (Or.inl ⟨by rfl, ?_⟩) (by assumption) ?_
      rotate_left
      · (intro w hSw; (try dsimp only at hSw); obtain ⟨hs0, hs1, hs2, hs3⟩ := hSw; go_simp; try with_reducible rfl)
      (try simp only [Act.put, List.setIfInBounds_toArray, List.set_cons_zero, List.set_cons_succ])
      refine wpAnyH_take (i := 1) (v := ?_) (List.getElem?_toArray.trans rfl) (by kernel_rfl) (by kernel_rfl) (by kernel_rfl) (fun _ _ _ h => h) (Or.inl ⟨by rfl, ?_⟩) (by assumption) ?_
      rotate_left
      · (intro w hSw; (try dsimp only at hSw); obtain ⟨hs0, hs1, hs2, hs3⟩ := hSw; go_simp; try with_reducible rfl)
      (try simp only [Act.put, List.setIfInBounds_toArray, List.set_cons_zero, List.set_cons_succ])
      refine wpAnyH_take (i := 3) (v := ?_) (List.getElem?_toArray.trans rfl) (by kernel_rfl) (by kernel_rfl) (by kernel_rfl) (fun _ _ _ h => h) (Or.inl ⟨by rfl, ?_⟩) (by assumption) ?_
      rotate_left
      · (intro w hSw; (try dsimp only at hSw); obtain ⟨hs0, hs1, hs2, hs3⟩ := hSw; go_simp; try with_reducible rfl)
      (try simp only [Act.put, List.setIfInBounds_toArray, List.set_cons_zero, List.set_cons_succ])
      refine wpAnyH_take (i := 4) (v := ?_) (List.getElem?_toArray.trans rfl) (by kernel_rfl) (by kernel_rfl) (by kernel_rfl) (fun _ _ _ h => h) (Or.inl ⟨by rfl, ?_⟩) (by assumption) ?_
      rotate_left
      · (intro w hSw; (try dsimp only at hSw); obtain ⟨hs0, hs1, hs2, hs3⟩ := hSw; go_simp; try with_reducible rfl)
      (try simp only [Act.put, List.setIfInBounds_toArray, List.set_cons_zero, List.set_cons_succ])
      refine wpAnyH_take (i := 6) (v := ?_) (List.getElem?_toArray.trans rfl) (by kernel_rfl) (by kernel_rfl) (by kernel_rfl) (fun _ _ _ h => h) (Or.inl ⟨by rfl, ?_⟩) (by assumption) ?_
      rotate_left
      · (intro w hSw; (try dsimp only at hSw); obtain ⟨hs0, hs1, hs2, hs3⟩ := hSw; go_simp; try with_reducible rfl)
      (try simp only [Act.put, List.setIfInBounds_toArray, List.set_cons_zero, List.set_cons_succ])
      refine wpAnyH_take (i := 7) (v := ?_) (List.getElem?_toArray.trans rfl) (by kernel_rfl) (by kernel_rfl) (by kernel_rfl) (fun _ _ _ h => h) (Or.inl ⟨by rfl, ?_⟩) (by assumption) ?_
      rotate_left
      · (intro w hSw; (try dsimp only at hSw); obtain ⟨hs0, hs1, hs2, hs3⟩ := hSw; go_simp; try with_reducible rfl)
      (try simp only [Act.put, List.setIfInBounds_toArray, List.set_cons_zero, List.set_cons_succ])
      refine wpAnyH_take (i := 8) (v := ?_) (List.getElem?_toArray.trans rfl) (by kernel_rfl) (by kernel_rfl) (by kernel_rfl) (fun _ _ _ h => h) (Or.inl ⟨by rfl, ?_⟩) (by assumption) ?_
      rotate_left
      · (intro w hSw; (try dsimp only at hSw); obtain ⟨hs0, hs1, hs2, hs3⟩ := hSw; go_simp; try with_reducible rfl)
      (try simp only [Act.put, List.setIfInBounds_toArray, List.set_cons_zero, List.set_cons_succ])
      refine wpAnyH_take (i := 9) (v := ?_) (List.getElem?_toArray.trans rfl) (by kernel_rfl) (by kernel_rfl) (by kernel_rfl) (fun _ _ _ h => h) (Or.inl ⟨by rfl, ?_⟩) (by assumption) ?_
      rotate_left
      · (intro w hSw; (try dsimp only at hSw); obtain ⟨hs0, hs1, hs2, hs3⟩ := hSw; go_simp; try with_reducible rfl)
      (try simp only [Act.put, List.setIfInBounds_toArray, List.set_cons_zero, List.set_cons_succ])
      refine wpAnyH_ready (rs := [2]) (by kernel_rfl) (by simp) (AllReadyH.cons (List.getElem?_toArray.trans rfl) (fun Kx hKx => ?_) AllReadyH.nil)
      go_simp
      go_at_call 16
      refine (own16_c (HR.out.below HBD.out) hn).mono ?_
      rintro x w2 ⟨v2, rfl, ho2, hb2⟩
      obtain ⟨A2, c2, rfl, r2⟩ := rd_of_own ho2
      rw [HL.out] at r2 ⊢
      have R2 := Aside0.mk r2
      have HB2 := Aside0.mk (below_next HBD.out hb2)
      have HX2 := Aside0.mk (Blk.below HXD.out hb2)
      have HN2 := Aside0.mk hb2
      clear ho2 r2 hb2
      go_wp2_with fail
      refine hKx.out _ _ ?_ (fun hHeld => ?_)
      · exact ⟨Blk.cell HX2.out 0, Blk.cell HX2.out 1, Blk.cell HX2.out 2, Blk.cell HX2.out 3⟩
      clear hKx Kx
      (try simp only [Act.put, List.setIfInBounds_toArray, List.set_cons_zero, List.set_cons_succ])
      refine wpAnyH_ready (rs := [5]) (by kernel_rfl) (by simp) (AllReadyH.cons (List.getElem?_toArray.trans rfl) (fun Kx hKx => ?_) AllReadyH.nil)
      go_simp
      go_at_call 16
      refine (own16_c (HR'.out.below HB2.out) hn').mono ?_
      rintro x w3 ⟨v3, rfl, ho3, hb3⟩
      obtain ⟨A3, c3, rfl, r3⟩ := rd_of_own ho3
      rw [HL'.out] at r3 ⊢
      have R3 := Aside0.mk r3
      have HB3 := Aside0.mk (below_next HB2.out hb3)
      have HX3 := Aside0.mk (Blk.below HX2.out hb3)
      have HN3 := Aside0.mk hb3
      clear ho3 r3 hb3
      go_wp2_with fail
      refine hKx.out _ _ ?_ (fun hHeld => ?_)
      · exact ⟨Blk.cell HX3.out 0, Blk.cell HX3.out 1, Blk.cell HX3.out 2, Blk.cell HX3.out 3⟩
      clear hKx Kx
      (try simp only [Act.put, List.setIfInBounds_toArray, List.set_cons_zero, List.set_cons_succ])
      refine wpAnyH_ready (rs := [10]) (by kernel_rfl) (by simp) (AllReadyH.cons (List.getElem?_toArray.trans rfl) (fun Kx hKx => ?_) AllReadyH.nil)
      go_simp
      go_at_call 16
      refine (own16_c (HR''.out.below HB3.out) hn'').mono ?_
      rintro x w4 ⟨v4, rfl, ho4, hb4⟩
      obtain ⟨A4, c4, rfl, r4⟩ := rd_of_own ho4
      rw [HL''.out] at r4 ⊢
      have R4 := Aside0.mk r4
      have HB4 := Aside0.mk (below_next HB3.out hb4)
      have HX4 := Aside0.mk (Blk.below HX3.out hb4)
      have HN4 := Aside0.mk hb4
      clear ho4 r4 hb4
      go_wp2_with fail
      refine hKx.out _ _ ?_ (fun hHeld => ?_)
      · exact ⟨Blk.cell HX4.out 0, Blk.cell HX4.out 1, Blk.cell HX4.out 2, Blk.cell HX4.out 3⟩
      clear hKx Kx
      (try simp only [Act.put, List.setIfInBounds_toArray, List.set_cons_zero, List.set_cons_succ])
      refine wpAnyH_ready (rs := [11]) (by kernel_rfl) (by simp) (AllReadyH.cons (List.getElem?_toArray.trans rfl) (fun Kx hKx => ?_) AllReadyH.nil)
      go_simp
      go_at_call 23
      refine (Mix_u ((R2.out.below HN3.out).below HN4.out) (R3.out.below HN4.out) R4.out hB hB' hB'' z0 z1 hpm).mono ?_
      rintro x w5 ⟨v5, rfl, ho5, hb5⟩
      rw [HE.out]
      rw [HO.out] at ho5
      obtain ⟨A5, c5, rfl, r5⟩ := rd_of_own ho5
      rw [HOL.out] at r5 ⊢
      have R5 := Aside0.mk r5
      have HB5 := Aside0.mk (below_next HB4.out hb5)
      have HX5 := Aside0.mk (Blk.below HX4.out hb5)
      clear ho5 r5 hb5
      go_wp2_with fail
      refine hKx.out _ _ ?_ (fun hHeld => ?_)
      · exact ⟨Blk.cell HX5.out 0, Blk.cell HX5.out 1, Blk.cell HX5.out 2, Blk.cell HX5.out 3⟩
      clear hKx Kx
      (try simp only [Act.put, List.setIfInBounds_toArray, List.set_cons_zero, List.set_cons_succ])
      refine wpAnyH_take (i := 12) (v := ?_) (List.getElem?_toArray.trans rfl) (by kernel_rfl) (by kernel_rfl) (by kernel_rfl) (fun _ _ _ h => h) (Or.inl ⟨by rfl, ?_⟩) (by assumption) ?_
      rotate_left
      · (intro w hSw; (try dsimp only at hSw); obtain ⟨hs0, hs1, hs2, hs3⟩ := hSw; go_simp; try with_reducible rfl)
      (try simp only [Act.put, List.setIfInBounds_toArray, List.set_cons_zero, List.set_cons_succ])
      refine wpAnyH_take (i := 13) (v := ?_) (List.getElem?_toArray.trans rfl) (by kernel_rfl) (by kernel_rfl) (by kernel_rfl) (fun _ _ _ h => h) (Or.inl ⟨by rfl, ?_⟩) (by assumption) ?_
      rotate_left
      · (intro w hSw; (try dsimp only at hSw); obtain ⟨hs0, hs1, hs2, hs3⟩ := hSw; go_simp; try with_reducible rfl)
      (try simp only [Act.put, List.setIfInBounds_toArray, List.set_cons_zero, List.set_cons_succ])
      refine wpAnyH_take (i := 14) (v := ?_) (List.getElem?_toArray.trans rfl) (by kernel_rfl) (by kernel_rfl) (by kernel_rfl) (fun _ _ _ h => h) (Or.inl ⟨by rfl, ?_⟩) (by assumption) ?_
      rotate_left
      · (intro w hSw; (try dsimp only at hSw); obtain ⟨hs0, hs1, hs2, hs3⟩ := hSw; go_simp; try with_reducible rfl)
      (try simp only [Act.put, List.setIfInBounds_toArray, List.set_cons_zero, List.set_cons_succ])
      refine wpAnyH_take (i := 15) (v := ?_) (List.getElem?_toArray.trans rfl) (by kernel_rfl) (by kernel_rfl) (by kernel_rfl) (fun _ _ _ h => h) (Or.inl ⟨by rfl, ?_⟩) (by assumption) ?_
      rotate_left
      · (intro w hSw; (try dsimp only at hSw); obtain ⟨hs0, hs1, hs2, hs3⟩ := hSw; go_simp; try with_reducible rfl)
      (try simp only [Act.put, List.setIfInBounds_toArray, List.set_cons_zero, List.set_cons_succ])
      refine wpAnyH_take (i := 16) (v := ?_) (List.getElem?_toArray.trans rfl) (by kernel_rfl) (by kernel_rfl) (by kernel_rfl) (fun _ _ _ h => h) (Or.inl ⟨by rfl, ?_⟩) (by assumption) ?_
      rotate_left
      · (intro w hSw; (try dsimp only at hSw); obtain ⟨hs0, hs1, hs2, hs3⟩ := hSw; go_simp; try with_reducible rfl)
      (try simp only [Act.put, List.setIfInBounds_toArray, List.set_cons_zero, List.set_cons_succ])
      refine wpAnyH_done (by kernel_rfl) ?_ _
      have kw5_0 : w5.cell? ⟨w.heap.size, 0, none⟩ = some (.slice A n c) := Blk.cell HX5.out 0
      have kw5_1 : w5.cell? ⟨w.heap.size, 1, none⟩ = some (.slice A' m c') := Blk.cell HX5.out 1
      have kw5_2 : w5.cell? ⟨w.heap.size, 2, none⟩ = some (.int .u32 z) := Blk.cell HX5.out 2
      have kw5_3 : w5.cell? ⟨w.heap.size, 3, none⟩ = some (.slice A'' p c'') := Blk.cell HX5.out 3
      go_wp2_with fail
      refine awake19_c.mono ?_
      rintro x w9 ⟨rfl, hb9⟩
      go_wp2_with fail
      go_ret
      exact ⟨rfl, below_next HB5.out hb9⟩
  · have b1 : (4000 : Int) < (p : Int) := by omega
    have HB0 := Aside0.mk hb0
    clear hb0 hX0
    go_enter Try.func7, Try.ntmps7
    go_wp2_with fail
    refine awake19_c.mono ?_
    rintro x w5 ⟨rfl, hb5⟩
    go_wp2_with fail
    go_ret
    exact ⟨rfl, below_next HB0.out hb5⟩
end Go.Proofs.Ytkjmjgiklelpiaa.WalkCipherParts
