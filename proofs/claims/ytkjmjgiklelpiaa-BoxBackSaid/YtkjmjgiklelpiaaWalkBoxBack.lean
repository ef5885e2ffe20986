/- BoxBack, walked. -/
import Derived.Test.YtkjmjgiklelpiaaBkB
import Derived.Deep.RegionHeld3
import Derived.Deep.Cut
import Derived.Deep.CutRange
namespace Go.Proofs.Ytkjmjgiklelpiaa.WalkBoxBack
open Go.RowKit Go.Proofs.YtkjmjgiklelpiaaW.PrintWords Go.Proofs.Ytkjmjgiklelpiaa.Num Go.Proofs.Ytkjmjgiklelpiaa.WordC Go.Proofs.Ytkjmjgiklelpiaa.Arr Go.Proofs.Ytkjmjgiklelpiaa.App Go.Proofs.Ytkjmjgiklelpiaa.CiC Go.Proofs.Ytkjmjgiklelpiaa.CiD Go.Proofs.Ytkjmjgiklelpiaa.CiB Go.Proofs.Ytkjmjgiklelpiaa.CiK Go.Proofs.Ytkjmjgiklelpiaa.CiL Go.Proofs.Ytkjmjgiklelpiaa.CiM Go.Proofs.Ytkjmjgiklelpiaa.MxA Go.Proofs.Ytkjmjgiklelpiaa.MxB Go.Proofs.Ytkjmjgiklelpiaa.MxC Go.Proofs.Ytkjmjgiklelpiaa.OtS Go.Proofs.Ytkjmjgiklelpiaa.OtU Go.Proofs.Ytkjmjgiklelpiaa.OtX Go.Proofs.Ytkjmjgiklelpiaa.OtH Go.Proofs.Ytkjmjgiklelpiaa.OtI Go.Proofs.Ytkjmjgiklelpiaa.OtJ Go.Proofs.Ytkjmjgiklelpiaa.OtP Go.Proofs.Ytkjmjgiklelpiaa.BxC Go.Proofs.Ytkjmjgiklelpiaa.BxT Go.Proofs.Ytkjmjgiklelpiaa.BxS Go.Proofs.Ytkjmjgiklelpiaa.BxO Go.Proofs.Ytkjmjgiklelpiaa.BxR Go.Proofs.Ytkjmjgiklelpiaa.BxA Go.Proofs.Ytkjmjgiklelpiaa.BxL
set_option linter.unusedVariables false
set_option linter.unusedSimpArgs false

set_option maxHeartbeats 8000000 in
set_option maxRecDepth 100000 in
theorem walk (A : Option Addr) (n c : Nat) (k : List Int) {w : World} (hr : Rd w A n c k) (hB : IsB k) (hn : n ≤ 140737488351232) (A1 : Option Addr) (n1 c1 : Nat) (o : List Int) (hr1 : Rd w A1 n1 c1 o) (hB1 : IsB o) (hn1 : n1 ≤ 140737488351232) (A2 : Option Addr) (n2 c2 : Nat) (x : List Int) (hr2 : Rd w A2 n2 c2 x) (hB2 : IsB x) (hn2 : n2 ≤ 140737488351232) (A3 : Option Addr) (n3 c3 : Nat) (b : List Int) (hr3 : Rd w A3 n3 c3 b) (hB3 : IsB b) (hn3 : n3 ≤ 140737488351232) (z : Int) (hz : (Lit.int .i64 z).wf = true) :
    Calls Try.prog 14 #[.agg #[.slice A n c, .slice A1 n1 c1, .slice A2 n2 c2, .slice A3 n3 c3], .int .i64 z] w fun e w' => e = .returned (.bool true) ∧ Below w.heap.size w w' := by
  have HR := Aside0.mk hr
  have HR1 := Aside0.mk hr1
  have HR2 := Aside0.mk hr2
  have HR3 := Aside0.mk hr3
  have HL := Aside0.mk hr.len
  have HL1 := Aside0.mk hr1.len
  have HL2 := Aside0.mk hr2.len
  have HL3 := Aside0.mk hr3.len
  have HB0 : Aside0 (Below w.heap.size w (w.alloc (.cells #[.slice A n c, .slice A1 n1 c1, .slice A2 n2 c2, .slice A3 n3 c3] 58))) := ⟨(Below.refl _ w).alloc (Nat.le_refl _) _⟩
  have HX0 : Aside0 (Blk (w.alloc (.cells #[.slice A n c, .slice A1 n1 c1, .slice A2 n2 c2, .slice A3 n3 c3] 58)) w.heap.size 58 [.slice A n c, .slice A1 n1 c1, .slice A2 n2 c2, .slice A3 n3 c3]) := ⟨heap_alloc_new _ _⟩
  clear hr hr1 hr2 hr3
  go_enter Try.func14, Try.ntmps14
  go_upto_region 1 with (fail)
  generalize hW : w.alloc _ = W0
  rw [hW] at HB0 HX0
  clear hW
  go_wp2_with (first | (refine load58 rfl (.tmp 2) rfl w.heap.size rfl HX0.out rfl ?_))
  refine (few_c (HR.out.below HB0.out) (HR1.out.below HB0.out) (HR2.out.below HB0.out) (HR3.out.below HB0.out)).mono ?_
  rintro y w1 ⟨rfl, hb1⟩
  have HB1 := Aside0.mk (below_next HB0.out hb1)
  have HX1 := Aside0.mk (Blk.below HX0.out hb1)
  clear hb1
  by_cases hf : n2 ≤ 1000 ∧ n3 ≤ 2000
  · rw [decide_eq_true hf]
    obtain ⟨hf2, hf3⟩ := hf
    go_wp2_with (first | (refine load58 rfl (.tmp 2) rfl w.heap.size rfl HX1.out rfl ?_))
    refine (partsOwn_c (HR.out.below HB1.out) (HR1.out.below HB1.out) (HR2.out.below HB1.out) (HR3.out.below HB1.out) hn hn1 hn2 hn3).mono ?_
    rintro y w2 ⟨v0, v1, v2, v3, rfl, ho0, ho1, ho2, ho3, hb2⟩
    obtain ⟨B0, d0, rfl, q0⟩ := rd_of_own ho0
    obtain ⟨B1, d1, rfl, q1⟩ := rd_of_own ho1
    obtain ⟨B2, d2, rfl, q2⟩ := rd_of_own ho2
    obtain ⟨B3, d3, rfl, q3⟩ := rd_of_own ho3
    rw [HL.out] at q0 ⊢
    rw [HL1.out] at q1 ⊢
    rw [HL2.out] at q2 ⊢
    rw [HL3.out] at q3 ⊢
    have HB2 := Aside0.mk (below_next HB1.out hb2)
    have HX2 := Aside0.mk (Blk.below HX1.out hb2)
    have HZ : Aside0 (Blk (w2.alloc (.cells #[.slice none 0 0, .slice none 0 0, .slice none 0 0, .slice none 0 0] 58)) w2.heap.size 58 [.slice none 0 0, .slice none 0 0, .slice none 0 0, .slice none 0 0]) := ⟨heap_alloc_new _ _⟩
    have HBA := Aside0.mk ((Below.refl w2.heap.size w2).alloc (Nat.le_refl _) (.cells #[.slice none 0 0, .slice none 0 0, .slice none 0 0, .slice none 0 0] 58))
    have Q0 := Aside0.mk q0
    have Q1 := Aside0.mk q1
    have Q2 := Aside0.mk q2
    have Q3 := Aside0.mk q3
    clear ho0 ho1 ho2 ho3 hb2 q0 q1 q2 q3
    go_wp2_with (first
      | (refine store58 rfl (.tmp 5) (.tmp 15) rfl w2.heap.size rfl (cs := [.slice B0 n d0, .slice B1 n1 d1, .slice B2 n2 d2, .slice B3 n3 d3]) rfl HZ.out rfl rfl (by intro v hv; simp only [List.mem_cons, List.not_mem_nil, or_false] at hv; rcases hv with rfl | rfl | rfl | rfl <;> rfl) ?_; intro w3 hV hg3
         have HB23 := Aside0.mk (HBA.out.grown hg3 HBA.out.size (fun k hk => by cases hk; exact Nat.le_refl _))
         have HB3 := Aside0.mk (below_next HB2.out HB23.out)
         have HX3 := Aside0.mk (Blk.below HX2.out HB23.out)
         have HQ3 := Aside0.mk hV
         have hx0 : w3.cell? ⟨w2.heap.size, 0, none⟩ = some (.slice B0 n d0) := Blk.cell hV 0
         have hx1 : w3.cell? ⟨w2.heap.size, 1, none⟩ = some (.slice B1 n1 d1) := Blk.cell hV 1
         have hx2 : w3.cell? ⟨w2.heap.size, 2, none⟩ = some (.slice B2 n2 d2) := Blk.cell hV 2
         have hx3 : w3.cell? ⟨w2.heap.size, 3, none⟩ = some (.slice B3 n3 d3) := Blk.cell hV 3
         clear hV hg3))
    have RQ0 := Aside0.mk (Q0.out.below HB23.out)
    have RQ1 := Aside0.mk (Q1.out.below HB23.out)
    have RQ2 := Aside0.mk (Q2.out.below HB23.out)
    have RQ3 := Aside0.mk (Q3.out.below HB23.out)
    clear Q0 Q1 Q2 Q3 HB0 HB1 HX0 HX1 HZ HBA
    obtain ⟨z0, z1⟩ := wf_i64 hz
    clear hz
    by_cases hrc : rightC n n1 = true
    · have HE : Aside0 (codeS n n1 = 0) := ⟨by unfold codeS; rw [if_pos hrc]⟩
      have hrc' : rightC k.length o.length = true := by rw [HL.out, HL1.out]; exact hrc
      obtain ⟨O, HO⟩ : ∃ Z, Aside0 (outS7 k o x b = Z) := ⟨_, ⟨rfl⟩⟩
      have hOs : sealL k o x b = O := by rw [← HO.out]; unfold outS7; rw [if_pos hrc']
      have HON : Aside0 (O.length = n3 + 16) := ⟨by rw [← hOs, sealL_length hB2 hB3, HL3.out]⟩
      have HOB : Aside0 (IsB O) := ⟨by rw [← hOs]; exact sealL_isB hB2 hB3⟩
      have HC : Aside0 (codeO k o x O = 0 ∧ outO k o x O = b) := ⟨by rw [← hOs]; exact back_c hrc' hB2 hB3⟩
      clear hOs hrc hrc'
      refine (Seal_u RQ0.out RQ1.out RQ2.out RQ3.out hB hB1 hB2 hB3 (by omega) (by omega)).mono ?_
      rintro y w4 ⟨v4, rfl, ho4, hb4⟩
      rw [HE.out]
      rw [HO.out] at ho4
      obtain ⟨A4, d4, rfl, r4⟩ := rd_of_own ho4
      rw [HON.out] at r4 ⊢
      have R4 := Aside0.mk r4
      have HB4 := Aside0.mk (below_next HB3.out hb4)
      have HX4 := Aside0.mk (Blk.below HX3.out hb4)
      have HQ4 := Aside0.mk (Blk.below HQ3.out hb4)
      have HB34 := Aside0.mk hb4
      clear hx0 hx1 hx2 hx3
      clear ho4 r4 hb4
      have hx0 : w4.cell? ⟨w2.heap.size, 0, none⟩ = some (.slice B0 n d0) := Blk.cell HQ4.out 0
      have hx1 : w4.cell? ⟨w2.heap.size, 1, none⟩ = some (.slice B1 n1 d1) := Blk.cell HQ4.out 1
      have hx2 : w4.cell? ⟨w2.heap.size, 2, none⟩ = some (.slice B2 n2 d2) := Blk.cell HQ4.out 2
      have hx3 : w4.cell? ⟨w2.heap.size, 3, none⟩ = some (.slice B3 n3 d3) := Blk.cell HQ4.out 3
      go_wp2_with fail
      refine (Open_u (RQ0.out.below HB34.out) (RQ1.out.below HB34.out) (RQ2.out.below HB34.out) R4.out hB hB1 hB2 HOB.out (by omega) (by omega)).mono ?_
      rintro y w5 ⟨v5, rfl, ho5, hb5⟩
      rw [HC.out.1]
      rw [HC.out.2] at ho5
      obtain ⟨A5, d5, rfl, r5⟩ := rd_of_own ho5
      rw [HL3.out] at r5 ⊢
      have HB5 := Aside0.mk (below_next HB4.out hb5)
      have HX5 := Aside0.mk (Blk.below HX4.out hb5)
      have s1 := rd_string r5
      have s2 := rd_string (HR3.out.below HB5.out)
      have q1 := str_self b
      have kx3 : w5.cell? ⟨w.heap.size, 3, none⟩ = some (.slice A3 n3 c3) := Blk.cell HX5.out 3
      clear hx0 hx1 hx2 hx3
      clear ho5 r5 hb5
      by_cases hz2 : 1099511627776 < z
      · obtain ⟨M, HM⟩ : ∃ Z, Aside0 (max (1099511627776 : Int) 0 = Z) := ⟨_, ⟨rfl⟩⟩
        have HM0 : 0 ≤ M ∧ M ≤ 1099511627776 := by have := HM.out; omega
        have hmm : Aside0 ((if (1099511627776 : Int) < 0 then 0 else (1099511627776 : Int)) = M) := ⟨by have := HM.out; split <;> omega⟩
        obtain ⟨hM0, hM1⟩ := HM0
        have hwr : IntKind.i64.wrap (M + 16) = M + 16 := by rw [IntKind.wrap_i64]; omega
        go_wp2_with fail
        refine (Size_c (n3 : Int) (by omega) (by omega)).mono ?_
        rintro y w6 ⟨rfl, hb6⟩
        rw [show max (n3 : Int) 0 + 16 = (n3 : Int) + 16 by omega]
        have HB6 := Aside0.mk (below_next HB5.out hb6)
        clear s1 s2 kx3 hb6
        go_wp2_with fail
        refine (Size_c (1099511627776 : Int) (by omega) (by omega)).mono ?_
        rintro y w7 ⟨rfl, hb7⟩
        rw [HM.out]
        have HB7 := Aside0.mk (below_next HB6.out hb7)
        clear hb7
        go_wp2_with (refine gate_guard (by rfl) ?_; dsimp only; refine wpList_max rfl _ _ rfl (1099511627776 : Int) 0 rfl rfl M hmm.out ?_)
        refine awake33_c.mono ?_
        rintro y w9 ⟨rfl, hb9⟩
        go_wp2_with fail
        go_ret
        exact ⟨rfl, below_next HB7.out hb9⟩
      · obtain ⟨M, HM⟩ : ∃ Z, Aside0 (max z 0 = Z) := ⟨_, ⟨rfl⟩⟩
        have HM0 : 0 ≤ M ∧ M ≤ 1099511627776 := by have := HM.out; omega
        have hmm : Aside0 ((if z < 0 then 0 else z) = M) := ⟨by have := HM.out; split <;> omega⟩
        obtain ⟨hM0, hM1⟩ := HM0
        have hwr : IntKind.i64.wrap (M + 16) = M + 16 := by rw [IntKind.wrap_i64]; omega
        go_wp2_with fail
        refine (Size_c (n3 : Int) (by omega) (by omega)).mono ?_
        rintro y w6 ⟨rfl, hb6⟩
        rw [show max (n3 : Int) 0 + 16 = (n3 : Int) + 16 by omega]
        have HB6 := Aside0.mk (below_next HB5.out hb6)
        clear s1 s2 kx3 hb6
        go_wp2_with fail
        refine (Size_c z (by omega) (by omega)).mono ?_
        rintro y w7 ⟨rfl, hb7⟩
        rw [HM.out]
        have HB7 := Aside0.mk (below_next HB6.out hb7)
        clear hb7
        go_wp2_with (refine gate_guard (by rfl) ?_; dsimp only; refine wpList_max rfl _ _ rfl z 0 rfl rfl M hmm.out ?_)
        refine awake33_c.mono ?_
        rintro y w9 ⟨rfl, hb9⟩
        go_wp2_with fail
        go_ret
        exact ⟨rfl, below_next HB7.out hb9⟩
    · have HE : Aside0 (codeS n n1 = 1) := ⟨by unfold codeS; rw [if_neg hrc]⟩
      have HO : Aside0 (outS7 k o x b = []) := ⟨by unfold outS7; rw [HL.out, HL1.out, if_neg hrc]⟩
      refine (Seal_u RQ0.out RQ1.out RQ2.out RQ3.out hB hB1 hB2 hB3 (by omega) (by omega)).mono ?_
      rintro y w4 ⟨v4, rfl, ho4, hb4⟩
      rw [HE.out]
      rw [HO.out] at ho4
      obtain ⟨A4, d4, rfl, r4⟩ := rd_of_own ho4
      rw [show ([] : List Int).length = 0 from rfl] at r4 ⊢
      have R4 := Aside0.mk r4
      have HB4 := Aside0.mk (below_next HB3.out hb4)
      have HX4 := Aside0.mk (Blk.below HX3.out hb4)
      have HQ4 := Aside0.mk (Blk.below HQ3.out hb4)
      have HB34 := Aside0.mk hb4
      clear hx0 hx1 hx2 hx3
      clear ho4 r4 hb4
      have kx0 : w4.cell? ⟨w.heap.size, 0, none⟩ = some (.slice A n c) := Blk.cell HX4.out 0
      have kx1 : w4.cell? ⟨w.heap.size, 1, none⟩ = some (.slice A1 n1 c1) := Blk.cell HX4.out 1
      by_cases h32 : n = 32
      · have h12 : ((n1 : Int) != 12) = true := by rw [bne_iff_ne]; intro e; exact hrc (rightC_iff.2 ⟨h32, by omega⟩)
        have h32' : ((n : Int) != 32) = false := by rw [h32]; rfl
        clear hrc
        go_wp2_with fail
        clear kx0 kx1
        refine awake33_c.mono ?_
        rintro y w9 ⟨rfl, hb9⟩
        go_wp2_with fail
        go_ret
        exact ⟨rfl, below_next HB4.out hb9⟩
      · have h32' : ((n : Int) != 32) = true := by rw [bne_iff_ne]; omega
        clear hrc
        go_wp2_with fail
        clear kx0 kx1
        refine awake33_c.mono ?_
        rintro y w9 ⟨rfl, hb9⟩
        go_wp2_with fail
        go_ret
        exact ⟨rfl, below_next HB4.out hb9⟩
  · rw [decide_eq_false hf]
    go_wp2_with fail
    refine awake33_c.mono ?_
    rintro y w9 ⟨rfl, hb9⟩
    go_wp2_with fail
    go_ret
    exact ⟨rfl, below_next HB1.out hb9⟩
end Go.Proofs.Ytkjmjgiklelpiaa.WalkBoxBack
