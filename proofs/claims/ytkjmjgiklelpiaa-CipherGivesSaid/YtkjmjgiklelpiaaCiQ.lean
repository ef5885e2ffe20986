/- cipher's quarter, walked. -/
import Derived.Test.YtkjmjgiklelpiaaApp
import Derived.Test.YtkjmjgiklelpiaaQuart
import Derived.Test.YtkjmjgiklelpiaaPlainCipherBlocks
import Derived.Deep.RegionHeld3
import Derived.Deep.Cut
import Derived.Deep.CutRange
import Derived.Test.YtkjmjgiklelpiaaCiC
namespace Go.Proofs.Ytkjmjgiklelpiaa.CiQ
open Go.RowKit Go.Proofs.YtkjmjgiklelpiaaW.PrintWords Go.Proofs.Ytkjmjgiklelpiaa.Num Go.Proofs.Ytkjmjgiklelpiaa.WordC Go.Proofs.Ytkjmjgiklelpiaa.Arr Go.Proofs.Ytkjmjgiklelpiaa.App Go.Proofs.Ytkjmjgiklelpiaa.CiC
set_option linter.unusedVariables false
set_option linter.unusedSimpArgs false

set_option maxHeartbeats 8000000 in
set_option maxRecDepth 100000 in
theorem quarter_c {g t : Nat} {l : List Int} {w : World} (hg : Blk w g t (nums .u32 l)) (hl : l.length = 16) (h : IsW l) (a b c d : Nat) (ha : a < 16) (hb : b < 16) (hc : c < 16) (hd : d < 16) {x y z u : Int} (hx : x = a) (hy : y = b) (hz : z = c) (hu : u = d) :
    Calls Try.prog 64 #[.pointer (some ⟨g, 0, none⟩), .int .i64 x, .int .i64 y, .int .i64 z, .int .i64 u] w fun e w' => e = .returned (.tuple #[]) ∧ Blk w' g t (nums .u32 (qr l a b c d)) ∧ Below g w w' := by
  subst hx hy hz hu
  have ia : (a : Int) < 16 := by omega
  have ib : (b : Int) < 16 := by omega
  have ic : (c : Int) < 16 := by omega
  have id_ : (d : Int) < 16 := by omega
  have na : (0 : Int) ≤ (a : Int) := by omega
  have nb : (0 : Int) ≤ (b : Int) := by omega
  have nc : (0 : Int) ≤ (c : Int) := by omega
  have nd : (0 : Int) ≤ (d : Int) := by omega
  have HG0 := Aside0.mk hg
  have HL0 := Aside0.mk hl
  have HW0 := Aside0.mk h
  have HB0 : Aside0 (Below g w w) := ⟨Below.refl _ _⟩
  have HE0 : Aside0 (l = l) := ⟨rfl⟩
  clear hg hl h
  go_enter Try.func64, Try.ntmps64
  go_upto_region 0 with (fail)
  have c0 : w.cell? ⟨g, a, none⟩ = some (.int .u32 (l.getD a 0)) := blk_num HG0.out a (by rw [HL0.out]; exact ha)
  have e0 : w.cell? ⟨g, b, none⟩ = some (.int .u32 (l.getD b 0)) := blk_num HG0.out b (by rw [HL0.out]; exact hb)
  have f0 : w.frozen? ⟨g, a, none⟩ = false := Blk.frozen HG0.out a
  have n0 : qa l a b = qa l a b := rfl
  have N0 : qa l a b = l.set a ((l.getD a 0 + l.getD b 0) % 4294967296) := rfl
  generalize hP0 : l.getD a 0 = P0 at *
  generalize hQ0 : l.getD b 0 = Q0 at *
  have NN0 := Aside0.mk N0
  clear hP0 hQ0 n0 N0
  go_region
  have HG1 : Aside0 (Blk (((w).setCell ⟨g, a, none⟩ (.int .u32 ((P0 + Q0) % 4294967296))).drew) g t (nums .u32 (qa l a b))) := ⟨by rw [NN0.out]; exact blk_put HG0.out a _⟩
  have HB1 : Aside0 (Below g w (((w).setCell ⟨g, a, none⟩ (.int .u32 ((P0 + Q0) % 4294967296))).drew)) := ⟨(HB0.out.setCell (p := ⟨g, a, none⟩) (Nat.le_refl _) _).drew⟩
  have HL1 : Aside0 ((qa l a b).length = 16) := ⟨by rw [qa_length]; exact HL0.out⟩
  have HW1 : Aside0 (IsW (qa l a b)) := ⟨qa_isW HW0.out _ _⟩
  clear c0 e0 f0
  obtain ⟨l1, HE1⟩ : ∃ z, Aside0 (qa l a b = z) := ⟨_, ⟨rfl⟩⟩
  rw [HE1.out] at HG1 HL1 HW1
  generalize ((w).setCell ⟨g, a, none⟩ (.int .u32 ((P0 + Q0) % 4294967296))).drew = w1 at HG1 HB1 ⊢
  go_upto_region 1 with (fail)
  skip
  have c1 : w1.cell? ⟨g, d, none⟩ = some (.int .u32 (l1.getD d 0)) := blk_num HG1.out d (by rw [HL1.out]; exact hd)
  have e1 : w1.cell? ⟨g, a, none⟩ = some (.int .u32 (l1.getD a 0)) := blk_num HG1.out a (by rw [HL1.out]; exact ha)
  have f1 : w1.frozen? ⟨g, d, none⟩ = false := Blk.frozen HG1.out d
  have r1 := xor_range (getD_isW HW1.out d).1 (getD_isW HW1.out d).2 (getD_isW HW1.out a).1 (getD_isW HW1.out a).2
  have n1 : qx l1 d a 16 = qx l1 d a 16 := rfl
  have N1 : qx l1 d a 16 = l1.set d (turn (Go.bits .xor .u32 (l1.getD d 0) (l1.getD a 0)) 16) := rfl
  generalize hP1 : l1.getD d 0 = P1 at *
  generalize hQ1 : l1.getD a 0 = Q1 at *
  have NN1 := Aside0.mk N1
  clear hP1 hQ1 n1 N1
  have R1 := Aside0.mk r1
  clear r1
  go_cut [] from 23 to 38 (fun wx => ∃ n : Nat, wx = (w1.drewN n).setCell ⟨g, d, none⟩ (.int .u32 (turn (Go.bits .xor .u32 P1 Q1) 16)))
  case first =>
    go_region_with (go_at_call 75; (with_reducible refine (Turn_c 16 R1.out.1 R1.out.2).mono ?_); rintro x w9 ⟨rfl, ⟨n9, rfl⟩⟩)
    all_goals (go_wp2_with fail; go_meet; exact ⟨_, rfl⟩)
  case' rest => obtain ⟨n1, rfl⟩ := hcut
  have HG2 : Aside0 (Blk (((w1.drewN n1).setCell ⟨g, d, none⟩ (.int .u32 (turn (Go.bits .xor .u32 P1 Q1) 16)))) g t (nums .u32 (qx l1 d a 16))) := ⟨by rw [NN1.out]; exact blk_put HG1.out d _⟩
  have HB2 : Aside0 (Below g w (((w1.drewN n1).setCell ⟨g, d, none⟩ (.int .u32 (turn (Go.bits .xor .u32 P1 Q1) 16))))) := ⟨(pw_below_drewN HB1.out _).setCell (p := ⟨g, d, none⟩) (Nat.le_refl _) _⟩
  have HL2 : Aside0 ((qx l1 d a 16).length = 16) := ⟨by rw [qx_length]; exact HL1.out⟩
  have HW2 : Aside0 (IsW (qx l1 d a 16)) := ⟨qx_isW HW1.out _ _ _⟩
  clear c1 e1 f1
  obtain ⟨l2, HE2⟩ : ∃ z, Aside0 (qx l1 d a 16 = z) := ⟨_, ⟨rfl⟩⟩
  rw [HE2.out] at HG2 HL2 HW2
  generalize ((w1.drewN n1).setCell ⟨g, d, none⟩ (.int .u32 (turn (Go.bits .xor .u32 P1 Q1) 16))) = w2 at HG2 HB2 ⊢
  go_upto_region 2 with (fail)
  skip
  have c2 : w2.cell? ⟨g, c, none⟩ = some (.int .u32 (l2.getD c 0)) := blk_num HG2.out c (by rw [HL2.out]; exact hc)
  have e2 : w2.cell? ⟨g, d, none⟩ = some (.int .u32 (l2.getD d 0)) := blk_num HG2.out d (by rw [HL2.out]; exact hd)
  have f2 : w2.frozen? ⟨g, c, none⟩ = false := Blk.frozen HG2.out c
  have n2 : qa l2 c d = qa l2 c d := rfl
  have N2 : qa l2 c d = l2.set c ((l2.getD c 0 + l2.getD d 0) % 4294967296) := rfl
  generalize hP2 : l2.getD c 0 = P2 at *
  generalize hQ2 : l2.getD d 0 = Q2 at *
  have NN2 := Aside0.mk N2
  clear hP2 hQ2 n2 N2
  go_region
  have HG3 : Aside0 (Blk (((w2).setCell ⟨g, c, none⟩ (.int .u32 ((P2 + Q2) % 4294967296))).drew) g t (nums .u32 (qa l2 c d))) := ⟨by rw [NN2.out]; exact blk_put HG2.out c _⟩
  have HB3 : Aside0 (Below g w (((w2).setCell ⟨g, c, none⟩ (.int .u32 ((P2 + Q2) % 4294967296))).drew)) := ⟨(HB2.out.setCell (p := ⟨g, c, none⟩) (Nat.le_refl _) _).drew⟩
  have HL3 : Aside0 ((qa l2 c d).length = 16) := ⟨by rw [qa_length]; exact HL2.out⟩
  have HW3 : Aside0 (IsW (qa l2 c d)) := ⟨qa_isW HW2.out _ _⟩
  clear c2 e2 f2
  obtain ⟨l3, HE3⟩ : ∃ z, Aside0 (qa l2 c d = z) := ⟨_, ⟨rfl⟩⟩
  rw [HE3.out] at HG3 HL3 HW3
  generalize ((w2).setCell ⟨g, c, none⟩ (.int .u32 ((P2 + Q2) % 4294967296))).drew = w3 at HG3 HB3 ⊢
  go_upto_region 3 with (fail)
  skip
  have c3 : w3.cell? ⟨g, b, none⟩ = some (.int .u32 (l3.getD b 0)) := blk_num HG3.out b (by rw [HL3.out]; exact hb)
  have e3 : w3.cell? ⟨g, c, none⟩ = some (.int .u32 (l3.getD c 0)) := blk_num HG3.out c (by rw [HL3.out]; exact hc)
  have f3 : w3.frozen? ⟨g, b, none⟩ = false := Blk.frozen HG3.out b
  have r3 := xor_range (getD_isW HW3.out b).1 (getD_isW HW3.out b).2 (getD_isW HW3.out c).1 (getD_isW HW3.out c).2
  have n3 : qx l3 b c 12 = qx l3 b c 12 := rfl
  have N3 : qx l3 b c 12 = l3.set b (turn (Go.bits .xor .u32 (l3.getD b 0) (l3.getD c 0)) 12) := rfl
  generalize hP3 : l3.getD b 0 = P3 at *
  generalize hQ3 : l3.getD c 0 = Q3 at *
  have NN3 := Aside0.mk N3
  clear hP3 hQ3 n3 N3
  have R3 := Aside0.mk r3
  clear r3
  go_cut [] from 52 to 67 (fun wx => ∃ n : Nat, wx = (w3.drewN n).setCell ⟨g, b, none⟩ (.int .u32 (turn (Go.bits .xor .u32 P3 Q3) 12)))
  case first =>
    go_region_with (go_at_call 75; (with_reducible refine (Turn_c 12 R3.out.1 R3.out.2).mono ?_); rintro x w9 ⟨rfl, ⟨n9, rfl⟩⟩)
    all_goals (go_wp2_with fail; go_meet; exact ⟨_, rfl⟩)
  case' rest => obtain ⟨n3, rfl⟩ := hcut
  have HG4 : Aside0 (Blk (((w3.drewN n3).setCell ⟨g, b, none⟩ (.int .u32 (turn (Go.bits .xor .u32 P3 Q3) 12)))) g t (nums .u32 (qx l3 b c 12))) := ⟨by rw [NN3.out]; exact blk_put HG3.out b _⟩
  have HB4 : Aside0 (Below g w (((w3.drewN n3).setCell ⟨g, b, none⟩ (.int .u32 (turn (Go.bits .xor .u32 P3 Q3) 12))))) := ⟨(pw_below_drewN HB3.out _).setCell (p := ⟨g, b, none⟩) (Nat.le_refl _) _⟩
  have HL4 : Aside0 ((qx l3 b c 12).length = 16) := ⟨by rw [qx_length]; exact HL3.out⟩
  have HW4 : Aside0 (IsW (qx l3 b c 12)) := ⟨qx_isW HW3.out _ _ _⟩
  clear c3 e3 f3
  obtain ⟨l4, HE4⟩ : ∃ z, Aside0 (qx l3 b c 12 = z) := ⟨_, ⟨rfl⟩⟩
  rw [HE4.out] at HG4 HL4 HW4
  generalize ((w3.drewN n3).setCell ⟨g, b, none⟩ (.int .u32 (turn (Go.bits .xor .u32 P3 Q3) 12))) = w4 at HG4 HB4 ⊢
  go_upto_region 4 with (fail)
  skip
  have c4 : w4.cell? ⟨g, a, none⟩ = some (.int .u32 (l4.getD a 0)) := blk_num HG4.out a (by rw [HL4.out]; exact ha)
  have e4 : w4.cell? ⟨g, b, none⟩ = some (.int .u32 (l4.getD b 0)) := blk_num HG4.out b (by rw [HL4.out]; exact hb)
  have f4 : w4.frozen? ⟨g, a, none⟩ = false := Blk.frozen HG4.out a
  have n4 : qa l4 a b = qa l4 a b := rfl
  have N4 : qa l4 a b = l4.set a ((l4.getD a 0 + l4.getD b 0) % 4294967296) := rfl
  generalize hP4 : l4.getD a 0 = P4 at *
  generalize hQ4 : l4.getD b 0 = Q4 at *
  have NN4 := Aside0.mk N4
  clear hP4 hQ4 n4 N4
  go_region
  have HG5 : Aside0 (Blk (((w4).setCell ⟨g, a, none⟩ (.int .u32 ((P4 + Q4) % 4294967296))).drew) g t (nums .u32 (qa l4 a b))) := ⟨by rw [NN4.out]; exact blk_put HG4.out a _⟩
  have HB5 : Aside0 (Below g w (((w4).setCell ⟨g, a, none⟩ (.int .u32 ((P4 + Q4) % 4294967296))).drew)) := ⟨(HB4.out.setCell (p := ⟨g, a, none⟩) (Nat.le_refl _) _).drew⟩
  have HL5 : Aside0 ((qa l4 a b).length = 16) := ⟨by rw [qa_length]; exact HL4.out⟩
  have HW5 : Aside0 (IsW (qa l4 a b)) := ⟨qa_isW HW4.out _ _⟩
  clear c4 e4 f4
  obtain ⟨l5, HE5⟩ : ∃ z, Aside0 (qa l4 a b = z) := ⟨_, ⟨rfl⟩⟩
  rw [HE5.out] at HG5 HL5 HW5
  generalize ((w4).setCell ⟨g, a, none⟩ (.int .u32 ((P4 + Q4) % 4294967296))).drew = w5 at HG5 HB5 ⊢
  go_upto_region 5 with (fail)
  skip
  have c5 : w5.cell? ⟨g, d, none⟩ = some (.int .u32 (l5.getD d 0)) := blk_num HG5.out d (by rw [HL5.out]; exact hd)
  have e5 : w5.cell? ⟨g, a, none⟩ = some (.int .u32 (l5.getD a 0)) := blk_num HG5.out a (by rw [HL5.out]; exact ha)
  have f5 : w5.frozen? ⟨g, d, none⟩ = false := Blk.frozen HG5.out d
  have r5 := xor_range (getD_isW HW5.out d).1 (getD_isW HW5.out d).2 (getD_isW HW5.out a).1 (getD_isW HW5.out a).2
  have n5 : qx l5 d a 8 = qx l5 d a 8 := rfl
  have N5 : qx l5 d a 8 = l5.set d (turn (Go.bits .xor .u32 (l5.getD d 0) (l5.getD a 0)) 8) := rfl
  generalize hP5 : l5.getD d 0 = P5 at *
  generalize hQ5 : l5.getD a 0 = Q5 at *
  have NN5 := Aside0.mk N5
  clear hP5 hQ5 n5 N5
  have R5 := Aside0.mk r5
  clear r5
  go_cut [] from 81 to 96 (fun wx => ∃ n : Nat, wx = (w5.drewN n).setCell ⟨g, d, none⟩ (.int .u32 (turn (Go.bits .xor .u32 P5 Q5) 8)))
  case first =>
    go_region_with (go_at_call 75; (with_reducible refine (Turn_c 8 R5.out.1 R5.out.2).mono ?_); rintro x w9 ⟨rfl, ⟨n9, rfl⟩⟩)
    all_goals (go_wp2_with fail; go_meet; exact ⟨_, rfl⟩)
  case' rest => obtain ⟨n5, rfl⟩ := hcut
  have HG6 : Aside0 (Blk (((w5.drewN n5).setCell ⟨g, d, none⟩ (.int .u32 (turn (Go.bits .xor .u32 P5 Q5) 8)))) g t (nums .u32 (qx l5 d a 8))) := ⟨by rw [NN5.out]; exact blk_put HG5.out d _⟩
  have HB6 : Aside0 (Below g w (((w5.drewN n5).setCell ⟨g, d, none⟩ (.int .u32 (turn (Go.bits .xor .u32 P5 Q5) 8))))) := ⟨(pw_below_drewN HB5.out _).setCell (p := ⟨g, d, none⟩) (Nat.le_refl _) _⟩
  have HL6 : Aside0 ((qx l5 d a 8).length = 16) := ⟨by rw [qx_length]; exact HL5.out⟩
  have HW6 : Aside0 (IsW (qx l5 d a 8)) := ⟨qx_isW HW5.out _ _ _⟩
  clear c5 e5 f5
  obtain ⟨l6, HE6⟩ : ∃ z, Aside0 (qx l5 d a 8 = z) := ⟨_, ⟨rfl⟩⟩
  rw [HE6.out] at HG6 HL6 HW6
  generalize ((w5.drewN n5).setCell ⟨g, d, none⟩ (.int .u32 (turn (Go.bits .xor .u32 P5 Q5) 8))) = w6 at HG6 HB6 ⊢
  go_upto_region 6 with (fail)
  skip
  have c6 : w6.cell? ⟨g, c, none⟩ = some (.int .u32 (l6.getD c 0)) := blk_num HG6.out c (by rw [HL6.out]; exact hc)
  have e6 : w6.cell? ⟨g, d, none⟩ = some (.int .u32 (l6.getD d 0)) := blk_num HG6.out d (by rw [HL6.out]; exact hd)
  have f6 : w6.frozen? ⟨g, c, none⟩ = false := Blk.frozen HG6.out c
  have n6 : qa l6 c d = qa l6 c d := rfl
  have N6 : qa l6 c d = l6.set c ((l6.getD c 0 + l6.getD d 0) % 4294967296) := rfl
  generalize hP6 : l6.getD c 0 = P6 at *
  generalize hQ6 : l6.getD d 0 = Q6 at *
  have NN6 := Aside0.mk N6
  clear hP6 hQ6 n6 N6
  go_region
  have HG7 : Aside0 (Blk (((w6).setCell ⟨g, c, none⟩ (.int .u32 ((P6 + Q6) % 4294967296))).drew) g t (nums .u32 (qa l6 c d))) := ⟨by rw [NN6.out]; exact blk_put HG6.out c _⟩
  have HB7 : Aside0 (Below g w (((w6).setCell ⟨g, c, none⟩ (.int .u32 ((P6 + Q6) % 4294967296))).drew)) := ⟨(HB6.out.setCell (p := ⟨g, c, none⟩) (Nat.le_refl _) _).drew⟩
  have HL7 : Aside0 ((qa l6 c d).length = 16) := ⟨by rw [qa_length]; exact HL6.out⟩
  have HW7 : Aside0 (IsW (qa l6 c d)) := ⟨qa_isW HW6.out _ _⟩
  clear c6 e6 f6
  obtain ⟨l7, HE7⟩ : ∃ z, Aside0 (qa l6 c d = z) := ⟨_, ⟨rfl⟩⟩
  rw [HE7.out] at HG7 HL7 HW7
  generalize ((w6).setCell ⟨g, c, none⟩ (.int .u32 ((P6 + Q6) % 4294967296))).drew = w7 at HG7 HB7 ⊢
  go_upto_region 7 with (fail)
  skip
  have c7 : w7.cell? ⟨g, b, none⟩ = some (.int .u32 (l7.getD b 0)) := blk_num HG7.out b (by rw [HL7.out]; exact hb)
  have e7 : w7.cell? ⟨g, c, none⟩ = some (.int .u32 (l7.getD c 0)) := blk_num HG7.out c (by rw [HL7.out]; exact hc)
  have f7 : w7.frozen? ⟨g, b, none⟩ = false := Blk.frozen HG7.out b
  have r7 := xor_range (getD_isW HW7.out b).1 (getD_isW HW7.out b).2 (getD_isW HW7.out c).1 (getD_isW HW7.out c).2
  have n7 : qx l7 b c 7 = qx l7 b c 7 := rfl
  have N7 : qx l7 b c 7 = l7.set b (turn (Go.bits .xor .u32 (l7.getD b 0) (l7.getD c 0)) 7) := rfl
  generalize hP7 : l7.getD b 0 = P7 at *
  generalize hQ7 : l7.getD c 0 = Q7 at *
  have NN7 := Aside0.mk N7
  clear hP7 hQ7 n7 N7
  have R7 := Aside0.mk r7
  clear r7
  have hq : qr l a b c d = l7.set b (turn (Go.bits .xor .u32 P7 Q7) 7) := by
    rw [← NN7.out]; unfold qr; rw [HE1.out, HE2.out, HE3.out, HE4.out, HE5.out, HE6.out, HE7.out]
  have HQ := Aside0.mk hq
  clear hq
  go_region_with (go_at_call 75; (with_reducible refine (Turn_c 7 R7.out.1 R7.out.2).mono ?_); rintro x w9 ⟨rfl, ⟨n9, rfl⟩⟩)
  all_goals (go_wp2_with fail; go_end0; exact ⟨rfl, by rw [HQ.out]; exact blk_put HG7.out b _, (pw_below_drewN HB7.out _).setCell (p := ⟨g, b, none⟩) (Nat.le_refl _) _⟩)
end Go.Proofs.Ytkjmjgiklelpiaa.CiQ
