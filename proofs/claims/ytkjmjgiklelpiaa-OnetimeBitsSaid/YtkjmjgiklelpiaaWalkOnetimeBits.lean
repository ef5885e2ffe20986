/- OnetimeBits, walked. -/
import Derived.Test.YtkjmjgiklelpiaaApp
import Derived.Test.YtkjmjgiklelpiaaQuart
import Derived.Test.YtkjmjgiklelpiaaPlainCipherBlocks
import Derived.Deep.RegionHeld3
import Derived.Deep.Cut
import Derived.Deep.CutRange
import Derived.Test.YtkjmjgiklelpiaaOtY
import Derived.Test.YtkjmjgiklelpiaaWalkOnetimeNobody
namespace Go.Proofs.Ytkjmjgiklelpiaa.WalkOnetimeBits
open Go.RowKit Go.Proofs.YtkjmjgiklelpiaaW.PrintWords Go.Proofs.Ytkjmjgiklelpiaa.Num Go.Proofs.Ytkjmjgiklelpiaa.WordC Go.Proofs.Ytkjmjgiklelpiaa.Arr Go.Proofs.Ytkjmjgiklelpiaa.App Go.Proofs.Ytkjmjgiklelpiaa.CiC Go.Proofs.Ytkjmjgiklelpiaa.CiD Go.Proofs.Ytkjmjgiklelpiaa.OtC Go.Proofs.Ytkjmjgiklelpiaa.OtR Go.Proofs.Ytkjmjgiklelpiaa.OtL Go.Proofs.Ytkjmjgiklelpiaa.OtM Go.Proofs.Ytkjmjgiklelpiaa.OtT Go.Proofs.Ytkjmjgiklelpiaa.OtV Go.Proofs.Ytkjmjgiklelpiaa.OtK Go.Proofs.Ytkjmjgiklelpiaa.OtN Go.Proofs.Ytkjmjgiklelpiaa.OtO Go.Proofs.Ytkjmjgiklelpiaa.OtP Go.Proofs.Ytkjmjgiklelpiaa.OtQ Go.Proofs.Ytkjmjgiklelpiaa.OtS Go.Proofs.Ytkjmjgiklelpiaa.OtU Go.Proofs.Ytkjmjgiklelpiaa.OtD Go.Proofs.Ytkjmjgiklelpiaa.OtE Go.Proofs.Ytkjmjgiklelpiaa.OtF Go.Proofs.Ytkjmjgiklelpiaa.OtG Go.Proofs.Ytkjmjgiklelpiaa.OtH Go.Proofs.Ytkjmjgiklelpiaa.OtI Go.Proofs.Ytkjmjgiklelpiaa.OtJ Go.Proofs.Ytkjmjgiklelpiaa.OtX Go.Proofs.Ytkjmjgiklelpiaa.OtY Go.Proofs.Ytkjmjgiklelpiaa.WalkOnetimeNobody
set_option linter.unusedVariables false
set_option linter.unusedSimpArgs false

theorem rd_nil (w : World) : Rd w none 0 0 [] := by
  have h : Ow w 0 (.slice none 0 0) [] := Kd.R_nil _ _ _ _ _
  obtain ⟨A, c, e, hr⟩ := rd_of_own h
  injection e with e1 e2 e3
  subst e1 e3
  exact hr
set_option maxHeartbeats 8000000 in
set_option maxRecDepth 100000 in
theorem walk (A : Option Addr) (n c : Nat) (k : List Int) {w : World} (hr : Rd w A n c k) (hB : IsB k) (hn : n ≤ 140737488351232) (A' : Option Addr) (m c' : Nat) (b : List Int) (hr' : Rd w A' m c' b) (hB' : IsB b) (hn' : m ≤ 140737488351232) (t : List Int) (ht : t.length = 16) (bt : IsB t) :
    Calls Try.prog 10 #[.slice A n c, .slice A' m c', .agg (nums .u8 t).toArray] w fun e w' => e = .returned (.bool true) ∧ Below w.heap.size w w' := by
  have HT0 : Aside0 (Blk (w.alloc (.cells (nums .u8 t).toArray 54)) w.heap.size 54 (nums .u8 t)) := ⟨heap_alloc_new _ _⟩
  have HB0 := Aside0.mk ((Below.refl w.heap.size w).alloc (Nat.le_refl _) (.cells (nums .u8 t).toArray 54))
  have HL := Aside0.mk hr.len
  have HL' := Aside0.mk hr'.len
  have HR := Aside0.mk hr
  have HR' := Aside0.mk hr'
  have HTL := Aside0.mk ht
  have HBT := Aside0.mk bt
  have HBK := Aside0.mk hB
  have HBB := Aside0.mk hB'
  clear hr hr' ht bt hB hB'
  by_cases hm : m ≤ 4000
  · have hmi : ¬ (4000 : Int) < (m : Int) := by omega
    have HM1 : Aside0 (m ≤ 140737488355328) := ⟨by omega⟩
    go_enter Try.func10, Try.ntmps10
    go_wp2_with fail
    have HK0 := Aside0.mk (HR.out.below HB0.out)
    have HK0' := Aside0.mk (HR'.out.below HB0.out)
    generalize hW0 : w.alloc _ = w0
    rw [hW0] at HT0 HB0 HK0 HK0'
    clear hW0
    refine (own26_c HK0.out hn).mono ?_
    rintro x w1 ⟨v1, rfl, ho1, hb1⟩
    obtain ⟨A1, c1, rfl, r1⟩ := rd_of_own ho1
    rw [HL.out] at r1 ⊢
    clear ho1
    go_wp2_with fail
    refine (own26_c (HK0'.out.below hb1) hn').mono ?_
    rintro x w2 ⟨v2, rfl, ho2, hb2⟩
    obtain ⟨A2, c2, rfl, r2⟩ := rd_of_own ho2
    rw [HL'.out] at r2 ⊢
    have HB2 := Aside0.mk (below_next (below_next HB0.out hb1) hb2)
    have HT2 := Aside0.mk (Blk.below (Blk.below HT0.out hb1) hb2)
    have R1 := Aside0.mk (r1.below hb2)
    have R2 := Aside0.mk r2
    clear ho2 r1 r2 hb1 hb2
    go_wp2_with fail
    by_cases h32 : n = 32
    · subst h32
      refine (OTag_c R1.out R2.out HBK.out HBB.out HM1.out).mono ?_
      rintro x w3 ⟨v3, rfl, ho3, hb3⟩
      obtain ⟨A3, c3, rfl, r3⟩ := rd_of_own ho3
      have HB3 := Aside0.mk (below_next HB2.out hb3)
      have HT3 := Aside0.mk (Blk.below HT2.out hb3)
      have hT := Aside0.mk (tag_ok HL.out HBK.out HBB.out)
      obtain ⟨T, HTT⟩ : ∃ z, Aside0 (tagS (endS (rK k) b) (sK k) = z) := ⟨_, ⟨rfl⟩⟩
      rw [HTT.out] at r3 hT ⊢
      have R3 := Aside0.mk r3
      have hTl : T.length = 16 := hT.out.len
      rw [hTl] at r3 R3 ⊢
      clear ho3 r3 hb3 hTl
      go_wp2_with fail
      refine (own26_c (HR.out.below HB3.out) hn).mono ?_
      rintro x w4 ⟨v4, rfl, ho4, hb4⟩
      have HB4 := below_next HB3.out hb4
      go_wp2_with fail
      refine (own26_c (HR.out.below HB4) hn).mono ?_
      rintro x w5 ⟨v5, rfl, ho5, hb5⟩
      have HB5 := Aside0.mk (below_next HB4 hb5)
      have HT5 := Aside0.mk (Blk.below (Blk.below HT3.out hb4) hb5)
      have R5 := Aside0.mk ((R3.out.below hb4).below hb5)
      have ho4' := Kd.R_below ho4 hb5
      obtain ⟨gx, cx, rfl, gx0, gx1, -⟩ := Kd.R_form ho4 (by rw [HL.out]; decide)
      obtain ⟨gn, cn, rfl, gn0, gn1, -⟩ := Kd.R_form ho5 (by rw [HL.out]; decide)
      rw [HL.out] at ho4' ho5 ⊢
      have hne : Aside0 (gx ≠ gn ∧ gx ≠ w.heap.size ∧ gn ≠ w.heap.size) := ⟨by
        have := Blk.lt HT3.out
        have := hb4.size
        omega⟩
      have HX5 := Aside0.mk (Kd.R_lower ho4' HB3.out.size)
      have HN5 := Aside0.mk (Kd.R_lower ho5 HB4.size)
      have HGX : Aside0 (w3.heap.size ≤ gx ∧ w3.heap.size ≤ gn) := ⟨by have := hb4.size; omega⟩
      have HW5 := Aside0.mk (Below.refl w3.heap.size w3)
      have HB35 : Aside0 (Below w3.heap.size w3 w5) := ⟨below_next hb4 hb5⟩
      clear ho4 ho5 ho4' gx0 gx1 gn0 gn1 hb4 hb5 HB4
      go_wp2_with fail
      go_loopw [48] (fun i wr => ∃ j : Nat, j ≤ 16 ∧ i = .int .i64 j ∧ Aside0 (Ow wr w.heap.size (.slice (some ⟨gx, 0, none⟩) 32 cx) (xT k t j)) ∧ Aside0 (Ow wr w.heap.size (.slice (some ⟨gn, 0, none⟩) 32 cn) (nT k t j)) ∧ Aside0 (Blk wr w.heap.size 54 (nums .u8 t)) ∧ Below w3.heap.size w3 wr) (fun i _ => 16 - (intOf i).toNat)
      case atStart => exact ⟨0, by omega, rfl, HX5, HN5, HT5, HB35.out⟩
      case round =>
        clear HX5 HN5 HT5
        obtain ⟨j, hj, rfl, hX, hN, hTb, hb⟩ := hrel
        by_cases hlt : j < 16
        · have hlt' : (j : Int) < 16 := by omega
          have hlt32 : (j : Int) < 32 := by omega
          obtain ⟨kx, fx⟩ := ow_cell hX.out j (by omega)
          obtain ⟨kn, fn⟩ := ow_cell hN.out j (by omega)
          have kt : wr.cell? ⟨w.heap.size, j, none⟩ = some (.int .u8 (t.getD j 0)) := blk_num hTb.out j (by rw [HTL.out]; exact hlt)
          have e1 : Int.tmod (j : Int) 4 = ((j % 4 : Nat) : Int) := by rw [Int.tmod_eq_emod_of_nonneg (by omega)]; omega
          have hxn : Aside0 (xT k t (j + 1) = (xT k t j).set j (Go.bits .xor .u8 ((xT k t j).getD j 0) (Go.bits .and .u8 (t.getD j 0) (mask j)))) := ⟨rfl⟩
          have hnn : Aside0 (nT k t (j + 1) = (nT k t j).set j (Go.bits .and .u8 (t.getD j 0) (mask j))) := ⟨rfl⟩
          obtain ⟨x, HX⟩ : ∃ z, Aside0 ((xT k t j).getD j 0 = z) := ⟨_, ⟨rfl⟩⟩
          obtain ⟨y, HY⟩ : ∃ z, Aside0 ((nT k t j).getD j 0 = z) := ⟨_, ⟨rfl⟩⟩
          obtain ⟨u, HU⟩ : ∃ z, Aside0 (t.getD j 0 = z) := ⟨_, ⟨rfl⟩⟩
          rw [HX.out] at kx hxn
          rw [HY.out] at kn
          rw [HU.out] at kt hxn hnn
          obtain ⟨q, hq⟩ : ∃ q : Nat, j % 4 = q := ⟨_, rfl⟩
          rw [hq] at e1
          have hcase : (q = 3 ∧ mask j = 240) ∨ (q = 0 ∧ 0 < j ∧ mask j = 3) ∨ (q ≠ 3 ∧ ¬ (q = 0 ∧ 0 < j) ∧ mask j = 0) := by unfold mask; rw [hq]; by_cases h3 : q = 3 <;> by_cases h0 : q = 0 ∧ 0 < j <;> simp [h3, h0] <;> omega
          rcases hcase with ⟨rfl, hmk⟩ | ⟨rfl, hjp, hmk⟩ | ⟨hq3, hq0, hmk⟩
          · rw [hmk] at hxn hnn
            clear hq hmk
            go_wp2_with fail
            go_region
            have X1 : Aside0 (Ow (wr.setCell ⟨gx, j, none⟩ (.int .u8 (Go.bits .xor .u8 x (Go.bits .and .u8 u 240)))).drew w.heap.size (.slice (some ⟨gx, 0, none⟩) 32 cx) (xT k t (j + 1))) := ⟨by rw [hxn.out]; exact Kd.R_drew (ow_put hX.out j _)⟩
            have N1 : Aside0 (Ow (wr.setCell ⟨gx, j, none⟩ (.int .u8 (Go.bits .xor .u8 x (Go.bits .and .u8 u 240)))).drew w.heap.size (.slice (some ⟨gn, 0, none⟩) 32 cn) (nT k t j)) := ⟨Kd.R_drew (ow_set hN.out (Ne.symm hne.out.1) j _)⟩
            have T1 : Aside0 (Blk (wr.setCell ⟨gx, j, none⟩ (.int .u8 (Go.bits .xor .u8 x (Go.bits .and .u8 u 240)))).drew w.heap.size 54 (nums .u8 t)) := ⟨Blk.far hTb.out (p := ⟨gx, j, none⟩) (Ne.symm hne.out.2.1) _⟩
            have B1 : Below w3.heap.size w3 (wr.setCell ⟨gx, j, none⟩ (.int .u8 (Go.bits .xor .u8 x (Go.bits .and .u8 u 240)))).drew := (hb.setCell (p := ⟨gx, j, none⟩) HGX.out.1 _).drew
            generalize (wr.setCell ⟨gx, j, none⟩ (.int .u8 (Go.bits .xor .u8 x (Go.bits .and .u8 u 240)))).drew = w6 at X1 N1 T1 B1 ⊢
            clear kx fx kn fn kt
            obtain ⟨kn, fn⟩ := ow_cell N1.out j (by omega)
            have kt : w6.cell? ⟨w.heap.size, j, none⟩ = some (.int .u8 u) := by rw [← HU.out]; exact blk_num T1.out j (by rw [HTL.out]; exact hlt)
            rw [HY.out] at kn
            go_wp2_with fail
            have N2 : Aside0 (Ow (w6.setCell ⟨gn, j, none⟩ (.int .u8 (Go.bits .and .u8 u 240))) w.heap.size (.slice (some ⟨gn, 0, none⟩) 32 cn) (nT k t (j + 1))) := ⟨by rw [hnn.out]; exact ow_put N1.out j _⟩
            have X2 : Aside0 (Ow (w6.setCell ⟨gn, j, none⟩ (.int .u8 (Go.bits .and .u8 u 240))) w.heap.size (.slice (some ⟨gx, 0, none⟩) 32 cx) (xT k t (j + 1))) := ⟨ow_set X1.out hne.out.1 j _⟩
            have T2 : Aside0 (Blk (w6.setCell ⟨gn, j, none⟩ (.int .u8 (Go.bits .and .u8 u 240))) w.heap.size 54 (nums .u8 t)) := ⟨Blk.far T1.out (p := ⟨gn, j, none⟩) (Ne.symm hne.out.2.2) _⟩
            go_roundw
            case rel => exact ⟨j + 1, by omega, by go_num, X2, N2, T2, B1.setCell (p := ⟨gn, j, none⟩) HGX.out.2 _⟩
            case measure => simp [intOf]; omega
          · rw [hmk] at hxn hnn
            have hjp' : (0 : Int) < (j : Int) := by omega
            clear hq hmk
            go_wp2_with fail
            go_region
            have X1 : Aside0 (Ow (wr.setCell ⟨gx, j, none⟩ (.int .u8 (Go.bits .xor .u8 x (Go.bits .and .u8 u 3)))).drew w.heap.size (.slice (some ⟨gx, 0, none⟩) 32 cx) (xT k t (j + 1))) := ⟨by rw [hxn.out]; exact Kd.R_drew (ow_put hX.out j _)⟩
            have N1 : Aside0 (Ow (wr.setCell ⟨gx, j, none⟩ (.int .u8 (Go.bits .xor .u8 x (Go.bits .and .u8 u 3)))).drew w.heap.size (.slice (some ⟨gn, 0, none⟩) 32 cn) (nT k t j)) := ⟨Kd.R_drew (ow_set hN.out (Ne.symm hne.out.1) j _)⟩
            have T1 : Aside0 (Blk (wr.setCell ⟨gx, j, none⟩ (.int .u8 (Go.bits .xor .u8 x (Go.bits .and .u8 u 3)))).drew w.heap.size 54 (nums .u8 t)) := ⟨Blk.far hTb.out (p := ⟨gx, j, none⟩) (Ne.symm hne.out.2.1) _⟩
            have B1 : Below w3.heap.size w3 (wr.setCell ⟨gx, j, none⟩ (.int .u8 (Go.bits .xor .u8 x (Go.bits .and .u8 u 3)))).drew := (hb.setCell (p := ⟨gx, j, none⟩) HGX.out.1 _).drew
            generalize (wr.setCell ⟨gx, j, none⟩ (.int .u8 (Go.bits .xor .u8 x (Go.bits .and .u8 u 3)))).drew = w6 at X1 N1 T1 B1 ⊢
            clear kx fx kn fn kt
            obtain ⟨kn, fn⟩ := ow_cell N1.out j (by omega)
            have kt : w6.cell? ⟨w.heap.size, j, none⟩ = some (.int .u8 u) := by rw [← HU.out]; exact blk_num T1.out j (by rw [HTL.out]; exact hlt)
            rw [HY.out] at kn
            go_wp2_with fail
            have N2 : Aside0 (Ow (w6.setCell ⟨gn, j, none⟩ (.int .u8 (Go.bits .and .u8 u 3))) w.heap.size (.slice (some ⟨gn, 0, none⟩) 32 cn) (nT k t (j + 1))) := ⟨by rw [hnn.out]; exact ow_put N1.out j _⟩
            have X2 : Aside0 (Ow (w6.setCell ⟨gn, j, none⟩ (.int .u8 (Go.bits .and .u8 u 3))) w.heap.size (.slice (some ⟨gx, 0, none⟩) 32 cx) (xT k t (j + 1))) := ⟨ow_set X1.out hne.out.1 j _⟩
            have T2 : Aside0 (Blk (w6.setCell ⟨gn, j, none⟩ (.int .u8 (Go.bits .and .u8 u 3))) w.heap.size 54 (nums .u8 t)) := ⟨Blk.far T1.out (p := ⟨gn, j, none⟩) (Ne.symm hne.out.2.2) _⟩
            go_roundw
            case rel => exact ⟨j + 1, by omega, by go_num, X2, N2, T2, B1.setCell (p := ⟨gn, j, none⟩) HGX.out.2 _⟩
            case measure => simp [intOf]; omega
          · rw [hmk] at hxn hnn
            have hq3' : ((q : Nat) : Int) ≠ 3 := by omega
            have hq0' : ¬ ((q : Int) = 0 ∧ (0 : Int) < (j : Int)) := by omega
            clear hq hmk
            by_cases hqz : q = 0
            · subst hqz
              have hjn : ¬ (0 : Int) < (j : Int) := by omega
              clear hq3 hq0 hq3' hq0'
              go_wp2_with fail
              go_region
              have X1 : Aside0 (Ow (wr.setCell ⟨gx, j, none⟩ (.int .u8 (Go.bits .xor .u8 x (Go.bits .and .u8 u 0)))).drew w.heap.size (.slice (some ⟨gx, 0, none⟩) 32 cx) (xT k t (j + 1))) := ⟨by rw [hxn.out]; exact Kd.R_drew (ow_put hX.out j _)⟩
              have N1 : Aside0 (Ow (wr.setCell ⟨gx, j, none⟩ (.int .u8 (Go.bits .xor .u8 x (Go.bits .and .u8 u 0)))).drew w.heap.size (.slice (some ⟨gn, 0, none⟩) 32 cn) (nT k t j)) := ⟨Kd.R_drew (ow_set hN.out (Ne.symm hne.out.1) j _)⟩
              have T1 : Aside0 (Blk (wr.setCell ⟨gx, j, none⟩ (.int .u8 (Go.bits .xor .u8 x (Go.bits .and .u8 u 0)))).drew w.heap.size 54 (nums .u8 t)) := ⟨Blk.far hTb.out (p := ⟨gx, j, none⟩) (Ne.symm hne.out.2.1) _⟩
              have B1 : Below w3.heap.size w3 (wr.setCell ⟨gx, j, none⟩ (.int .u8 (Go.bits .xor .u8 x (Go.bits .and .u8 u 0)))).drew := (hb.setCell (p := ⟨gx, j, none⟩) HGX.out.1 _).drew
              generalize (wr.setCell ⟨gx, j, none⟩ (.int .u8 (Go.bits .xor .u8 x (Go.bits .and .u8 u 0)))).drew = w6 at X1 N1 T1 B1 ⊢
              clear kx fx kn fn kt
              obtain ⟨kn, fn⟩ := ow_cell N1.out j (by omega)
              have kt : w6.cell? ⟨w.heap.size, j, none⟩ = some (.int .u8 u) := by rw [← HU.out]; exact blk_num T1.out j (by rw [HTL.out]; exact hlt)
              rw [HY.out] at kn
              go_wp2_with fail
              have N2 : Aside0 (Ow (w6.setCell ⟨gn, j, none⟩ (.int .u8 (Go.bits .and .u8 u 0))) w.heap.size (.slice (some ⟨gn, 0, none⟩) 32 cn) (nT k t (j + 1))) := ⟨by rw [hnn.out]; exact ow_put N1.out j _⟩
              have X2 : Aside0 (Ow (w6.setCell ⟨gn, j, none⟩ (.int .u8 (Go.bits .and .u8 u 0))) w.heap.size (.slice (some ⟨gx, 0, none⟩) 32 cx) (xT k t (j + 1))) := ⟨ow_set X1.out hne.out.1 j _⟩
              have T2 : Aside0 (Blk (w6.setCell ⟨gn, j, none⟩ (.int .u8 (Go.bits .and .u8 u 0))) w.heap.size 54 (nums .u8 t)) := ⟨Blk.far T1.out (p := ⟨gn, j, none⟩) (Ne.symm hne.out.2.2) _⟩
              go_roundw
              case rel => exact ⟨j + 1, by omega, by go_num, X2, N2, T2, B1.setCell (p := ⟨gn, j, none⟩) HGX.out.2 _⟩
              case measure => simp [intOf]; omega
            · have hqz' : ((q : Nat) : Int) ≠ 0 := by omega
              go_wp2_with fail
              go_region
              have X1 : Aside0 (Ow (wr.setCell ⟨gx, j, none⟩ (.int .u8 (Go.bits .xor .u8 x (Go.bits .and .u8 u 0)))).drew w.heap.size (.slice (some ⟨gx, 0, none⟩) 32 cx) (xT k t (j + 1))) := ⟨by rw [hxn.out]; exact Kd.R_drew (ow_put hX.out j _)⟩
              have N1 : Aside0 (Ow (wr.setCell ⟨gx, j, none⟩ (.int .u8 (Go.bits .xor .u8 x (Go.bits .and .u8 u 0)))).drew w.heap.size (.slice (some ⟨gn, 0, none⟩) 32 cn) (nT k t j)) := ⟨Kd.R_drew (ow_set hN.out (Ne.symm hne.out.1) j _)⟩
              have T1 : Aside0 (Blk (wr.setCell ⟨gx, j, none⟩ (.int .u8 (Go.bits .xor .u8 x (Go.bits .and .u8 u 0)))).drew w.heap.size 54 (nums .u8 t)) := ⟨Blk.far hTb.out (p := ⟨gx, j, none⟩) (Ne.symm hne.out.2.1) _⟩
              have B1 : Below w3.heap.size w3 (wr.setCell ⟨gx, j, none⟩ (.int .u8 (Go.bits .xor .u8 x (Go.bits .and .u8 u 0)))).drew := (hb.setCell (p := ⟨gx, j, none⟩) HGX.out.1 _).drew
              generalize (wr.setCell ⟨gx, j, none⟩ (.int .u8 (Go.bits .xor .u8 x (Go.bits .and .u8 u 0)))).drew = w6 at X1 N1 T1 B1 ⊢
              clear kx fx kn fn kt
              obtain ⟨kn, fn⟩ := ow_cell N1.out j (by omega)
              have kt : w6.cell? ⟨w.heap.size, j, none⟩ = some (.int .u8 u) := by rw [← HU.out]; exact blk_num T1.out j (by rw [HTL.out]; exact hlt)
              rw [HY.out] at kn
              go_wp2_with fail
              have N2 : Aside0 (Ow (w6.setCell ⟨gn, j, none⟩ (.int .u8 (Go.bits .and .u8 u 0))) w.heap.size (.slice (some ⟨gn, 0, none⟩) 32 cn) (nT k t (j + 1))) := ⟨by rw [hnn.out]; exact ow_put N1.out j _⟩
              have X2 : Aside0 (Ow (w6.setCell ⟨gn, j, none⟩ (.int .u8 (Go.bits .and .u8 u 0))) w.heap.size (.slice (some ⟨gx, 0, none⟩) 32 cx) (xT k t (j + 1))) := ⟨ow_set X1.out hne.out.1 j _⟩
              have T2 : Aside0 (Blk (w6.setCell ⟨gn, j, none⟩ (.int .u8 (Go.bits .and .u8 u 0))) w.heap.size 54 (nums .u8 t)) := ⟨Blk.far T1.out (p := ⟨gn, j, none⟩) (Ne.symm hne.out.2.2) _⟩
              go_roundw
              case rel => exact ⟨j + 1, by omega, by go_num, X2, N2, T2, B1.setCell (p := ⟨gn, j, none⟩) HGX.out.2 _⟩
              case measure => simp [intOf]; omega
        · have hge : ¬ (j : Int) < 16 := by omega
          obtain rfl : j = 16 := by omega
          obtain ⟨Ax, cx', hxe, hrx⟩ := rd_of_own hX.out
          obtain ⟨An, cn', hne', hrn⟩ := rd_of_own hN.out
          injection hxe with hxe1 hxe2 hxe3
          injection hne' with hne1 hne2 hne3
          subst hxe1 hxe3 hne1 hne3
          rw [xT_length, HL.out] at hrx
          rw [nT_length, HL.out] at hrn
          have bx := Aside0.mk (xT_isB HL.out HBK.out HBT.out 16 (by omega))
          have bn := Aside0.mk (nT_isB HL.out HBK.out HBT.out 16 (by omega))
          have tx := Aside0.mk (IsTag.x HL.out HBK.out HBT.out hT.out)
          have tn := Aside0.mk (n_tag (b := b) HL.out HBK.out HBT.out)
          have t0 := Aside0.mk (no_tag HL.out HBK.out)
          obtain ⟨X, HX⟩ : ∃ z, Aside0 (xT k t 16 = z) := ⟨_, ⟨rfl⟩⟩
          obtain ⟨Nn, HN⟩ : ∃ z, Aside0 (nT k t 16 = z) := ⟨_, ⟨rfl⟩⟩
          rw [HX.out] at hrx bx tx
          rw [HN.out] at hrn bn tn
          have HRX := Aside0.mk hrx
          have HRN := Aside0.mk hrn
          have hXL := Aside0.mk hrx.len
          have hNL := Aside0.mk hrn.len
          have R6 := Aside0.mk (R3.out.below hb)
          clear hX hN hTb hrx hrn hxe2 hne2
          go_wp2_with fail
          have hB6 := HB3.out.trans (hb.mono HB3.out.size)
          refine (own26_c (HR'.out.below hB6) hn').mono ?_
          rintro x w7 ⟨v7, rfl, ho7, hb7⟩
          obtain ⟨A7, c7, rfl, r7⟩ := rd_of_own ho7
          rw [HL'.out] at r7 ⊢
          have hB7 := below_next hB6 hb7
          have HR7 := Aside0.mk r7
          clear ho7 r7
          go_wp2_with fail
          refine (OTag_c (HRX.out.below hb7) HR7.out bx.out HBB.out HM1.out).mono ?_
          rintro x w8 ⟨v8, rfl, ho8, hb8⟩
          rw [IsTag.uniq (tag_ok hXL.out bx.out HBB.out) tx.out] at ho8
          obtain ⟨A8, c8, rfl, r8⟩ := rd_of_own ho8
          rw [hT.out.len] at r8 ⊢
          have hB8 := below_next hB7 hb8
          have hb78 := below_next hb7 hb8
          have R8 := Aside0.mk r8
          clear ho8 r8
          go_wp2_with fail
          refine (own26_c (HR'.out.below hB8) hn').mono ?_
          rintro x w9 ⟨v9, rfl, ho9, hb9⟩
          obtain ⟨A9, c9, rfl, r9⟩ := rd_of_own ho9
          rw [HL'.out] at r9 ⊢
          have hB9 := below_next hB8 hb9
          have hb79 := below_next hb78 hb9
          have HR9 := Aside0.mk r9
          clear ho9 r9
          go_wp2_with fail
          refine (OTag_c (HRN.out.below hb79) HR9.out bn.out HBB.out HM1.out).mono ?_
          rintro x w10 ⟨v10, rfl, ho10, hb10⟩
          rw [IsTag.uniq (tag_ok hNL.out bn.out HBB.out) tn.out] at ho10
          obtain ⟨A10, c10, rfl, r10⟩ := rd_of_own ho10
          rw [show (k.drop 16).length = 16 by rw [List.length_drop, HL.out]] at r10 ⊢
          have hB10 := below_next hB9 hb10
          have R10 := Aside0.mk r10
          clear ho10 r10
          go_wp2_with fail
          refine (own26_c (HR.out.below hB10) hn).mono ?_
          rintro x w11 ⟨v11, rfl, ho11, hb11⟩
          obtain ⟨A11, c11, rfl, r11⟩ := rd_of_own ho11
          rw [HL.out] at r11 ⊢
          have hB11 := below_next hB10 hb11
          have HR11 := Aside0.mk r11
          clear ho11 r11
          go_wp2_with fail
          refine (OTag_c HR11.out (rd_nil w11) HBK.out (by intro x hx; cases hx) (by omega)).mono ?_
          rintro x w12 ⟨v12, rfl, ho12, hb12⟩
          rw [IsTag.uniq (tag_ok HL.out HBK.out (by intro x hx; cases hx)) t0.out] at ho12
          obtain ⟨A12, c12, rfl, r12⟩ := rd_of_own ho12
          rw [show (k.drop 16).length = 16 by rw [List.length_drop, HL.out]] at r12 ⊢
          have HB12 := Aside0.mk (below_next hB11 hb12)
          have S1 := Aside0.mk ((((((R6.out.below hb7).below hb8).below hb9).below hb10).below hb11).below hb12)
          have S2 := Aside0.mk ((((R8.out.below hb9).below hb10).below hb11).below hb12)
          have S3 := Aside0.mk ((R10.out.below hb11).below hb12)
          have S4 := Aside0.mk r12
          have S5 := Aside0.mk (HR.out.below HB12.out)
          clear r12 ho12 hb12 hb11 hb10 hb9 hb8 hb7 hb78 hb79 hB6 hB7 hB8 hB9 hB10 hB11
          go_wp2_with fail
          obtain ⟨A13, c13, hcut13, hrd13⟩ := rd_slice_from S5.out 16 (x := 16) (by omega) (by omega)
          obtain ⟨D, HDD⟩ : ∃ z, Aside0 (k.drop 16 = z) := ⟨_, ⟨rfl⟩⟩
          rw [HDD.out] at S3 S4 hrd13
          have S6 := Aside0.mk hrd13
          clear hrd13
          have hE : ∀ w' : World, Below w12.heap.size w12 w' → ((convert 22 9 (.slice A3 16 c3)).run Try.prog w' = .ok (.string (strOfNums T)) w' ∧ (convert 22 9 (.slice A8 16 c8)).run Try.prog w' = .ok (.string (strOfNums T)) w' ∧ (convert 22 9 (.slice A10 16 c10)).run Try.prog w' = .ok (.string (strOfNums D)) w' ∧ (convert 22 9 (.slice A12 16 c12)).run Try.prog w' = .ok (.string (strOfNums D)) w' ∧ (convert 22 9 (.slice A13 16 c13)).run Try.prog w' = .ok (.string (strOfNums D)) w') := fun w' hb => ⟨rd_string (S1.out.below hb), rd_string (S2.out.below hb), rd_string (S3.out.below hb), rd_string (S4.out.below hb), rd_string (S6.out.below hb)⟩
          have HE := Aside0.mk hE
          have HD : Below w12.heap.size w12 w12.drew := (Below.refl _ w12).drew
          have str := str_self T
          have str2 := str_self D
          clear hE
          refine wp_region_held_drew (S := (fun w' => (convert 22 9 (.slice A3 16 c3)).run Try.prog w' = .ok (.string (strOfNums T)) w' ∧ (convert 22 9 (.slice A8 16 c8)).run Try.prog w' = .ok (.string (strOfNums T)) w' ∧ (convert 22 9 (.slice A10 16 c10)).run Try.prog w' = .ok (.string (strOfNums D)) w' ∧ (convert 22 9 (.slice A12 16 c12)).run Try.prog w' = .ok (.string (strOfNums D)) w' ∧ (convert 22 9 (.slice A13 16 c13)).run Try.prog w' = .ok (.string (strOfNums D)) w')) (by kernel_rfl) ?_ (fun hHeld => ?_)
          · exact HE.out _ HD
          refine wpAnyH_take (i := 0) (v := ?_) (List.getElem?_toArray.trans rfl) (by kernel_rfl) (by kernel_rfl) (by kernel_rfl) (fun _ _ _ h => h) (Or.inl ⟨by rfl, ?_⟩) (by assumption) ?_
          rotate_left
          · (intro w hSw; (try dsimp only at hSw); obtain ⟨hs1, hs2, hs3, hs4, hs5⟩ := hSw; go_simp; try with_reducible rfl)
          (try simp only [Act.put, List.setIfInBounds_toArray, List.set_cons_zero, List.set_cons_succ])
          refine wpAnyH_take (i := 1) (v := ?_) (List.getElem?_toArray.trans rfl) (by kernel_rfl) (by kernel_rfl) (by kernel_rfl) (fun _ _ _ h => h) (Or.inl ⟨by rfl, ?_⟩) (by assumption) ?_
          rotate_left
          · (intro w hSw; (try dsimp only at hSw); obtain ⟨hs1, hs2, hs3, hs4, hs5⟩ := hSw; go_simp; try with_reducible rfl)
          (try simp only [Act.put, List.setIfInBounds_toArray, List.set_cons_zero, List.set_cons_succ])
          refine wpAnyH_take (i := 2) (v := ?_) (List.getElem?_toArray.trans rfl) (by kernel_rfl) (by kernel_rfl) (by kernel_rfl) (fun _ _ _ h => h) (Or.inl ⟨by rfl, ?_⟩) (by assumption) ?_
          rotate_left
          · (intro w hSw; (try dsimp only at hSw); obtain ⟨hs1, hs2, hs3, hs4, hs5⟩ := hSw; go_simp; try with_reducible rfl)
          (try simp only [Act.put, List.setIfInBounds_toArray, List.set_cons_zero, List.set_cons_succ])
          refine wpAnyH_take (i := 3) (v := ?_) (List.getElem?_toArray.trans rfl) (by kernel_rfl) (by kernel_rfl) (by kernel_rfl) (fun _ _ _ h => h) (Or.inl ⟨by rfl, ?_⟩) (by assumption) ?_
          rotate_left
          · (intro w hSw; (try dsimp only at hSw); obtain ⟨hs1, hs2, hs3, hs4, hs5⟩ := hSw; go_simp; try with_reducible rfl)
          (try simp only [Act.put, List.setIfInBounds_toArray, List.set_cons_zero, List.set_cons_succ])
          refine wpAnyH_take (i := 4) (v := ?_) (List.getElem?_toArray.trans rfl) (by kernel_rfl) (by kernel_rfl) (by kernel_rfl) (fun _ _ _ h => h) (Or.inl ⟨by rfl, ?_⟩) (by assumption) ?_
          rotate_left
          · (intro w hSw; (try dsimp only at hSw); obtain ⟨hs1, hs2, hs3, hs4, hs5⟩ := hSw; go_simp; try with_reducible rfl)
          (try simp only [Act.put, List.setIfInBounds_toArray, List.set_cons_zero, List.set_cons_succ])
          refine wpAnyH_take (i := 5) (v := ?_) (List.getElem?_toArray.trans rfl) (by kernel_rfl) (by kernel_rfl) (by kernel_rfl) (fun _ _ _ h => h) (Or.inl ⟨by rfl, ?_⟩) (by assumption) ?_
          rotate_left
          · (intro w hSw; (try dsimp only at hSw); obtain ⟨hs1, hs2, hs3, hs4, hs5⟩ := hSw; go_simp; try with_reducible rfl)
          (try simp only [Act.put, List.setIfInBounds_toArray, List.set_cons_zero, List.set_cons_succ])
          refine wpAnyH_take (i := 6) (v := ?_) (List.getElem?_toArray.trans rfl) (by kernel_rfl) (by kernel_rfl) (by kernel_rfl) (fun _ _ _ h => h) (Or.inl ⟨by rfl, ?_⟩) (by assumption) ?_
          rotate_left
          · (intro w hSw; (try dsimp only at hSw); obtain ⟨hs1, hs2, hs3, hs4, hs5⟩ := hSw; go_simp; try with_reducible rfl)
          (try simp only [Act.put, List.setIfInBounds_toArray, List.set_cons_zero, List.set_cons_succ])
          refine wpAnyH_take (i := 7) (v := ?_) (List.getElem?_toArray.trans rfl) (by kernel_rfl) (by kernel_rfl) (by kernel_rfl) (fun _ _ _ h => h) (Or.inl ⟨by rfl, ?_⟩) (by assumption) ?_
          rotate_left
          · (intro w hSw; (try dsimp only at hSw); obtain ⟨hs1, hs2, hs3, hs4, hs5⟩ := hSw; go_simp; try with_reducible rfl)
          (try simp only [Act.put, List.setIfInBounds_toArray, List.set_cons_zero, List.set_cons_succ])
          refine wpAnyH_take (i := 8) (v := ?_) (List.getElem?_toArray.trans rfl) (by kernel_rfl) (by kernel_rfl) (by kernel_rfl) (fun _ _ _ h => h) (Or.inl ⟨by rfl, ?_⟩) (by assumption) ?_
          rotate_left
          · (intro w hSw; (try dsimp only at hSw); obtain ⟨hs1, hs2, hs3, hs4, hs5⟩ := hSw; go_simp; try with_reducible rfl)
          (try simp only [Act.put, List.setIfInBounds_toArray, List.set_cons_zero, List.set_cons_succ])
          refine wpAnyH_take (i := 9) (v := ?_) (List.getElem?_toArray.trans rfl) (by kernel_rfl) (by kernel_rfl) (by kernel_rfl) (fun _ _ _ h => h) (Or.inl ⟨by rfl, ?_⟩) (by assumption) ?_
          rotate_left
          · (intro w hSw; (try dsimp only at hSw); obtain ⟨hs1, hs2, hs3, hs4, hs5⟩ := hSw; go_simp; try with_reducible rfl)
          (try simp only [Act.put, List.setIfInBounds_toArray, List.set_cons_zero, List.set_cons_succ])
          refine wpAnyH_take (i := 10) (v := ?_) (List.getElem?_toArray.trans rfl) (by kernel_rfl) (by kernel_rfl) (by kernel_rfl) (fun _ _ _ h => h) (Or.inl ⟨by rfl, ?_⟩) (by assumption) ?_
          rotate_left
          · (intro w hSw; (try dsimp only at hSw); obtain ⟨hs1, hs2, hs3, hs4, hs5⟩ := hSw; go_simp; try with_reducible rfl)
          (try simp only [Act.put, List.setIfInBounds_toArray, List.set_cons_zero, List.set_cons_succ])
          refine wpAnyH_take (i := 11) (v := ?_) (List.getElem?_toArray.trans rfl) (by kernel_rfl) (by kernel_rfl) (by kernel_rfl) (fun _ _ _ h => h) (Or.inl ⟨by rfl, ?_⟩) (by assumption) ?_
          rotate_left
          · (intro w hSw; (try dsimp only at hSw); obtain ⟨hs1, hs2, hs3, hs4, hs5⟩ := hSw; go_simp; try with_reducible rfl)
          (try simp only [Act.put, List.setIfInBounds_toArray, List.set_cons_zero, List.set_cons_succ])
          refine wpAnyH_take (i := 12) (v := ?_) (List.getElem?_toArray.trans rfl) (by kernel_rfl) (by kernel_rfl) (by kernel_rfl) (fun _ _ _ h => h) (Or.inl ⟨by rfl, ?_⟩) (by assumption) ?_
          rotate_left
          · (intro w hSw; (try dsimp only at hSw); obtain ⟨hs1, hs2, hs3, hs4, hs5⟩ := hSw; go_simp; try with_reducible rfl)
          (try simp only [Act.put, List.setIfInBounds_toArray, List.set_cons_zero, List.set_cons_succ])
          refine wpAnyH_take (i := 13) (v := ?_) (List.getElem?_toArray.trans rfl) (by kernel_rfl) (by kernel_rfl) (by kernel_rfl) (fun _ _ _ h => h) (Or.inl ⟨by rfl, ?_⟩) (by assumption) ?_
          rotate_left
          · (intro w hSw; (try dsimp only at hSw); obtain ⟨hs1, hs2, hs3, hs4, hs5⟩ := hSw; go_simp; try with_reducible rfl)
          (try simp only [Act.put, List.setIfInBounds_toArray, List.set_cons_zero, List.set_cons_succ])
          refine wpAnyH_take (i := 14) (v := ?_) (List.getElem?_toArray.trans rfl) (by kernel_rfl) (by kernel_rfl) (by kernel_rfl) (fun _ _ _ h => h) (Or.inl ⟨by rfl, ?_⟩) (by assumption) ?_
          rotate_left
          · (intro w hSw; (try dsimp only at hSw); obtain ⟨hs1, hs2, hs3, hs4, hs5⟩ := hSw; go_simp; try with_reducible rfl)
          (try simp only [Act.put, List.setIfInBounds_toArray, List.set_cons_zero, List.set_cons_succ])
          refine wpAnyH_take (i := 15) (v := ?_) (List.getElem?_toArray.trans rfl) (by kernel_rfl) (by kernel_rfl) (by kernel_rfl) (fun _ _ _ h => h) (Or.inl ⟨by rfl, ?_⟩) (by assumption) ?_
          rotate_left
          · (intro w hSw; (try dsimp only at hSw); obtain ⟨hs1, hs2, hs3, hs4, hs5⟩ := hSw; go_simp; try with_reducible rfl)
          (try simp only [Act.put, List.setIfInBounds_toArray, List.set_cons_zero, List.set_cons_succ])
          refine wpAnyH_take (i := 16) (v := ?_) (List.getElem?_toArray.trans rfl) (by kernel_rfl) (by kernel_rfl) (by kernel_rfl) (fun _ _ _ h => h) (Or.inl ⟨by rfl, ?_⟩) (by assumption) ?_
          rotate_left
          · (intro w hSw; (try dsimp only at hSw); obtain ⟨hs1, hs2, hs3, hs4, hs5⟩ := hSw; go_simp; try with_reducible rfl)
          (try simp only [Act.put, List.setIfInBounds_toArray, List.set_cons_zero, List.set_cons_succ])
          refine wpAnyH_take (i := 17) (v := ?_) (List.getElem?_toArray.trans rfl) (by kernel_rfl) (by kernel_rfl) (by kernel_rfl) (fun _ _ _ h => h) (Or.inl ⟨by rfl, ?_⟩) (by assumption) ?_
          rotate_left
          · (intro w hSw; (try dsimp only at hSw); obtain ⟨hs1, hs2, hs3, hs4, hs5⟩ := hSw; go_simp; try with_reducible rfl)
          (try simp only [Act.put, List.setIfInBounds_toArray, List.set_cons_zero, List.set_cons_succ])
          refine wpAnyH_take (i := 18) (v := ?_) (List.getElem?_toArray.trans rfl) (by kernel_rfl) (by kernel_rfl) (by kernel_rfl) (fun _ _ _ h => h) (Or.inl ⟨by rfl, ?_⟩) (by assumption) ?_
          rotate_left
          · (intro w hSw; (try dsimp only at hSw); obtain ⟨hs1, hs2, hs3, hs4, hs5⟩ := hSw; go_simp; try with_reducible rfl)
          (try simp only [Act.put, List.setIfInBounds_toArray, List.set_cons_zero, List.set_cons_succ])
          refine wpAnyH_take (i := 19) (v := ?_) (List.getElem?_toArray.trans rfl) (by kernel_rfl) (by kernel_rfl) (by kernel_rfl) (fun _ _ _ h => h) (Or.inl ⟨by rfl, ?_⟩) (by assumption) ?_
          rotate_left
          · (intro w hSw; (try dsimp only at hSw); obtain ⟨hs1, hs2, hs3, hs4, hs5⟩ := hSw; go_simp; try with_reducible rfl)
          (try simp only [Act.put, List.setIfInBounds_toArray, List.set_cons_zero, List.set_cons_succ])
          refine wpAnyH_take (i := 20) (v := ?_) (List.getElem?_toArray.trans rfl) (by kernel_rfl) (by kernel_rfl) (by kernel_rfl) (fun _ _ _ h => h) (Or.inl ⟨by rfl, ?_⟩) (by assumption) ?_
          rotate_left
          · (intro w hSw; (try dsimp only at hSw); obtain ⟨hs1, hs2, hs3, hs4, hs5⟩ := hSw; go_simp; try with_reducible rfl)
          (try simp only [Act.put, List.setIfInBounds_toArray, List.set_cons_zero, List.set_cons_succ])
          refine wpAnyH_take (i := 21) (v := ?_) (List.getElem?_toArray.trans rfl) (by kernel_rfl) (by kernel_rfl) (by kernel_rfl) (fun _ _ _ h => h) (Or.inl ⟨by rfl, ?_⟩) (by assumption) ?_
          rotate_left
          · (intro w hSw; (try dsimp only at hSw); obtain ⟨hs1, hs2, hs3, hs4, hs5⟩ := hSw; go_simp; try with_reducible rfl)
          (try simp only [Act.put, List.setIfInBounds_toArray, List.set_cons_zero, List.set_cons_succ])
          refine wpAnyH_take (i := 22) (v := ?_) (List.getElem?_toArray.trans rfl) (by kernel_rfl) (by kernel_rfl) (by kernel_rfl) (fun _ _ _ h => h) (Or.inl ⟨by rfl, ?_⟩) (by assumption) ?_
          rotate_left
          · (intro w hSw; (try dsimp only at hSw); obtain ⟨hs1, hs2, hs3, hs4, hs5⟩ := hSw; go_simp; try with_reducible rfl)
          (try simp only [Act.put, List.setIfInBounds_toArray, List.set_cons_zero, List.set_cons_succ])
          refine wpAnyH_take (i := 23) (v := ?_) (List.getElem?_toArray.trans rfl) (by kernel_rfl) (by kernel_rfl) (by kernel_rfl) (fun _ _ _ h => h) (Or.inl ⟨by rfl, ?_⟩) (by assumption) ?_
          rotate_left
          · (intro w hSw; (try dsimp only at hSw); obtain ⟨hs1, hs2, hs3, hs4, hs5⟩ := hSw; go_simp; try with_reducible rfl)
          (try simp only [Act.put, List.setIfInBounds_toArray, List.set_cons_zero, List.set_cons_succ])
          refine wpAnyH_take (i := 24) (v := ?_) (List.getElem?_toArray.trans rfl) (by kernel_rfl) (by kernel_rfl) (by kernel_rfl) (fun _ _ _ h => h) (Or.inl ⟨by rfl, ?_⟩) (by assumption) ?_
          rotate_left
          · (intro w hSw; (try dsimp only at hSw); obtain ⟨hs1, hs2, hs3, hs4, hs5⟩ := hSw; go_simp; try with_reducible rfl)
          (try simp only [Act.put, List.setIfInBounds_toArray, List.set_cons_zero, List.set_cons_succ])
          refine wpAnyH_take (i := 25) (v := ?_) (List.getElem?_toArray.trans rfl) (by kernel_rfl) (by kernel_rfl) (by kernel_rfl) (fun _ _ _ h => h) (Or.inl ⟨by rfl, ?_⟩) (by assumption) ?_
          rotate_left
          · (intro w hSw; (try dsimp only at hSw); obtain ⟨hs1, hs2, hs3, hs4, hs5⟩ := hSw; go_simp; try with_reducible rfl)
          (try simp only [Act.put, List.setIfInBounds_toArray, List.set_cons_zero, List.set_cons_succ])
          refine wpAnyH_take (i := 26) (v := ?_) (List.getElem?_toArray.trans rfl) (by kernel_rfl) (by kernel_rfl) (by kernel_rfl) (fun _ _ _ h => h) (Or.inl ⟨by rfl, ?_⟩) (by assumption) ?_
          rotate_left
          · (intro w hSw; (try dsimp only at hSw); obtain ⟨hs1, hs2, hs3, hs4, hs5⟩ := hSw; go_simp; try with_reducible rfl)
          (try simp only [Act.put, List.setIfInBounds_toArray, List.set_cons_zero, List.set_cons_succ])
          refine wpAnyH_take (i := 27) (v := ?_) (List.getElem?_toArray.trans rfl) (by kernel_rfl) (by kernel_rfl) (by kernel_rfl) (fun _ _ _ h => h) (Or.inl ⟨by rfl, ?_⟩) (by assumption) ?_
          rotate_left
          · (intro w hSw; (try dsimp only at hSw); obtain ⟨hs1, hs2, hs3, hs4, hs5⟩ := hSw; go_simp; try with_reducible rfl)
          (try simp only [Act.put, List.setIfInBounds_toArray, List.set_cons_zero, List.set_cons_succ])
          refine wpAnyH_take (i := 28) (v := ?_) (List.getElem?_toArray.trans rfl) (by kernel_rfl) (by kernel_rfl) (by kernel_rfl) (fun _ _ _ h => h) (Or.inl ⟨by rfl, ?_⟩) (by assumption) ?_
          rotate_left
          · (intro w hSw; (try dsimp only at hSw); obtain ⟨hs1, hs2, hs3, hs4, hs5⟩ := hSw; go_simp; try with_reducible rfl)
          (try simp only [Act.put, List.setIfInBounds_toArray, List.set_cons_zero, List.set_cons_succ])
          refine wpAnyH_take (i := 29) (v := ?_) (List.getElem?_toArray.trans rfl) (by kernel_rfl) (by kernel_rfl) (by kernel_rfl) (fun _ _ _ h => h) (Or.inl ⟨by rfl, ?_⟩) (by assumption) ?_
          rotate_left
          · (intro w hSw; (try dsimp only at hSw); obtain ⟨hs1, hs2, hs3, hs4, hs5⟩ := hSw; go_simp; try with_reducible rfl)
          (try simp only [Act.put, List.setIfInBounds_toArray, List.set_cons_zero, List.set_cons_succ])
          refine wpAnyH_take (i := 30) (v := ?_) (List.getElem?_toArray.trans rfl) (by kernel_rfl) (by kernel_rfl) (by kernel_rfl) (fun _ _ _ h => h) (Or.inl ⟨by rfl, ?_⟩) (by assumption) ?_
          rotate_left
          · (intro w hSw; (try dsimp only at hSw); obtain ⟨hs1, hs2, hs3, hs4, hs5⟩ := hSw; go_simp; try with_reducible rfl)
          (try simp only [Act.put, List.setIfInBounds_toArray, List.set_cons_zero, List.set_cons_succ])
          refine wpAnyH_take (i := 31) (v := ?_) (List.getElem?_toArray.trans rfl) (by kernel_rfl) (by kernel_rfl) (by kernel_rfl) (fun _ _ _ h => h) (Or.inl ⟨by rfl, ?_⟩) (by assumption) ?_
          rotate_left
          · (intro w hSw; (try dsimp only at hSw); obtain ⟨hs1, hs2, hs3, hs4, hs5⟩ := hSw; go_simp; try with_reducible rfl)
          (try simp only [Act.put, List.setIfInBounds_toArray, List.set_cons_zero, List.set_cons_succ])
          refine wpAnyH_take (i := 32) (v := ?_) (List.getElem?_toArray.trans rfl) (by kernel_rfl) (by kernel_rfl) (by kernel_rfl) (fun _ _ _ h => h) (Or.inl ⟨by rfl, ?_⟩) (by assumption) ?_
          rotate_left
          · (intro w hSw; (try dsimp only at hSw); obtain ⟨hs1, hs2, hs3, hs4, hs5⟩ := hSw; go_simp; try with_reducible rfl)
          (try simp only [Act.put, List.setIfInBounds_toArray, List.set_cons_zero, List.set_cons_succ])
          refine wpAnyH_take (i := 33) (v := ?_) (List.getElem?_toArray.trans rfl) (by kernel_rfl) (by kernel_rfl) (by kernel_rfl) (fun _ _ _ h => h) (Or.inl ⟨by rfl, ?_⟩) (by assumption) ?_
          rotate_left
          · (intro w hSw; (try dsimp only at hSw); obtain ⟨hs1, hs2, hs3, hs4, hs5⟩ := hSw; go_simp; try with_reducible rfl)
          (try simp only [Act.put, List.setIfInBounds_toArray, List.set_cons_zero, List.set_cons_succ])
          refine wpAnyH_take (i := 34) (v := ?_) (List.getElem?_toArray.trans rfl) (by kernel_rfl) (by kernel_rfl) (by kernel_rfl) (fun _ _ _ h => h) (Or.inl ⟨by rfl, ?_⟩) (by assumption) ?_
          rotate_left
          · (intro w hSw; (try dsimp only at hSw); obtain ⟨hs1, hs2, hs3, hs4, hs5⟩ := hSw; go_simp; try with_reducible rfl)
          (try simp only [Act.put, List.setIfInBounds_toArray, List.set_cons_zero, List.set_cons_succ])
          refine wpAnyH_take (i := 35) (v := ?_) (List.getElem?_toArray.trans rfl) (by kernel_rfl) (by kernel_rfl) (by kernel_rfl) (fun _ _ _ h => h) (Or.inl ⟨by rfl, ?_⟩) (by assumption) ?_
          rotate_left
          · (intro w hSw; (try dsimp only at hSw); obtain ⟨hs1, hs2, hs3, hs4, hs5⟩ := hSw; go_simp; try with_reducible rfl)
          (try simp only [Act.put, List.setIfInBounds_toArray, List.set_cons_zero, List.set_cons_succ])
          refine wpAnyH_take (i := 36) (v := ?_) (List.getElem?_toArray.trans rfl) (by kernel_rfl) (by kernel_rfl) (by kernel_rfl) (fun _ _ _ h => h) (Or.inl ⟨by rfl, ?_⟩) (by assumption) ?_
          rotate_left
          · (intro w hSw; (try dsimp only at hSw); obtain ⟨hs1, hs2, hs3, hs4, hs5⟩ := hSw; go_simp; try with_reducible rfl)
          (try simp only [Act.put, List.setIfInBounds_toArray, List.set_cons_zero, List.set_cons_succ])
          refine wpAnyH_take (i := 37) (v := ?_) (List.getElem?_toArray.trans rfl) (by kernel_rfl) (by kernel_rfl) (by kernel_rfl) (fun _ _ _ h => h) (Or.inl ⟨by rfl, ?_⟩) (by assumption) ?_
          rotate_left
          · (intro w hSw; (try dsimp only at hSw); obtain ⟨hs1, hs2, hs3, hs4, hs5⟩ := hSw; go_simp; try with_reducible rfl)
          (try simp only [Act.put, List.setIfInBounds_toArray, List.set_cons_zero, List.set_cons_succ])
          refine wpAnyH_ready (rs := [38]) (by kernel_rfl) (by simp) (AllReadyH.cons (List.getElem?_toArray.trans rfl) (fun Kx hKx => ?_) AllReadyH.nil)
          go_simp
          go_at_call 25
          refine awake25_c.mono ?_
          rintro x w13 ⟨rfl, hb13⟩
          have HB13 := below_next HD hb13
          go_wp2_with fail
          refine hKx.out _ _ ?_ (fun hHeld => ?_)
          · exact HE.out _ HB13
          clear hKx Kx
          (try simp only [Act.put, List.setIfInBounds_toArray, List.set_cons_zero, List.set_cons_succ])
          refine wpAnyH_take (i := 39) (v := ?_) (List.getElem?_toArray.trans rfl) (by kernel_rfl) (by kernel_rfl) (by kernel_rfl) (fun _ _ _ h => h) (Or.inl ⟨by rfl, ?_⟩) (by assumption) ?_
          rotate_left
          · (intro w hSw; (try dsimp only at hSw); obtain ⟨hs1, hs2, hs3, hs4, hs5⟩ := hSw; go_simp; try with_reducible rfl)
          (try simp only [Act.put, List.setIfInBounds_toArray, List.set_cons_zero, List.set_cons_succ])
          refine wpAnyH_take (i := 40) (v := ?_) (List.getElem?_toArray.trans rfl) (by kernel_rfl) (by kernel_rfl) (by kernel_rfl) (fun _ _ _ h => h) (Or.inl ⟨by rfl, ?_⟩) (by assumption) ?_
          rotate_left
          · (intro w hSw; (try dsimp only at hSw); obtain ⟨hs1, hs2, hs3, hs4, hs5⟩ := hSw; go_simp; try with_reducible rfl)
          (try simp only [Act.put, List.setIfInBounds_toArray, List.set_cons_zero, List.set_cons_succ])
          refine wpAnyH_done (by kernel_rfl) ?_ _
          go_wp2_with fail
          go_ret
          exact ⟨rfl, below_next HB12.out HB13⟩
    · refine (OTag_no h32).mono ?_
      rintro x w3 ⟨rfl, rfl⟩
      have hne32 : ((n : Int) != 32) = true := by rw [bne_iff_ne]; omega
      go_wp2_with fail
      refine awake25_c.mono ?_
      rintro x w5 ⟨rfl, hb5⟩
      go_wp2_with fail
      go_ret
      exact ⟨rfl, below_next HB2.out hb5⟩
  · have hmi : (4000 : Int) < (m : Int) := by omega
    go_enter Try.func10, Try.ntmps10
    go_wp2_with fail
    refine awake25_c.mono ?_
    rintro x w5 ⟨rfl, hb5⟩
    go_wp2_with fail
    go_ret
    exact ⟨rfl, below_next HB0.out hb5⟩
end Go.Proofs.Ytkjmjgiklelpiaa.WalkOnetimeBits
