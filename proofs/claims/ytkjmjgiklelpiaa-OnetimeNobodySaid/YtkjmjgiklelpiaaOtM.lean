/- onetime.least, walked. -/
import Derived.Test.YtkjmjgiklelpiaaApp
import Derived.Test.YtkjmjgiklelpiaaQuart
import Derived.Test.YtkjmjgiklelpiaaPlainCipherBlocks
import Derived.Deep.RegionHeld3
import Derived.Deep.Cut
import Derived.Deep.CutRange
import Derived.Test.YtkjmjgiklelpiaaOtL
import Derived.Test.YtkjmjgiklelpiaaCiD
namespace Go.Proofs.Ytkjmjgiklelpiaa.OtM
open Go.RowKit Go.Proofs.YtkjmjgiklelpiaaW.PrintWords Go.Proofs.Ytkjmjgiklelpiaa.Num Go.Proofs.Ytkjmjgiklelpiaa.WordC Go.Proofs.Ytkjmjgiklelpiaa.Arr Go.Proofs.Ytkjmjgiklelpiaa.App Go.Proofs.Ytkjmjgiklelpiaa.CiC Go.Proofs.Ytkjmjgiklelpiaa.CiD Go.Proofs.Ytkjmjgiklelpiaa.OtC Go.Proofs.Ytkjmjgiklelpiaa.OtR Go.Proofs.Ytkjmjgiklelpiaa.OtL
set_option linter.unusedVariables false
set_option linter.unusedSimpArgs false

theorem blk_u64 {w : World} {g : Nat} {l : List Int} (h : Blk w g 79 (nums .u64 l)) (i : Nat) (hi : i < l.length) : w.cell? ⟨g, i, none⟩ = some (.int .u64 (l.getD i 0)) := blk_num h i hi
set_option maxHeartbeats 8000000 in
set_option maxRecDepth 100000 in
theorem least_c {a : List Int} {w : World} (hl : a.length = 5) (h : IsL a) :
    Calls Try.prog 56 #[.agg (nums .u64 a).toArray] w fun e w' => e = .returned (.agg (nums .u64 (leastS a)).toArray) ∧ Below w.heap.size w w' := by
  have HL := Aside0.mk hl
  have HA := Aside0.mk h
  clear hl h
  have hlow1 := carS_low HL.out HA.out
  have hlow2 := carS_low hlow1.length hlow1.isL
  have H1 := Aside0.mk hlow1
  have H2 := Aside0.mk hlow2
  have hls : Aside0 (leastS a = pickS (carS (carS a))) := ⟨rfl⟩
  clear hlow1 hlow2
  go_enter Try.func56, Try.ntmps56
  go_upto_region 1 with (fail)
  generalize hW : (w.alloc _).alloc _ = W0
  have hX : Blk W0 w.heap.size 79 (nums .u64 a) := by rw [← hW]; exact heap_alloc2_old _ _ _
  have hY : Blk W0 (w.heap.size + 1) 79 (nums .u64 (List.replicate 5 0)) := by rw [← hW]; exact heap_alloc2_new _ _ _
  have hB : Below w.heap.size w W0 := by rw [← hW]; exact ((Below.refl _ w).alloc (Nat.le_refl _) _).alloc (by simp) _
  clear hW
  have HX := Aside0.mk hX
  have HY := Aside0.mk hY
  have HB := Aside0.mk hB
  clear hX hY hB
  go_wp2_with (first
    | (refine load_arr rfl 79 (.tmp 1) rfl w.heap.size rfl 79 .u64 a 5 36 HX.out Try.underlying79 size79 HL.out ?_))
  refine (carried_c HL.out HA.out).mono ?_
  rintro x w1 ⟨rfl, hb1⟩
  obtain ⟨a1, HA1⟩ : ∃ z, Aside0 (carS a = z) := ⟨_, ⟨rfl⟩⟩
  rw [HA1.out] at H1 H2 hls ⊢
  go_wp2_with fail
  refine (carried_c H1.out.length H1.out.isL).mono ?_
  rintro x w2 ⟨rfl, hb2⟩
  obtain ⟨a2, HA2⟩ : ∃ z, Aside0 (carS a1 = z) := ⟨_, ⟨rfl⟩⟩
  rw [HA2.out] at H2 hls ⊢
  have HX2 := Aside0.mk ((HX.out.below hb1).below hb2)
  have HY2 := Aside0.mk ((HY.out.below hb1).below hb2)
  have HB2 := Aside0.mk (below_next (below_next HB.out hb1) hb2)
  have HLL := Aside0.mk H2.out.length
  clear hb1 hb2
  go_wp2_with (first
    | (refine store_arr rfl 79 (.tmp 1) (.tmp 10) rfl w.heap.size .u64 a2 rfl rfl 79 5 _ HX2.out size79 HLL.out (by rw [nums_length]; exact HL.out) ?_; intro w3 hZ hg3
       have HX3 := Aside0.mk hZ
       have HB3 := Aside0.mk (HB2.out.grown hg3 HB2.out.size (fun k hk => by cases hk; exact Nat.le_refl _))
       have HY3 : Aside0 (Blk w3 (w.heap.size + 1) 79 (nums .u64 (List.replicate 5 0))) := ⟨(hg3.block (w.heap.size + 1) (Blk.lt HY2.out) (by simp)).trans HY2.out⟩
       clear hZ hg3)
    | (refine load_arr rfl 79 (.tmp 1) rfl w.heap.size rfl 79 .u64 a2 5 36 HX3.out Try.underlying79 size79 HLL.out ?_
       have HZ4 : Aside0 (Blk (w3.alloc (.cells (nums .u64 (List.replicate 5 0)).toArray 79)) w3.heap.size 79 (nums .u64 (List.replicate 5 0))) := ⟨heap_alloc_new _ _⟩
       have HX4 := Aside0.mk (Blk.alloc HX3.out (.cells (nums .u64 (List.replicate 5 0)).toArray 79))
       have HY4 := Aside0.mk (Blk.alloc HY3.out (.cells (nums .u64 (List.replicate 5 0)).toArray 79))
       have HB4 := Aside0.mk (HB3.out.alloc HB3.out.size (.cells (nums .u64 (List.replicate 5 0)).toArray 79))
       have HYL := Aside0.mk (Blk.lt HY3.out))
    | (refine store_arr rfl 79 (.tmp 3) (.tmp 11) rfl w3.heap.size .u64 a2 rfl rfl 79 5 _ HZ4.out size79 HLL.out (by rw [nums_length]; rfl) ?_; intro w5 hZ hg5
       have HZ5 := Aside0.mk hZ
       have HB5 := Aside0.mk (HB4.out.grown hg5 HB4.out.size (fun k hk => by cases hk; exact HB3.out.size))
       have HBU := Aside0.mk ((Below.refl w3.heap.size (w3.alloc (.cells (nums .u64 (List.replicate 5 0)).toArray 79))).grown hg5 (by simp) (fun k hk => by cases hk; exact Nat.le_refl _))
       have HX5 := Aside0.mk (blk_under HX4.out HBU.out (Nat.lt_trans (Nat.lt_succ_self _) HYL.out))
       have HY5 := Aside0.mk (blk_under HY4.out HBU.out HYL.out)
       have k0 := blk_u64 HZ5.out 0 (by rw [HLL.out]; decide)
       have f0 := Blk.frozen HZ5.out 0
       have q0 := getD_isL H2.out.isL 0
       clear hZ hg5))
  have ev : IntKind.u64.wrap (a2[0]?.getD 0 + 5) = a2.getD 0 0 + 5 := by
    rw [IntKind.wrap_u64, ← List.getD_eq_getElem?_getD]; omega
  rw [ev]
  generalize hW6 : World.setCell _ _ _ = w6
  have HM : Aside0 (Blk w6 w3.heap.size 79 (nums .u64 (mst a2 0))) := ⟨by rw [← hW6]; exact CiC.blk_put HZ5.out 0 _⟩
  have HX6 : Aside0 (Blk w6 w.heap.size 79 (nums .u64 a2)) := ⟨by rw [← hW6]; exact Blk.far HX5.out (p := ⟨w3.heap.size, 0, none⟩) (by have := HYL.out; show w.heap.size ≠ w3.heap.size; omega) _⟩
  have HY6 : Aside0 (Blk w6 (w.heap.size + 1) 79 (nums .u64 (List.replicate 5 0))) := ⟨by rw [← hW6]; exact Blk.far HY5.out (p := ⟨w3.heap.size, 0, none⟩) (by have := HYL.out; show w.heap.size + 1 ≠ w3.heap.size; omega) _⟩
  have HB6 : Aside0 (Below w.heap.size w w6) := ⟨by rw [← hW6]; exact HB5.out.setCell (p := ⟨w3.heap.size, 0, none⟩) (by have := HYL.out; show w.heap.size ≤ w3.heap.size; omega) _⟩
  have hG := HYL.out
  clear hW6 k0 f0 q0 ev
  generalize w3.heap.size = G at HM hG ⊢
  go_loopw [16] (fun i wr => ∃ t : Nat, t ≤ 4 ∧ i = .int .i64 t ∧ Aside0 (Blk wr G 79 (nums .u64 (mst a2 t))) ∧ Aside0 (Blk wr w.heap.size 79 (nums .u64 a2)) ∧ Aside0 (Blk wr (w.heap.size + 1) 79 (nums .u64 (List.replicate 5 0))) ∧ Below w.heap.size w wr) (fun i _ => 4 - (intOf i).toNat)
  case atStart => exact ⟨0, by omega, rfl, HM, HX6, HY6, HB6.out⟩
  case round =>
    clear HM HX6 HY6 HB6
    obtain ⟨t, ht, rfl, hM, hX, hY, hB⟩ := hrel
    by_cases hlt : t < 4
    · have hlt' : (t : Int) < 4 := by omega
      have hmo := mst_ok H2.out t ht
      have hx := hmo.2 t
      have hy := hmo.2 (t + 1)
      have kx := blk_u64 hM.out t (by rw [hmo.1]; omega)
      have ky := blk_u64 hM.out (t + 1) (by rw [hmo.1]; omega)
      have fx := Blk.frozen hM.out t
      have fy := Blk.frozen hM.out (t + 1)
      have hnx : Aside0 (mst a2 (t + 1) = ((mst a2 t).set (t + 1) ((mst a2 t).getD (t + 1) 0 + (mst a2 t).getD t 0 / 67108864)).set t ((mst a2 t).getD t 0 % 67108864)) := ⟨rfl⟩
      have HMO := Aside0.mk hmo
      clear hmo
      generalize (mst a2 t).getD t 0 = x at *
      generalize (mst a2 t).getD (t + 1) 0 = y at *
      have i1 : (0 : Int) ≤ (t : Int) + 1 := by omega
      have i2 : (t : Int) + 1 < 5 := by omega
      have i3 : (t : Int) < 5 := by omega
      have i4 : ((t : Int) + 1).toNat = t + 1 := by omega
      have e1 : shr .u64 x 26 = x / 67108864 := rfl
      have e2 : (y + x / 67108864) % 18446744073709551616 = y + x / 67108864 := by omega
      have e3 := and26 x (by omega) (by omega)
      go_wp2_with fail
      go_region
      generalize hW7 : World.drew _ = w7
      have kx7 : w7.cell? ⟨G, t, none⟩ = some (.int .u64 x) := by rw [← hW7]; exact (World.cell?_setCell_other _ _ _ _ (by intro e; injection e with _ e2; omega)).trans kx
      have hM7 : Blk w7 G 79 (nums .u64 ((mst a2 t).set (t + 1) (y + x / 67108864))) := by rw [← hW7]; exact CiC.blk_put hM.out (t + 1) _
      have fx7 := Blk.frozen hM7 t
      have HM7 := Aside0.mk hM7
      have HX7 : Aside0 (Blk w7 w.heap.size 79 (nums .u64 a2)) := ⟨by rw [← hW7]; exact Blk.far hX.out (p := ⟨G, t + 1, none⟩) (by show w.heap.size ≠ G; omega) _⟩
      have HY7 : Aside0 (Blk w7 (w.heap.size + 1) 79 (nums .u64 (List.replicate 5 0))) := ⟨by rw [← hW7]; exact Blk.far hY.out (p := ⟨G, t + 1, none⟩) (by show w.heap.size + 1 ≠ G; omega) _⟩
      have hB7 : Below w.heap.size w w7 := by rw [← hW7]; exact (hB.setCell (p := ⟨G, t + 1, none⟩) (by show w.heap.size ≤ G; omega) _).drew
      clear hW7 hM7 kx ky fx fy
      go_wp2_with fail
      have R1 : Aside0 (Blk (w7.setCell ⟨G, t, none⟩ (.int .u64 (x % 67108864))) G 79 (nums .u64 (mst a2 (t + 1)))) := ⟨by rw [hnx.out]; exact CiC.blk_put HM7.out t _⟩
      have R2 : Aside0 (Blk (w7.setCell ⟨G, t, none⟩ (.int .u64 (x % 67108864))) w.heap.size 79 (nums .u64 a2)) := ⟨Blk.far HX7.out (p := ⟨G, t, none⟩) (by show w.heap.size ≠ G; omega) _⟩
      have R3 : Aside0 (Blk (w7.setCell ⟨G, t, none⟩ (.int .u64 (x % 67108864))) (w.heap.size + 1) 79 (nums .u64 (List.replicate 5 0))) := ⟨Blk.far HY7.out (p := ⟨G, t, none⟩) (by show w.heap.size + 1 ≠ G; omega) _⟩
      go_roundw
      case rel => exact ⟨t + 1, by omega, by go_num, R1, R2, R3, hB7.setCell (p := ⟨G, t, none⟩) (by show w.heap.size ≤ G; omega) _⟩
      case measure => simp [intOf]; omega
    · have hge : ¬ (t : Int) < 4 := by omega
      obtain rfl : t = 4 := by omega
      have hmo := mst_ok H2.out 4 (Nat.le_refl _)
      have hx := hmo.2 4
      have kx := blk_u64 hM.out 4 (by rw [hmo.1]; decide)
      have fx := Blk.frozen hM.out 4
      have hov := overS_01 H2.out
      have hove : Aside0 (overS a2 = (mst a2 4).getD 4 0 / 67108864) := ⟨rfl⟩
      have hmre : Aside0 (moreS a2 = (mst a2 4).set 4 ((mst a2 4).getD 4 0 % 67108864)) := ⟨rfl⟩
      have HML : Aside0 ((moreS a2).length = 5) := ⟨by simp [moreS]; exact hmo.1⟩
      have HMR : Aside0 (∀ j, 0 ≤ (moreS a2).getD j 0 ∧ (moreS a2).getD j 0 < 4294967296) := ⟨moreS_ok H2.out⟩
      have HPK : Aside0 (pickS a2 = if overS a2 = 0 then a2 else moreS a2) := ⟨rfl⟩
      obtain ⟨ov, HOV⟩ : ∃ z, Aside0 (overS a2 = z) := ⟨_, ⟨rfl⟩⟩
      obtain ⟨mr, HMM⟩ : ∃ z, Aside0 (moreS a2 = z) := ⟨_, ⟨rfl⟩⟩
      rw [HOV.out] at hov hove HPK
      rw [HMM.out] at hmre HML HMR HPK
      generalize (mst a2 4).getD 4 0 = x at *
      have hq : x / 67108864 = ov := hove.out.symm
      have e3 := and26 x (by omega) (by omega)
      have HM4 : Aside0 (Blk (wr.setCell ⟨G, 4, none⟩ (.int .u64 (x % 67108864))) G 79 (nums .u64 mr)) := ⟨by rw [hmre.out]; exact CiC.blk_put hM.out 4 _⟩
      have HX4 : Aside0 (Blk (wr.setCell ⟨G, 4, none⟩ (.int .u64 (x % 67108864))) w.heap.size 79 (nums .u64 a2)) := ⟨Blk.far hX.out (p := ⟨G, 4, none⟩) (by show w.heap.size ≠ G; omega) _⟩
      have HY4 : Aside0 (Blk (wr.setCell ⟨G, 4, none⟩ (.int .u64 (x % 67108864))) (w.heap.size + 1) 79 (nums .u64 (List.replicate 5 0))) := ⟨Blk.far hY.out (p := ⟨G, 4, none⟩) (by show w.heap.size + 1 ≠ G; omega) _⟩
      have HB4 : Aside0 (Below w.heap.size w (wr.setCell ⟨G, 4, none⟩ (.int .u64 (x % 67108864)))) := ⟨hB.setCell (p := ⟨G, 4, none⟩) (by show w.heap.size ≤ G; omega) _⟩
      clear hmo hove
      go_wp2_with fail
      obtain ⟨wo, HWO⟩ : ∃ wo : World, Aside0 (wo = wr.setCell ⟨G, 4, none⟩ (.int .u64 (x % 67108864))) := ⟨_, ⟨rfl⟩⟩
      rw [← HWO.out] at HM4 HX4 HY4 HB4 ⊢
      -- what is picked, limb by limb
      have hsel : ∀ u v : Int, (0 ≤ u ∧ u < 4294967296) → (0 ≤ v ∧ v < 4294967296) → Go.bits .or .u64 (Go.bits .andNot .u64 u (IntKind.u64.wrap (-ov))) (Go.bits .and .u64 v (IntKind.u64.wrap (-ov))) = if ov = 0 then u else v := by
        intro u v hu hv
        rcases hov with rfl | rfl
        · rw [if_pos rfl, show IntKind.u64.wrap (-0) = 0 from by decide, andNot0 u (by omega) (by omega), and0 v (by omega) (by omega), or0 u (by omega) (by omega)]
        · rw [if_neg (by decide), show IntKind.u64.wrap (-1) = 18446744073709551615 from by decide, andNot1 u (by omega) (by omega), and1 v (by omega) (by omega), or1 v (by omega) (by omega)]
      have HSEL := Aside0.mk hsel
      have hP : Aside0 ((pickS a2).length = 5) := ⟨by rw [HPK.out]; split; exact HLL.out; exact HML.out⟩
      obtain ⟨pk, HP⟩ : ∃ z, Aside0 (pickS a2 = z) := ⟨_, ⟨rfl⟩⟩
      rw [HP.out] at hP HPK hls
      have hX0 : Aside0 (Blk wo w.heap.size 79 (nums .u64 (pk.take 0 ++ a2.drop 0))) := ⟨HX4.out⟩
      generalize IntKind.u64.wrap (-ov) = M at *
      clear hsel
      go_loopw [44] (fun i wr => ∃ t : Nat, t ≤ 5 ∧ i = .int .i64 t ∧ Aside0 (Blk wr G 79 (nums .u64 mr)) ∧ Aside0 (Blk wr w.heap.size 79 (nums .u64 (pk.take t ++ a2.drop t))) ∧ Aside0 (Blk wr (w.heap.size + 1) 79 (nums .u64 (List.replicate 5 0))) ∧ Below w.heap.size w wr) (fun i _ => 5 - (intOf i).toNat)
      case atStart => exact ⟨0, by omega, rfl, HM4, hX0, HY4, HB4.out⟩
      case round =>
        clear HM4 hX0 HX4 HY4 HB4
        obtain ⟨t, htt, rfl, hM, hX, hY, hB⟩ := hrel
        have hlen : Aside0 ((pk.take t ++ a2.drop t).length = 5) := ⟨by rw [List.length_append, List.length_take, List.length_drop, hP.out, HLL.out]; omega⟩
        by_cases hlt : t < 5
        · have hlt' : (t : Int) < 5 := by omega
          have kx := blk_u64 hX.out t (by rw [hlen.out]; exact hlt)
          have km := blk_u64 hM.out t (by rw [HML.out]; exact hlt)
          have fx := Blk.frozen hX.out t
          have gu : (pk.take t ++ a2.drop t).getD t 0 = a2.getD t 0 := by
            rw [List.getD_eq_getElem?_getD, List.getElem?_append_right (by rw [List.length_take]; omega), List.length_take, hP.out, show t - min t 5 = 0 by omega, List.getElem?_drop, ← List.getD_eq_getElem?_getD]; rfl
          rw [gu] at kx
          have hu := low_lt H2.out t
          have hv := HMR.out t
          have hs := HSEL.out _ _ hu hv
          have hset : Aside0 ((pk.take t ++ a2.drop t).set t (if ov = 0 then a2.getD t 0 else mr.getD t 0) = pk.take (t + 1) ++ a2.drop (t + 1)) := ⟨by
            have e : (if ov = 0 then a2.getD t 0 else mr.getD t 0) = pk.getD t 0 := by rw [HPK.out]; split <;> rfl
            rw [e]
            exact set_take_drop pk a2 t (by rw [hP.out]; exact hlt) (by rw [HLL.out]; exact hlt)⟩
          generalize a2.getD t 0 = u at *
          generalize mr.getD t 0 = v at *
          generalize (if ov = 0 then u else v) = z at *
          go_wp2_with fail
          go_region
          have R1 : Aside0 (Blk (wr.setCell ⟨w.heap.size, t, none⟩ (.int .u64 z)) w.heap.size 79 (nums .u64 (pk.take (t + 1) ++ a2.drop (t + 1)))) := ⟨by rw [← hset.out]; exact CiC.blk_put hX.out t z⟩
          have R2 : Aside0 (Blk (wr.setCell ⟨w.heap.size, t, none⟩ (.int .u64 z)) G 79 (nums .u64 mr)) := ⟨Blk.far hM.out (p := ⟨w.heap.size, t, none⟩) (by show G ≠ w.heap.size; omega) _⟩
          have R3 : Aside0 (Blk (wr.setCell ⟨w.heap.size, t, none⟩ (.int .u64 z)) (w.heap.size + 1) 79 (nums .u64 (List.replicate 5 0))) := ⟨Blk.far hY.out (p := ⟨w.heap.size, t, none⟩) (by simp) _⟩
          clear hs
          go_wp2_with fail
          go_roundw
          case rel => exact ⟨t + 1, by omega, by go_num, ⟨R2.out⟩, ⟨R1.out⟩, ⟨R3.out⟩, (hB.setCell (p := ⟨w.heap.size, t, none⟩) (Nat.le_refl _) _).drew⟩
          case measure => simp [intOf]; omega
        · have hge : ¬ (t : Int) < 5 := by omega
          obtain rfl : t = 5 := by omega
          have hXX : Aside0 (Blk wr w.heap.size 79 (nums .u64 pk)) := ⟨by
            have h1 := hX.out
            rw [List.take_of_length_le (by rw [hP.out]; omega), List.drop_of_length_le (by rw [HLL.out]; omega), List.append_nil] at h1
            exact h1⟩
          clear hX
          go_wp2_with (first
            | (refine load_arr rfl 79 (.tmp 1) rfl w.heap.size rfl 79 .u64 pk 5 36 hXX.out Try.underlying79 size79 hP.out ?_)
            | (refine store_arr rfl 79 (.tmp 2) (.tmp 61) rfl (w.heap.size + 1) .u64 pk rfl rfl 79 5 _ hY.out size79 hP.out (by rw [nums_length]; rfl) ?_; intro w9 hZ hg9; have HZ := Aside0.mk hZ; have HG9 := Aside0.mk hg9; clear hZ hg9))
          refine bodyPost_ret (v := .agg (nums .u64 pk).toArray) ?_ rfl ⟨by rw [hls.out], hB.grown HG9.out hB.size (fun k hk => by cases hk; omega)⟩
          exact results_arr (p := 2) (ty := 79) rfl _ w9 (w.heap.size + 1) 79 5 36 .u64 pk rfl HZ.out Try.underlying79 size79 hP.out
end Go.Proofs.Ytkjmjgiklelpiaa.OtM
