/- cipher's block, walked. -/
import Derived.Test.YtkjmjgiklelpiaaApp
import Derived.Test.YtkjmjgiklelpiaaQuart
import Derived.Test.YtkjmjgiklelpiaaPlainCipherBlocks
import Derived.Deep.RegionHeld3
import Derived.Deep.Cut
import Derived.Deep.CutRange
import Derived.Test.YtkjmjgiklelpiaaCiQ
import Derived.Test.YtkjmjgiklelpiaaCiD
import Derived.Laws.ResultCell
import Derived.ScopeJumps
import Derived.WalkMore
import Derived.Outline
namespace Go.Proofs.Ytkjmjgiklelpiaa.CiK
open Go.RowKit Go.Proofs.YtkjmjgiklelpiaaW.PrintWords Go.Proofs.Ytkjmjgiklelpiaa.Num Go.Proofs.Ytkjmjgiklelpiaa.WordC Go.Proofs.Ytkjmjgiklelpiaa.Arr Go.Proofs.Ytkjmjgiklelpiaa.App Go.Proofs.Ytkjmjgiklelpiaa.CiC Go.Proofs.Ytkjmjgiklelpiaa.CiQ Go.Proofs.Ytkjmjgiklelpiaa.CiD
set_option linter.unusedVariables false
set_option linter.unusedSimpArgs false

set_option maxHeartbeats 8000000 in
set_option maxRecDepth 100000 in
theorem block_c {l : List Int} {w : World} (hl : l.length = 16) (h : IsW l) :
    Calls Try.prog 42 #[.agg (nums .u32 l).toArray] w fun e w' => e = .returned (.agg (nums .u8 (blkS l)).toArray) ∧ Below w.heap.size w w' := by
  have HL := Aside0.mk hl
  have HW := Aside0.mk h
  clear hl h
  go_enter Try.func42, Try.ntmps42
  go_wp2_with fail
  refine wp_scope_once 0 (fun a' w' => ∃ (m : Nat) (u5 u6 u7 u8 u9 u10 u11 u12 u13 u14 u15 u16 u17 u18 u19 u20 u21 u22 u23 u24 u25 u26 u27 u28 u29 u30 u31 u32 u33 u34 u35 u36 u37 u38 u39 u40 u41 u42 u43 u44 u45 u46 u47 u48 u49 u50 u51 u52 u53 u54 u55 u56 u57 u58 u59 u60 u61 : Value), 1 ≤ m ∧ m ≤ 10 ∧ a' = { tmps := #[.agg (nums .u32 l).toArray, .pointer (some ⟨w.heap.size, 0, none⟩), .pointer (some ⟨w.heap.size + 1, 0, none⟩), .pointer (some ⟨w.heap.size + 2, 0, none⟩), .int .i64 (m : Int), u5, u6, u7, u8, u9, u10, u11, u12, u13, u14, u15, u16, u17, u18, u19, u20, u21, u22, u23, u24, u25, u26, u27, u28, u29, u30, u31, u32, u33, u34, u35, u36, u37, u38, u39, u40, u41, u42, u43, u44, u45, u46, u47, u48, u49, u50, u51, u52, u53, u54, u55, u56, u57, u58, u59, u60, u61], defers := [] } ∧ Aside0 (Blk w' w.heap.size 65 (nums .u32 l)) ∧ Aside0 (Blk w' (w.heap.size + 1) 25 (nums .u8 (List.replicate 64 0))) ∧ Aside0 (Blk w' (w.heap.size + 2) 65 (nums .u32 (rnds (10 - m) l))) ∧ Below w.heap.size w w') (fun a' _ => (intOf (a'.tmps.getD 4 undef)).toNat) rfl ?pass ?first
  case first =>
    intro key
    have KEY := Aside0.mk key
    clear key
    generalize hW : (w.alloc _).alloc _ = W1
    have hX : Blk W1 w.heap.size 65 (nums .u32 l) := by rw [← hW]; exact heap_alloc2_old _ _ _
    have hY : Blk W1 (w.heap.size + 1) 25 (nums .u8 (List.replicate 64 0)) := by rw [← hW]; exact heap_alloc2_new _ _ _
    have hB : Below w.heap.size w W1 := by rw [← hW]; exact ((Below.refl _ w).alloc (Nat.le_refl _) _).alloc (by simp) _
    have hsz : W1.heap.size = w.heap.size + 2 := by rw [← hW]; simp
    clear hW
    have hZ : Blk (W1.alloc (.cells (nums .u32 (List.replicate 16 0)).toArray 65)) W1.heap.size 65 (nums .u32 (List.replicate 16 0)) := heap_alloc_new _ _
    have hXZ := Blk.alloc hX (.cells (nums .u32 (List.replicate 16 0)).toArray 65)
    have hYZ := Blk.alloc hY (.cells (nums .u32 (List.replicate 16 0)).toArray 65)
    have hBZ := hB.alloc hB.size (.cells (nums .u32 (List.replicate 16 0)).toArray 65)
    rw [hsz] at hZ
    have HX := Aside0.mk hX
    have HXZ := Aside0.mk hXZ
    have HYZ := Aside0.mk hYZ
    have HZ := Aside0.mk hZ
    have HBZ := Aside0.mk hBZ
    clear hX hY hB hXZ hYZ hZ hBZ
    go_wp2_with (first
      | (refine load_arr rfl 65 (.tmp 1) rfl w.heap.size rfl 65 .u32 l 16 23 HX.out Try.underlying65 size65 HL.out ?_)
      | (refine store_arr rfl 65 (.tmp 3) (.tmp 10) rfl (w.heap.size + 2) .u32 l rfl rfl 65 16 (nums .u32 (List.replicate 16 0)) HZ.out size65 HL.out (by rw [nums_length]; rfl) ?_; intro w9 hV hg9; have HV := Aside0.mk hV; have HG9 := Aside0.mk hg9; clear hV hg9))
    go_step3
    rename_i K hK
    have HBU := Aside0.mk ((Below.refl (w.heap.size + 2) (W1.alloc (.cells (nums .u32 (List.replicate 16 0)).toArray 65))).grown HG9.out (by simp [hsz]) (fun k hk => by cases hk; exact Nat.le_refl _))
    refine hK _ _ (KEY.out _ _ ⟨10, _, _, _, _, _, _, _, _, _, _, _, _, _, _, _, _, _, _, _, _, _, _, _, _, _, _, _, _, _, _, _, _, _, _, _, _, _, _, _, _, _, _, _, _, _, _, _, _, _, _, _, _, _, _, _, _, _, by omega, by omega, rfl, ⟨?_⟩, ⟨?_⟩, ⟨?_⟩, ?_⟩)
    · exact blk_under HXZ.out HBU.out (by omega)
    · exact blk_under HYZ.out HBU.out (by omega)
    · exact HV.out
    · exact HBZ.out.grown HG9.out HBZ.out.size (fun k hk => by cases hk; omega)
  case pass =>
    rintro a' wj ⟨m, u5, u6, u7, u8, u9, u10, u11, u12, u13, u14, u15, u16, u17, u18, u19, u20, u21, u22, u23, u24, u25, u26, u27, u28, u29, u30, u31, u32, u33, u34, u35, u36, u37, u38, u39, u40, u41, u42, u43, u44, u45, u46, u47, u48, u49, u50, u51, u52, u53, u54, u55, u56, u57, u58, u59, u60, u61, hm1, hm2, rfl, hX, hY, hV, hB⟩
    obtain ⟨r, HR⟩ : ∃ r, Aside0 (rnds (10 - m) l = r) := ⟨_, ⟨rfl⟩⟩
    have hrl : r.length = 16 := by rw [← HR.out, rnds_length]; exact HL.out
    have hrw : IsW r := by rw [← HR.out]; exact rnds_isW HW.out _
    rw [HR.out] at hV
    have HRL := Aside0.mk hrl
    have HRW := Aside0.mk hrw
    clear hrl hrw
    go_wp2_with fail
    go_loopw [11] (fun i wr => ∃ t : Nat, t ≤ 4 ∧ i = .int .i64 t ∧ Aside0 (Blk wr w.heap.size 65 (nums .u32 l)) ∧ Aside0 (Blk wr (w.heap.size + 1) 25 (nums .u8 (List.replicate 64 0))) ∧ Aside0 (Blk wr (w.heap.size + 2) 65 (nums .u32 (q4 r t))) ∧ Below w.heap.size w wr) (fun i _ => 4 - (intOf i).toNat)
    case atStart => exact ⟨0, by omega, rfl, hX, hY, hV, hB⟩
    case round =>
      clear hX hY hV hB
      obtain ⟨t, ht, rfl, hX, hY, hV, hB⟩ := hrel
      by_cases hlt : t < 4
      · have hlt' : (t : Int) < 4 := by omega
        go_wp2_with fail
        refine (quarter_c hV.out (by rw [q4_length]; exact HRL.out) (q4_isW HRW.out t) t (4 + t) (8 + t) (12 + t) (by omega) (by omega) (by omega) (by omega) (by omega) (by omega) (by omega) (by omega)).mono ?_
        rintro x w2 ⟨rfl, hV2, hb2⟩
        have HV2 : Aside0 (Blk w2 (w.heap.size + 2) 65 (nums .u32 (q4 r (t + 1)))) := ⟨hV2⟩
        have HX2 := Aside0.mk (blk_under hX.out hb2 (by omega))
        have HY2 := Aside0.mk (blk_under hY.out hb2 (by omega))
        have hB2 : Below w.heap.size w w2 := hB.trans (hb2.mono (by omega))
        clear hV2
        go_wp2_with fail
        go_roundw
        case rel => exact ⟨t + 1, by omega, by go_num, HX2, HY2, HV2, hB2⟩
        case measure => simp [intOf]; omega
      · have hge : ¬ (t : Int) < 4 := by omega
        obtain rfl : t = 4 := by omega
        have hlq : Aside0 ((q4 r 4).length = 16) := ⟨by rw [q4_length]; exact HRL.out⟩
        have hwq : Aside0 (IsW (q4 r 4)) := ⟨q4_isW HRW.out 4⟩
        have hrn : Aside0 (rnd r = d4 (q4 r 4) 4) := ⟨rfl⟩
        obtain ⟨s, HS⟩ : ∃ s, Aside0 (q4 r 4 = s) := ⟨_, ⟨rfl⟩⟩
        rw [HS.out] at hlq hwq hrn hV
        go_wp2_with fail
        go_loopw [23] (fun i wr => ∃ t : Nat, t ≤ 4 ∧ i = .int .i64 t ∧ Aside0 (Blk wr w.heap.size 65 (nums .u32 l)) ∧ Aside0 (Blk wr (w.heap.size + 1) 25 (nums .u8 (List.replicate 64 0))) ∧ Aside0 (Blk wr (w.heap.size + 2) 65 (nums .u32 (d4 s t))) ∧ Below w.heap.size w wr) (fun i _ => 4 - (intOf i).toNat)
        case atStart => exact ⟨0, by omega, rfl, hX, hY, hV, hB⟩
        case round =>
          clear hX hY hV hB
          obtain ⟨t, ht, rfl, hX, hY, hV, hB⟩ := hrel
          by_cases hlt : t < 4
          · have hlt' : (t : Int) < 4 := by omega
            go_wp2_with fail
            refine (quarter_c hV.out (by rw [d4_length]; exact hlq.out) (d4_isW hwq.out t) t (4 + (t + 1) % 4) (8 + (t + 2) % 4) (12 + (t + 3) % 4) (by omega) (by omega) (by omega) (by omega) (by omega) (by omega) (by omega) (by omega)).mono ?_
            rintro x w2 ⟨rfl, hV2, hb2⟩
            have HV2 : Aside0 (Blk w2 (w.heap.size + 2) 65 (nums .u32 (d4 s (t + 1)))) := ⟨hV2⟩
            have HX2 := Aside0.mk (blk_under hX.out hb2 (by omega))
            have HY2 := Aside0.mk (blk_under hY.out hb2 (by omega))
            have hB2 : Below w.heap.size w w2 := hB.trans (hb2.mono (by omega))
            clear hV2
            go_wp2_with fail
            go_roundw
            case rel => exact ⟨t + 1, by omega, by go_num, HX2, HY2, HV2, hB2⟩
            case measure => simp [intOf]; omega
          · have hge : ¬ (t : Int) < 4 := by omega
            obtain rfl : t = 4 := by omega
            rw [← hrn.out] at hV
            by_cases h1 : 1 < m
            · have hc : (0 : Int) < (m : Int) - 1 := by omega
              have hVn : Blk wr (w.heap.size + 2) 65 (nums .u32 (rnds (10 - (m - 1)) l)) := by
                have h1 := hV.out
                rw [← HR.out] at h1
                rw [show 10 - (m - 1) = (10 - m) + 1 by omega]; exact h1
              have HVN := Aside0.mk hVn
              clear hVn
              have em : (m : Int) - 1 = ((m - 1 : Nat) : Int) := by omega
              go_wp2_with fail
              go_step3
              refine ⟨rfl, ⟨m - 1, _, _, _, _, _, _, _, _, _, _, _, _, _, _, _, _, _, _, _, _, _, _, _, _, _, _, _, _, _, _, _, _, _, _, _, _, _, _, _, _, _, _, _, _, _, _, _, _, _, _, _, _, _, _, _, _, _, by omega, by omega, rfl, hX, hY, HVN, hB⟩, ?_⟩
              simp [intOf]; omega
            · obtain rfl : m = 1 := by omega
              have hRR : rnds 10 l = rnd r := by rw [← HR.out]; rfl
              have hR16 : (rnd r).length = 16 := by rw [rnd_length]; exact HRL.out
              have hRW := rnd_isW HRW.out
              obtain ⟨R, HRE⟩ : ∃ R, Aside0 (rnd r = R) := ⟨_, ⟨rfl⟩⟩
              rw [HRE.out] at hV hRR hR16 hRW
              have HRR := Aside0.mk hRR
              have HR16 := Aside0.mk hR16
              have HRWW := Aside0.mk hRW
              clear hRR hR16 hRW
              have hVA : Aside0 (Blk (wr.alloc (.cells (nums .u8 (List.replicate 64 0)).toArray 25)) (w.heap.size + 2) 65 (nums .u32 R)) := ⟨Blk.alloc hV.out _⟩
              have hXA : Aside0 (Blk (wr.alloc (.cells (nums .u8 (List.replicate 64 0)).toArray 25)) w.heap.size 65 (nums .u32 l)) := ⟨Blk.alloc hX.out _⟩
              have hYA : Aside0 (Blk (wr.alloc (.cells (nums .u8 (List.replicate 64 0)).toArray 25)) (w.heap.size + 1) 25 (nums .u8 (List.replicate 64 0))) := ⟨Blk.alloc hY.out _⟩
              have hGA : Aside0 (Blk (wr.alloc (.cells (nums .u8 (List.replicate 64 0)).toArray 25)) wr.heap.size 25 (nums .u8 (outT R l 0))) := ⟨heap_alloc_new _ _⟩
              have hBA : Below w.heap.size w (wr.alloc (.cells (nums .u8 (List.replicate 64 0)).toArray 25)) := hB.alloc hB.size _
              have hYlt : w.heap.size + 2 < wr.heap.size := Blk.lt hV.out
              go_wp2_with (first
                | (refine load_arr rfl 65 (.tmp 3) rfl (w.heap.size + 2) rfl 65 .u32 R 16 23 hVA.out Try.underlying65 size65 HR16.out ?_))
              generalize hWA : wr.alloc _ = WA
              rw [show wr.alloc (.cells (nums .u8 (List.replicate 64 0)).toArray 25) = WA from hWA] at hVA hXA hYA hGA hBA
              clear hWA hV hX hY hB
              generalize wr.heap.size = G at *
              go_loopw [46] (fun i wr => ∃ T : Nat, T ≤ 16 ∧ i = .int .i64 T ∧ Aside0 (Blk wr w.heap.size 65 (nums .u32 l)) ∧ Aside0 (Blk wr (w.heap.size + 1) 25 (nums .u8 (List.replicate 64 0))) ∧ Aside0 (Blk wr G 25 (nums .u8 (outT R l T))) ∧ Below w.heap.size w wr) (fun i _ => 16 - (intOf i).toNat)
              case atStart => exact ⟨0, by omega, rfl, hXA, hYA, hGA, hBA⟩
              case round =>
                clear hXA hYA hGA hBA
                obtain ⟨T, hT, rfl, hX, hY, hG, hB⟩ := hrel
                by_cases hlt : T < 16
                · have hlt' : (T : Int) < 16 := by omega
                  have hx1 := getD_isW HRWW.out T
                  have hx2 := getD_isW HW.out T
                  have hnext := outT_next R l T hlt
                  have c2 : wr.cell? ⟨w.heap.size, T, none⟩ = some (.int .u32 (l.getD T 0)) := blk_num hX.out T (by rw [HL.out]; exact hlt)
                  have hixx : ∀ W : World, (Instr.index 65 (.agg (nums .u32 R).toArray) (.int .i64 (T : Int))).run Try.prog W = .ok (.int .u32 (R.getD T 0)) W := fun W => index_nums R HR16.out T hlt W
                  obtain ⟨x1, HX1⟩ : ∃ x1, Aside0 (R.getD T 0 = x1) := ⟨_, ⟨rfl⟩⟩
                  obtain ⟨x2, HX2⟩ : ∃ x2, Aside0 (l.getD T 0 = x2) := ⟨_, ⟨rfl⟩⟩
                  rw [HX1.out] at hx1 hnext
                  rw [HX2.out] at hx2 hnext c2
                  have hix : ∀ W : World, (Instr.index 65 (.agg (nums .u32 R).toArray) (.int .i64 (T : Int))).run Try.prog W = .ok (.int .u32 x1) W := fun W => by rw [← HX1.out]; exact hixx W
                  clear hixx
                  have hsl := slice_arr G T hlt
                  have hw4 : IntKind.i64.wrap (4 * (T : Int)) = 4 * (T : Int) := IntWalk.i64_in _ (by omega)
                  rw [← IntKind.wrap_u32'] at hnext
                  have HNEXT := Aside0.mk hnext
                  have hlen : Aside0 ((nums .u8 (outT R l T)).length = 64) := ⟨by rw [nums_length]; exact outT_length _ _ _ (by omega)⟩
                  have hsum : 0 ≤ IntKind.u32.wrap (x1 + x2) ∧ IntKind.u32.wrap (x1 + x2) < 4294967296 := by rw [IntKind.wrap_u32']; omega
                  clear hnext
                  go_wp2_with fail
                  go_region_held3 (fun w' => w'.cell? ⟨w.heap.size, T, none⟩ = some (.int .u32 x2))
                    (first | exact c2 | exact (hb3.cell (p := ⟨w.heap.size, T, none⟩) (Blk.lt hX.out)).trans c2 | exact (Blk.cell (blk_under (blk_under (w := wr.drew) hX.out hb3 (Blk.lt hX.out)) (HBG.out) (by omega)) T).trans ((Blk.cell hX.out T).symm.trans c2) | go_keep)
                    (first
                     | (go_at_call 57; (with_reducible refine (Store_c hsum.1 hsum.2 true).mono ?_); rintro x w3 ⟨v3, rfl, ho3, hb3⟩; obtain ⟨A3, c3, rfl, hx3⟩ := rd_of_own ho3)
                     | (have hx4 := hx3; have e1 : (storeW (IntKind.u32.wrap (x1 + x2)) true).length ≤ 64 - 4 * T := (by rw [storeW_length]; omega); have e2 : 4 * T + (storeW (IntKind.u32.wrap (x1 + x2)) true).length ≤ (nums .u8 (outT R l T)).length := (by rw [hlen.out, storeW_length]; omega); have e3 : Blk w3 G 25 (nums .u8 (outT R l T)) := Blk.below (w := wr.drew) hG.out hb3; refine step_copy_blk rfl (.tmp 52) (.tmp 58) 22 22 rfl 5 Try.underlying22 sizeU8 G (4 * T) (64 - 4 * T) (64 - 4 * T) A3 (storeW (IntKind.u32.wrap (x1 + x2)) true).length c3 rfl rfl (nums .u8 (outT R l T)) 25 e3 (storeW (IntKind.u32.wrap (x1 + x2)) true) hx4 e1 e2 ?_; clear e1 e2 e3 hx4; intro w4 hG4 hg4; have HBG := Aside0.mk ((Below.refl G w3).grown hg4 (Nat.le_of_lt (Nat.lt_of_lt_of_le (Blk.lt (w := wr.drew) hG.out) hb3.size)) (fun k hk => by cases hk; exact Nat.le_refl _))))
                  have hB3 : Below w.heap.size w w3 := hB.drew.trans (hb3.mono hB.drew.size)
                  have hB4 : Below w.heap.size w w4 := hB3.grown hg4 hB3.size (fun k hk => by cases hk; omega)
                  rw [storeW_length, HNEXT.out] at hG4
                  have HG4 := Aside0.mk hG4
                  have HX4 := Aside0.mk (blk_under (blk_under (w := wr.drew) hX.out hb3 (Blk.lt hX.out)) HBG.out (by omega))
                  have HY4 := Aside0.mk (blk_under (blk_under (w := wr.drew) hY.out hb3 (Blk.lt hY.out)) HBG.out (by omega))
                  clear hG4 hx3 ho3 c2
                  go_wp2_with fail
                  go_roundw
                  case rel => exact ⟨T + 1, by omega, by go_num, HX4, HY4, HG4, hB4⟩
                  case measure => simp [intOf]; omega
                · have hge : ¬ (T : Int) < 16 := by omega
                  obtain rfl : T = 16 := by omega
                  have hGT : Blk wr G 25 (nums .u8 (blkS l)) := by
                    have h1 := hG.out
                    have h2 : outT R l 16 = blkS l := by unfold outT blkS; rw [HRR.out]; simp
                    rwa [h2] at h1
                  have hbl := blkS_length l
                  obtain ⟨S, HS2⟩ : ∃ S, Aside0 (blkS l = S) := ⟨_, ⟨rfl⟩⟩
                  rw [HS2.out] at hGT hbl
                  have HGT := Aside0.mk hGT
                  have HBL := Aside0.mk hbl
                  clear hGT hbl
                  go_wp2_with (first
                    | (refine load_arr rfl 25 (.tmp 7) rfl G rfl 25 .u8 S 64 5 HGT.out Try.underlying25 size25 HBL.out ?_)
                    | (refine store_arr rfl 25 (.tmp 2) (.tmp 61) rfl (w.heap.size + 1) .u8 S rfl rfl 25 64 _ hY.out size25 HBL.out (by rw [nums_length]; rfl) ?_; intro w12 hO12 hg12; have HO12 := Aside0.mk hO12; have HG12 := Aside0.mk hg12; clear hO12 hg12))
                  simp only [Exit.jump]
                  refine bodyPost_ret (v := .agg (nums .u8 S).toArray) ?_ rfl ⟨by rw [HS2.out], hB.grown HG12.out hB.size (fun k hk => by cases hk; omega)⟩
                  exact results_arr (p := 2) (ty := 25) rfl _ w12 (w.heap.size + 1) 25 64 5 .u8 S rfl HO12.out Try.underlying25 size25 HBL.out
end Go.Proofs.Ytkjmjgiklelpiaa.CiK
