/- digest.words, walked: the sixteen words of a block and the forty-eight that are made of them. -/
import Derived.Test.YtmmbonlidcbkcaaDoorDgC
import Derived.Deep.RegionHeld3
import Derived.Outline
namespace Go.Proofs.YtmmbonlidcbkcaaDoor.DgWords
open Go.RowKit Go.Proofs.YtmmbonlidcbkcaaDoorW.PrintWords Go.Proofs.YtmmbonlidcbkcaaDoor.Num Go.Proofs.YtmmbonlidcbkcaaDoor.Sha Go.Proofs.YtmmbonlidcbkcaaDoor.WordC Go.Proofs.YtmmbonlidcbkcaaDoor.Arr Go.Proofs.YtmmbonlidcbkcaaDoor.App Go.Proofs.YtmmbonlidcbkcaaDoor.DgC
set_option linter.unusedVariables false
set_option linter.unusedSimpArgs false

/-- So many words, and noughts behind them: the array as it stands. -/
def fillW (l : List Int) : List Int := l ++ List.replicate (64 - l.length) 0
theorem fillW_length (l : List Int) (h : l.length ≤ 64) : (fillW l).length = 64 := by simp [fillW]; omega
theorem fillW_getD (l : List Int) (i : Nat) (h : i < l.length) : (fillW l).getD i 0 = l.getD i 0 := by
  simp only [fillW, List.getD_eq_getElem?_getD]
  rw [List.getElem?_append_left h]
theorem fillW_set (l : List Int) (x : Int) (h : l.length < 64) : (fillW l).set l.length x = fillW (l ++ [x]) := by
  unfold fillW
  rw [List.set_append_right _ _ (by omega), Nat.sub_self]
  obtain ⟨d, hd⟩ : ∃ d, 64 - l.length = d + 1 := ⟨63 - l.length, by omega⟩
  rw [hd, List.replicate_succ, List.set_cons_zero, List.length_append, List.length_singleton, show 64 - (l.length + 1) = d by omega]
  simp
theorem fillW_full (l : List Int) (h : l.length = 64) : fillW l = l := by simp [fillW, h]
theorem blk_num {w : World} {g t : Nat} {k : IntKind} {l : List Int} (h : Blk w g t (nums k l)) (i : Nat) (hi : i < l.length) : w.cell? ⟨g, i, none⟩ = some (.int k (l.getD i 0)) := by
  rw [Blk.cell h, nums_get k l i hi]
theorem blk_put {w : World} {g t : Nat} {k : IntKind} {l : List Int} (h : Blk w g t (nums k l)) (i : Nat) (x : Int) : Blk (w.setCell ⟨g, i, none⟩ (.int k x)) g t (nums k (l.set i x)) := by
  have := Blk.set_ h i (.int k x)
  rwa [nums_set] at this

theorem size110 : (Tryd.prog.info? 110).map (·.size) = some 64 := by kernel_rfl
set_option maxHeartbeats 8000000 in
set_option maxRecDepth 100000 in
theorem words_c {A : Option Addr} {c : Nat} {l : List Int} {w : World} (hr : Rd w A 64 c l) (hb : IsB l) :
    Calls Tryd.prog 84 #[.slice A 64 c] w fun e w' => e = .returned (.agg (nums .u32 (schedS l)).toArray) ∧ Below w.heap.size w w' := by
  go_enter Tryd.func84, Tryd.ntmps84
  go_wp2_with fail
  generalize hW : (w.alloc _).alloc _ = W0
  have hX : Aside0 (Blk W0 (w.heap.size + 1) 110 (nums .u32 (fillW []))) := ⟨by rw [← hW]; exact heap_alloc2_new _ _ _⟩
  have hY : Aside0 (Blk W0 w.heap.size 110 (nums .u32 (fillW []))) := ⟨by rw [← hW]; exact heap_alloc2_old _ _ _⟩
  have hB0 : Below w.heap.size w W0 := by rw [← hW]; exact ((Below.refl _ w).alloc (Nat.le_refl _) _).alloc (by simp) _
  clear hW
  go_loopw [6] (fun i wr => ∃ t : Nat, t ≤ 16 ∧ i = .int .i64 t ∧ Aside0 (Blk wr (w.heap.size + 1) 110 (nums .u32 (fillW (upW l t)))) ∧ Aside0 (Blk wr w.heap.size 110 (nums .u32 (fillW []))) ∧ Below w.heap.size w wr) (fun i _ => 16 - (intOf i).toNat)
  case atStart => exact ⟨0, by omega, rfl, hX, hY, hB0⟩
  case round =>
    obtain ⟨t, ht, rfl, hX', hY', hB'⟩ := hrel
    by_cases hlt : t < 16
    · have hlt' : (t : Int) < 16 := by omega
      obtain ⟨A', c', hcut, hrd⟩ := rd_slice (hr.below hB') (4 * t) (4 * t + 4) (x := 4 * (t : Int)) (y := 4 * (t : Int) + 4) (by omega) (by omega) (by omega) (by omega)
      rw [show 4 * t + 4 - 4 * t = 4 by omega] at hcut hrd
      have hI : IsB ((l.take (4 * t + 4)).drop (4 * t)) := fun x hx => hb x (List.mem_of_mem_take (List.mem_of_mem_drop hx))
      go_wp2_with fail
      refine (Load_c hrd hI false).mono ?_
      rintro x w2 ⟨rfl, ⟨n2, rfl⟩⟩
      have f0 := blk_num hX'.out t (by rw [fillW_length _ (by rw [upW_length]; omega)]; omega)
      have f1 := Blk.frozen hX'.out t
      go_wp2_with fail
      have ew : (loadW ((l.take (4 * t + 4)).drop (4 * t)) false).1 = wordAt l t := by
        rw [List.drop_take, show 4 * t + 4 - 4 * t = 4 by omega]
        unfold loadW wordAt
        rw [if_pos (by have := hr.len; simp; omega)]; rfl
      have R1 : Aside0 (Blk (wr.setCell ⟨w.heap.size + 1, t, none⟩ (.int .u32 (loadW ((l.take (4 * t + 4)).drop (4 * t)) false).1)) (w.heap.size + 1) 110 (nums .u32 (fillW (upW l (t + 1))))) := ⟨by
        have := blk_put hX'.out t (loadW ((l.take (4 * t + 4)).drop (4 * t)) false).1
        have e := fillW_set (upW l t) (wordAt l t) (by rw [upW_length]; omega)
        rw [upW_length] at e
        rw [ew, e, ← upW_succ] at this
        rw [ew]; exact this⟩
      have R2 : Aside0 (Blk (wr.setCell ⟨w.heap.size + 1, t, none⟩ (.int .u32 (loadW ((l.take (4 * t + 4)).drop (4 * t)) false).1)) w.heap.size 110 (nums .u32 (fillW []))) := ⟨Blk.far hY'.out (p := ⟨w.heap.size + 1, t, none⟩) (by simp) _⟩
      clear ew
      go_roundw
      case rel => exact ⟨t + 1, by omega, by go_num, ⟨R1.out⟩, ⟨R2.out⟩, pw_below_drewN (hB'.setCell (p := ⟨w.heap.size + 1, t, none⟩) (by simp) _) _⟩
      case measure => simp [intOf]; omega
    · have hge : ¬ (t : Int) < 16 := by omega
      obtain rfl : t = 16 := by omega
      go_wp2_with fail
      obtain ⟨wo, hwo⟩ : ∃ wo : World, wo = wr := ⟨_, rfl⟩
      rw [← hwo] at hX' hY' hB' ⊢
      clear hwo
      go_loopw [5] (fun i wr => ∃ T : Nat, 16 ≤ T ∧ T ≤ 64 ∧ i = .int .i64 T ∧ Aside0 (Blk wr (w.heap.size + 1) 110 (nums .u32 (fillW (extW (T - 16) (upW l 16))))) ∧ Aside0 (Blk wr w.heap.size 110 (nums .u32 (fillW []))) ∧ Below w.heap.size w wr) (fun i _ => 64 - (intOf i).toNat)
      case atStart => exact ⟨16, by omega, by omega, rfl, hX', hY', hB'⟩
      case round =>
        obtain ⟨T, hT1, hT2, rfl, hX2, hY2, hB2⟩ := hrel
        by_cases hlt : T < 64
        · have hl : (extW (T - 16) (upW l 16)).length = T := by rw [extW_length, upW_length]; omega
          have hWW := extW_isW (upW_isW hb 16) (T - 16)
          have fl := fillW_length (extW (T - 16) (upW l 16)) (by omega)
          have gd : ∀ j, j < T → wr.cell? ⟨w.heap.size + 1, j, none⟩ = some (.int .u32 ((extW (T - 16) (upW l 16)).getD j 0)) := fun j hj => by
            rw [blk_num hX2.out j (by omega), fillW_getD _ _ (by omega)]
          have q2 := getD_isW hWW (T - 2)
          have q15 := getD_isW hWW (T - 15)
          have c2 := gd (T - 2) (by omega)
          have c7 := gd (T - 7) (by omega)
          have c15 := gd (T - 15) (by omega)
          have c16 := gd (T - 16) (by omega)
          have cT : wr.cell? ⟨w.heap.size + 1, T, none⟩ = some (.int .u32 ((fillW (extW (T - 16) (upW l 16))).getD T 0)) := blk_num hX2.out T (by omega)
          have fT := Blk.frozen hX2.out T
          have nx : nextW (extW (T - 16) (upW l 16)) = ((((lateS ((extW (T - 16) (upW l 16)).getD (T - 2) 0) + (extW (T - 16) (upW l 16)).getD (T - 7) 0) % 4294967296 + earlyS ((extW (T - 16) (upW l 16)).getD (T - 15) 0)) % 4294967296) + (extW (T - 16) (upW l 16)).getD (T - 16) 0) % 4294967296 := by unfold nextW; rw [hl]
          have NX := Aside0.mk nx
          have HL := Aside0.mk hl
          clear gd nx hl fl
          generalize (extW (T - 16) (upW l 16)).getD (T - 2) 0 = x2 at *
          generalize (extW (T - 16) (upW l 16)).getD (T - 7) 0 = x7 at *
          generalize (extW (T - 16) (upW l 16)).getD (T - 15) 0 = x15 at *
          generalize (extW (T - 16) (upW l 16)).getD (T - 16) 0 = x16 at *
          generalize (fillW (extW (T - 16) (upW l 16))).getD T 0 = xT at *
          have b1 : (16 : Int) ≤ T := by omega
          have b2 : (T : Int) < 64 := by omega
          have z2 : IntKind.i64.wrap ((T : Int) - 2) = (T : Int) - 2 := IntWalk.i64_in _ (by omega)
          have z7 : IntKind.i64.wrap ((T : Int) - 7) = (T : Int) - 7 := IntWalk.i64_in _ (by omega)
          have z15 : IntKind.i64.wrap ((T : Int) - 15) = (T : Int) - 15 := IntWalk.i64_in _ (by omega)
          have z16 : IntKind.i64.wrap ((T : Int) - 16) = (T : Int) - 16 := IntWalk.i64_in _ (by omega)
          have t2 : ((T : Int) - 2).toNat = T - 2 := by omega
          have t7 : ((T : Int) - 7).toNat = T - 7 := by omega
          have t15 : ((T : Int) - 15).toNat = T - 15 := by omega
          have t16 : ((T : Int) - 16).toNat = T - 16 := by omega
          have p2 : (2 : Int) ≤ (T : Int) := by omega
          have o2 : (0 : Int) ≤ (T : Int) - 2 := by omega
          have u2 : (T : Int) - 2 < 64 := by omega
          have p7 : (7 : Int) ≤ (T : Int) := by omega
          have o7 : (0 : Int) ≤ (T : Int) - 7 := by omega
          have u7 : (T : Int) - 7 < 64 := by omega
          have p15 : (15 : Int) ≤ (T : Int) := by omega
          have o15 : (0 : Int) ≤ (T : Int) - 15 := by omega
          have u15 : (T : Int) - 15 < 64 := by omega
          have p16 : (16 : Int) ≤ (T : Int) := by omega
          have o16 : (0 : Int) ≤ (T : Int) - 16 := by omega
          have u16 : (T : Int) - 16 < 64 := by omega
          go_wp2_with fail
          go_region_held3 (fun w' => w'.cell? ⟨w.heap.size + 1, T - 2, none⟩ = some (.int .u32 x2) ∧ w'.cell? ⟨w.heap.size + 1, T - 7, none⟩ = some (.int .u32 x7) ∧ w'.cell? ⟨w.heap.size + 1, T - 15, none⟩ = some (.int .u32 x15) ∧ w'.cell? ⟨w.heap.size + 1, T - 16, none⟩ = some (.int .u32 x16))
            (first | exact ⟨c2, c7, c15, c16⟩ | go_keep | exact ⟨(World.cell?_setCell_other _ _ _ _ (by intro e; injection e with _ e2; omega)).trans c2, (World.cell?_setCell_other _ _ _ _ (by intro e; injection e with _ e2; omega)).trans c7, (World.cell?_setCell_other _ _ _ _ (by intro e; injection e with _ e2; omega)).trans c15, (World.cell?_setCell_other _ _ _ _ (by intro e; injection e with _ e2; omega)).trans c16⟩)
            (first
             | (go_at_call 91; (with_reducible refine (late_c q2.1 q2.2).mono ?_); rintro x w3 ⟨rfl, ⟨n3, rfl⟩⟩)
             | (go_at_call 92; (with_reducible refine (early_c q15.1 q15.2).mono ?_); rintro x w3 ⟨rfl, ⟨n4, rfl⟩⟩))
          have ev : IntKind.u32.wrap (IntKind.u32.wrap ((lateS x2 + x7) % 4294967296 + earlyS x15) + x16) = nextW (extW (T - 16) (upW l 16)) := by rw [IntKind.wrap_u32', IntKind.wrap_u32', NX.out]
          have R1 : Aside0 (Blk (wr.setCell ⟨w.heap.size + 1, T, none⟩ (.int .u32 (IntKind.u32.wrap (IntKind.u32.wrap ((lateS x2 + x7) % 4294967296 + earlyS x15) + x16)))) (w.heap.size + 1) 110 (nums .u32 (fillW (extW (T + 1 - 16) (upW l 16))))) := ⟨by
            have h1 := blk_put hX2.out T (nextW (extW (T - 16) (upW l 16)))
            have h2 := fillW_set (extW (T - 16) (upW l 16)) (nextW (extW (T - 16) (upW l 16))) (by rw [HL.out]; omega)
            rw [HL.out] at h2
            rw [h2] at h1
            rw [ev, show T + 1 - 16 = T - 16 + 1 by omega]
            exact h1⟩
          have R2 : Aside0 (Blk (wr.setCell ⟨w.heap.size + 1, T, none⟩ (.int .u32 (IntKind.u32.wrap (IntKind.u32.wrap ((lateS x2 + x7) % 4294967296 + earlyS x15) + x16)))) w.heap.size 110 (nums .u32 (fillW []))) := ⟨Blk.far hY2.out (p := ⟨w.heap.size + 1, T, none⟩) (by simp) _⟩
          clear ev z2 z7 z15 z16 t2 t7 t15 t16
          go_wp2_with fail
          go_roundw
          case rel => exact ⟨T + 1, by omega, by omega, by go_num, ⟨R1.out⟩, ⟨R2.out⟩, pw_below_drewN (hB2.setCell (p := ⟨w.heap.size + 1, T, none⟩) (by simp) _) _⟩
          case measure => simp [intOf]; omega
        · have hge : ¬ (T : Int) < 64 := by omega
          have hT : T = 64 := by omega
          have e64 : fillW (extW (T - 16) (upW l 16)) = schedS l := by
            rw [hT]; exact fillW_full _ (schedS_length l)
          rw [e64] at hX2
          clear e64 hT hX' hY' hX hY
          have hS := schedS_length l
          obtain ⟨S, HSE⟩ : ∃ S, Aside0 (schedS l = S) := ⟨_, ⟨rfl⟩⟩
          rw [HSE.out] at hX2 hS
          have HS := Aside0.mk hS
          clear hS
          go_wp2_with (first
            | (refine load_arr rfl 110 (.tmp 3) rfl (w.heap.size + 1) rfl 110 .u32 S 64 88 hX2.out Tryd.underlying110 size110 HS.out ?_)
            | (refine store_arr rfl 110 (.tmp 2) (.tmp 50) rfl w.heap.size .u32 S rfl rfl 110 64 (nums .u32 (fillW [])) hY2.out size110 HS.out (by rw [nums_length]; rfl) ?_; intro w9 hZ hg9; have HZ := Aside0.mk hZ; clear hZ))
          refine bodyPost_ret (v := .agg (nums .u32 S).toArray) ?_ rfl ⟨?_, hB2.grown hg9 hB2.size (fun k hk => by cases hk; exact Nat.le_refl _)⟩
          · refine results_arr (p := 2) (ty := 110) (h := ?_) (g := w.heap.size) (t := 110) (n := 64) (e := 88) (k := .u32) (l := S) (hp := ?_) (hg := HZ.out) (hu := Tryd.underlying110) (hi := size110) (hl := HS.out) ..
            · rfl
            · rfl
          · rw [HSE.out]
end Go.Proofs.YtmmbonlidcbkcaaDoor.DgWords
