/- stretch, walked. -/
import Derived.Test.YtmmbonlidcbkcaaDoorMacA
import Derived.Deep.RegionHeld3
import Derived.Deep.MidRow
import Derived.Deep.Cut
namespace Go.Proofs.YtmmbonlidcbkcaaDoor.StC
open Go.RowKit Go.Proofs.YtmmbonlidcbkcaaDoorW.PrintWords Go.Proofs.YtmmbonlidcbkcaaDoor.Num Go.Proofs.YtmmbonlidcbkcaaDoor.Sha Go.Proofs.YtmmbonlidcbkcaaDoor.Hmac Go.Proofs.YtmmbonlidcbkcaaDoor.WordC Go.Proofs.YtmmbonlidcbkcaaDoor.Arr Go.Proofs.YtmmbonlidcbkcaaDoor.App Go.Proofs.YtmmbonlidcbkcaaDoor.DgC Go.Proofs.YtmmbonlidcbkcaaDoor.DgBlock Go.Proofs.YtmmbonlidcbkcaaDoor.DgState Go.Proofs.YtmmbonlidcbkcaaDoor.DgAdd Go.Proofs.YtmmbonlidcbkcaaDoor.DgSum Go.Proofs.YtmmbonlidcbkcaaDoor.DgOf Go.Proofs.YtmmbonlidcbkcaaDoor.DgCopy Go.Proofs.YtmmbonlidcbkcaaDoor.DgLaw Go.Proofs.YtmmbonlidcbkcaaDoor.DgWords Go.Proofs.YtmmbonlidcbkcaaDoor.DgParts Go.Proofs.YtmmbonlidcbkcaaDoor.RefOf Go.Proofs.YtmmbonlidcbkcaaDoor.MacC Go.Proofs.YtmmbonlidcbkcaaDoor.MacTag Go.Proofs.YtmmbonlidcbkcaaDoor.MacLaw Go.Proofs.YtmmbonlidcbkcaaDoor.MacAwake Go.Proofs.YtmmbonlidcbkcaaDoor.MacHold Go.Proofs.YtmmbonlidcbkcaaDoor.MacNew Go.Proofs.YtmmbonlidcbkcaaDoor.MacRef Go.Proofs.YtmmbonlidcbkcaaDoor.MacNil Go.Proofs.YtmmbonlidcbkcaaDoor.MacMany
set_option linter.unusedVariables false
set_option linter.unusedSimpArgs false

/-- Another row, of a type of its own, was written. -/
theorem ky_typed {w w1 : World} {base kb t0 : Nat} {key : List Int} {row : Option Nat} (h : Ky w base kb key) (h5 : 5 ≠ t0) (h97 : 97 ≠ t0) (h91 : 91 ≠ t0) (ht : ∀ k, row = some k → ∃ cells, w.heap[k]? = some (.cells cells t0 (0, 0))) (hg : w.grownBy w1 row) : Ky w1 base kb key := by
  obtain ⟨hB, gi, vi, go, vo, h1, h2, h3⟩ := h
  have ne : ∀ {g t : Nat} {cells : Array Value}, w.heap[g]? = some (.cells cells t (0, 0)) → t ≠ t0 → some g ≠ row := fun {g t cs} hb ht' e => by
    obtain ⟨cells, hc⟩ := ht g e.symm
    have hg' := hc.symm.trans hb
    injection hg' with hg'; injection hg' with _ hg'
    exact ht' hg'.symm
  have sg : ∀ {g : Nat} {v : Value} {b : List Int}, St w base g v b → St w1 base g v b := fun {g v b} h => ⟨h.ge, h.isB, blk_grow h.blk hg (ne h.blk h91), q_move h.tail (fun k hk => hg.block k (h.row_lt k hk) (by obtain ⟨_, cells, hc⟩ := q_typed h.tail k hk; exact ne hc h5))⟩
  exact ⟨hB, gi, vi, go, vo, blk_grow h1 hg (ne h1 h97), sg h2, sg h3⟩
theorem Tag2_c {base kb : Nat} {key : List Int} {A B : Option Addr} {n c m d : Nat} {k : Nat} {l l' : List Int} {w : World} (hk : k = w.heap.size) (hK : Ky w base kb key) (hr : Rd w A n c l) (hr' : Rd w B m d l') (hB : IsB l) (hB' : IsB l') (hl : n + m ≤ 140737488350000) (ht : Tb w) :
    Calls Tryd.prog 40 #[.pointer (some ⟨kb, 0, none⟩), .slice (some ⟨k, 0, none⟩) 2 2] (w.alloc (.cells #[.slice A n c, .slice B m d] 22)) fun e w' => e = .returned (.agg (nums .u8 (tagS key (l ++ l'))).toArray) ∧ Below w.heap.size w w' := by
  subst hk
  have hb0 : Below w.heap.size w (w.alloc (.cells #[.slice A n c, .slice B m d] 22)) := (Below.refl _ w).alloc (Nat.le_refl _) _
  refine (Tag_c (hK.below hb0) (pt_two hr hr') (isB_two hB hB') (by rw [flat_two, List.length_append, hr.len, hr'.len]; omega) (ht.below hb0)).mono ?_
  rintro e w' ⟨rfl, hb⟩
  rw [flat_two]
  exact ⟨rfl, hb0.trans (hb.mono (by simp))⟩
/-- So many bytes are exclusive-ored. -/
def xorP (K U : List Int) (T : Nat) : List Int := (xorL K U).take T ++ K.drop T
theorem xorP_length (K U : List Int) (h : K.length = U.length) (T : Nat) : (xorP K U T).length = K.length := by
  unfold xorP; rw [List.length_append, List.length_take, xorL_length h, List.length_drop]; omega
theorem xorP_zero (K U : List Int) : xorP K U 0 = K := by simp [xorP]
theorem xorP_full (K U : List Int) (n : Nat) (h : K.length = U.length) (hn : K.length = n) : xorP K U n = xorL K U := by
  unfold xorP; rw [List.take_of_length_le (by rw [xorL_length h]; omega), List.drop_of_length_le (by omega), List.append_nil]
theorem xorP_getD (K U : List Int) (h : K.length = U.length) (T : Nat) (hT : T < K.length) : (xorP K U T).getD T 0 = K.getD T 0 := by
  have hl : ((xorL K U).take T).length = T := by rw [List.length_take, xorL_length h]; omega
  simp only [xorP, List.getD_eq_getElem?_getD]
  rw [List.getElem?_append_right (by omega), hl, Nat.sub_self, List.getElem?_drop]; rfl
theorem xorP_set (K U : List Int) (h : K.length = U.length) (T : Nat) (hT : T < K.length) : (xorP K U T).set T (xor8 (K.getD T 0) (U.getD T 0)) = xorP K U (T + 1) := by
  have hl : ((xorL K U).take T).length = T := by rw [List.length_take, xorL_length h]; omega
  have e1 : (xorL K U).take (T + 1) = (xorL K U).take T ++ [xor8 (K.getD T 0) (U.getD T 0)] := by
    rw [List.take_add_one, List.getElem?_eq_getElem (by rw [xorL_length h]; exact hT), List.getD_eq_getElem?_getD, List.getD_eq_getElem?_getD, List.getElem?_eq_getElem hT, List.getElem?_eq_getElem (by omega)]
    simp [xorL]
  unfold xorP
  rw [List.set_append_right _ _ (by omega), hl, Nat.sub_self, List.drop_eq_getElem_cons hT, List.set_cons_zero, e1, List.append_assoc]; rfl
theorem typed_blk {w : World} {g t : Nat} {cs : List Value} (h : Blk w g t cs) : ∀ k, (some g) = some k → ∃ cells, w.heap[k]? = some (.cells cells t (0, 0)) := fun k hk => by
  injection hk with hk; subst hk; exact ⟨_, h⟩
theorem ky_set {w : World} {base kb g t : Nat} {key : List Int} {cs : List Value} (h : Ky w base kb key) (hb : Blk w g t cs) (h5 : 5 ≠ t) (h97 : 97 ≠ t) (h91 : 91 ≠ t) (i : Nat) (v : Value) : Ky (w.setCell ⟨g, i, none⟩ v) base kb key :=
  ky_typed h h5 h97 h91 (typed_blk hb) ⟨rfl, rfl, rfl, by simp [World.setCell], fun k hk hne => Below.heap_setCell w _ v k (fun e => hne (by rw [e]))⟩
set_option maxHeartbeats 8000000 in
set_option maxRecDepth 100000 in
theorem block74_c {base kb : Nat} {key salt : List Int} {A : Option Addr} {n c : Nat} {i rr : Int} {w : World} (hK : Ky w base kb key) (hr : Rd w A n c salt) (hS : IsB salt) (hn : n ≤ 140737488340000) (hi0 : 0 ≤ i) (hi1 : i < 4294967296) (hr1 : 1 ≤ rr) (hr2 : rr ≤ 4096) (ht : Tb w) :
    Calls Tryd.prog 74 #[.pointer (some ⟨kb, 0, none⟩), .slice A n c, .int .u32 i, .int .i64 rr] w fun e w' => e = .returned (.agg (nums .u8 (sumS key (tagS key (salt ++ told 4 i)) (rr.toNat - 1))).toArray) ∧ Below w.heap.size w w' := by
  obtain ⟨R, rfl⟩ : ∃ R : Nat, rr = ((R + 1 : Nat) : Int) := ⟨rr.toNat - 1, by omega⟩
  have hlT := tagS_length key (salt ++ told 4 i)
  have hIT := tagS_isB key (salt ++ told 4 i)
  have htold := told_isB 4 i
  have hln := hr.len
  have htl := told_length 4 i
  have HST : Aside0 (storeW i false = told 4 i) := ⟨rfl⟩
  obtain ⟨X, HX⟩ : ∃ X, Aside0 (told 4 i = X) := ⟨_, ⟨rfl⟩⟩
  rw [HX.out] at hlT hIT htold htl
  obtain ⟨u0, HU0⟩ : ∃ u0, Aside0 (tagS key (salt ++ X) = u0) := ⟨_, ⟨rfl⟩⟩
  rw [HU0.out] at hlT hIT
  have HL0 := Aside0.mk hlT
  have HXL := Aside0.mk htl
  have HLN := Aside0.mk hln
  clear hlT htl hln
  have hRR : ((R + 1 : Nat) : Int).toNat - 1 = R := by omega
  have HRR := Aside0.mk hRR
  clear hRR
  push_cast at hr1 hr2 ⊢
  go_enter Tryd.func74, Tryd.ntmps74
  go_upto_region 1 with (fail)
  generalize hW : w.alloc _ = W0
  have hB0 : Below w.heap.size w W0 := by rw [← hW]; exact (Below.refl _ w).alloc (Nat.le_refl _) _
  have hO0 : Blk W0 w.heap.size 27 (nums .u8 (List.replicate 32 0)) := by rw [← hW]; exact heap_alloc_new _ _
  clear hW
  go_wp2_with fail
  refine (Store_c hi0 hi1 false).mono ?_
  rintro x w1 ⟨v1, rfl, ho1, hb1⟩
  rw [HST.out, HX.out] at ho1
  obtain ⟨A1, c1, rfl, r1⟩ := rd_of_own ho1
  rw [HXL.out] at r1 ⊢
  clear ho1
  have hB1 := below_next hB0 hb1
  have hK1 := hK.below hB1
  go_wp2_with fail
  refine (Tag2_c (k := w1.heap.size) rfl hK1 (hr.below hB1) r1 hS htold (by omega) (ht.below hB1)).mono ?_
  rintro x w2 ⟨rfl, hb2⟩
  rw [HU0.out]
  have hB2 := below_next hB1 hb2
  have hK2 := hK1.below hb2
  have hO2 := Blk.below (Blk.below hO0 hb1) hb2
  clear r1 hK1
  go_wp2_with (first
    | (refine store_arr rfl 27 (.tmp 9) (.tmp 17) rfl w2.heap.size .u8 u0 rfl rfl 27 32 _ (heap_alloc_new _ _) size27 HL0.out rfl ?_; intro w3 hU3 hg3; have hK3 := ky_typed (hK2.below ((Below.refl _ w2).alloc (Nat.le_refl _) _)) (by decide) (by decide) (by decide) (typed_blk (heap_alloc_new w2 _)) hg3; have hO3 := Blk.grown (hO2.alloc _) hg3 (Nat.ne_of_lt (Blk.lt hO2)); have hB3 := (hB2.alloc hB2.size _).grown hg3 (by have := hB2.size; simp; omega) (fun k hk => by cases hk; exact hB2.size))
    | (refine load_arr rfl 27 (.tmp 9) rfl w2.heap.size rfl 27 .u8 u0 32 5 hU3 Tryd.underlying27 size27 HL0.out ?_)
    | (refine store_arr rfl 27 (.tmp 10) (.tmp 18) rfl w3.heap.size .u8 u0 rfl rfl 27 32 _ (heap_alloc_new _ _) size27 HL0.out rfl ?_; intro w4 hT4 hg4; have hK4 := ky_typed (hK3.below ((Below.refl _ w3).alloc (Nat.le_refl _) _)) (by decide) (by decide) (by decide) (typed_blk (heap_alloc_new w3 _)) hg4; have hO4 := Blk.grown (hO3.alloc _) hg4 (Nat.ne_of_lt (Blk.lt hO3)); have hU4 := Blk.grown (hU3.alloc _) hg4 (Nat.ne_of_lt (Blk.lt hU3)); have hB4 := (hB3.alloc hB3.size _).grown hg4 (by have := hB3.size; simp; omega) (fun k hk => by cases hk; exact hB3.size)))
  have d89 := Blk.lt hO2
  have d9X := Blk.lt hU3
  have hU4' : Aside0 (Blk w4 w2.heap.size 27 (nums .u8 (stepS key u0 0))) := ⟨hU4⟩
  have hT4' : Aside0 (Blk w4 w3.heap.size 27 (nums .u8 (sumS key u0 0))) := ⟨hT4⟩
  have hO4' := Aside0.mk hO4
  have hK4' := Aside0.mk hK4
  clear hU3 hO3 hK3 hB3 hU4 hT4 hO4 hK4 hg3 hg4 hK2 hO2 hb2 hB2 hb1 hB1
  generalize w2.heap.size = g9 at *
  generalize w3.heap.size = g10 at *
  go_loopw [21] (fun i wr => ∃ T : Nat, T ≤ R ∧ i = .int .i64 T ∧ Aside0 (Blk wr g9 27 (nums .u8 (stepS key u0 T))) ∧ Aside0 (Blk wr g10 27 (nums .u8 (sumS key u0 T))) ∧ Aside0 (Blk wr w.heap.size 27 (nums .u8 (List.replicate 32 0))) ∧ Aside0 (Ky wr base kb key) ∧ Below w.heap.size w wr) (fun i _ => R - (intOf i).toNat)
  case atStart => exact ⟨0, by omega, rfl, hU4', hT4', hO4', hK4', hB4⟩
  case round =>
    clear hU4' hT4' hO4' hK4' hB4
    obtain ⟨T, hT, rfl, hU, hX, hO, hKy, hb⟩ := hrel
    by_cases hlt : T < R
    · have hlt' : (T : Int) < (R : Int) := by omega
      have hlu := stepS_length key u0 HL0.out T
      have hlu' := stepS_length key u0 HL0.out (T + 1)
      have hls := sumS_length key u0 HL0.out T
      have hiu := stepS_isB key u0 hIT T
      have HN : Aside0 (sumS key u0 (T + 1) = xorL (sumS key u0 T) (stepS key u0 (T + 1))) := ⟨rfl⟩
      have HNU : Aside0 (tagS key (stepS key u0 T) = stepS key u0 (T + 1)) := ⟨rfl⟩
      obtain ⟨U, HU⟩ : ∃ U, Aside0 (stepS key u0 T = U) := ⟨_, ⟨rfl⟩⟩
      obtain ⟨V, HV⟩ : ∃ V, Aside0 (stepS key u0 (T + 1) = V) := ⟨_, ⟨rfl⟩⟩
      obtain ⟨S, HS⟩ : ∃ S, Aside0 (sumS key u0 T = S) := ⟨_, ⟨rfl⟩⟩
      rw [HU.out] at hU hlu hiu HNU
      rw [HV.out] at hlu' HN HNU
      rw [HS.out] at hX hls HN
      have HLU := Aside0.mk hlu
      have HLV := Aside0.mk hlu'
      have HLS := Aside0.mk hls
      clear hlu hlu' hls
      go_wp2_with fail
      refine (Tag1_c (k := wr.heap.size) rfl hKy.out (rd_blk32 hU.out HLU.out) hiu (by omega) (ht.below hb)).mono ?_
      rintro x w5 ⟨rfl, hb5⟩
      rw [HNU.out]
      have hB5 := below_next hb hb5
      have hU5 := Blk.below hU.out hb5
      have hX5 := Blk.below hX.out hb5
      have hO5 := Blk.below hO.out hb5
      have hK5 := hKy.out.below hb5
      go_wp2_with (first
        | (refine store_arr rfl 27 (.tmp 9) (.tmp 26) rfl g9 .u8 V rfl rfl 27 32 _ hU5 size27 HLV.out (by rw [nums_length]; exact HLU.out) ?_; intro w6 hU6 hg6; have hK6 := Aside0.mk (ky_typed hK5 (by decide) (by decide) (by decide) (typed_blk hU5) hg6); have hX6 := Blk.grown hX5 hg6 (by omega); have hO6 := Aside0.mk (Blk.grown hO5 hg6 (by omega)); have hB6 := hB5.grown hg6 hB5.size (fun k hk => by cases hk; omega)))
      have hX6' : Aside0 (Blk w6 g10 27 (nums .u8 (xorP S V 0))) := ⟨by rw [xorP_zero]; exact hX6⟩
      have hU6' := Aside0.mk hU6
      clear hU hX hO hKy hU5 hX5 hO5 hK5 hX6 hU6 hg6
      go_loopw [27] (fun i wq => ∃ J : Nat, J ≤ 32 ∧ i = .int .i64 J ∧ Aside0 (Blk wq g9 27 (nums .u8 V)) ∧ Aside0 (Blk wq g10 27 (nums .u8 (xorP S V J))) ∧ Aside0 (Blk wq w.heap.size 27 (nums .u8 (List.replicate 32 0))) ∧ Aside0 (Ky wq base kb key) ∧ Below w.heap.size w wq) (fun i _ => 32 - (intOf i).toNat)
      case atStart => exact ⟨0, by omega, rfl, hU6', hX6', hO6, hK6, hB6⟩
      case round =>
        clear hU6' hX6' hO6 hK6 hB6
        obtain ⟨J, hJ, rfl, hU, hX, hO, hKy, hb⟩ := hrel
        by_cases hlj : J < 32
        · have hlj' : (J : Int) < 32 := by omega
          have hsv : S.length = V.length := by rw [HLS.out, HLV.out]
          have cX : wr.cell? ⟨g10, J, none⟩ = some (.int .u8 (S.getD J 0)) := by rw [← xorP_getD S V hsv J (by rw [HLS.out]; exact hlj)]; exact blk_num hX.out J (by rw [xorP_length S V hsv, HLS.out]; exact hlj)
          have cV : wr.cell? ⟨g9, J, none⟩ = some (.int .u8 (V.getD J 0)) := blk_num hU.out J (by rw [HLV.out]; exact hlj)
          have fX := Blk.frozen hX.out J
          have hset := xorP_set S V hsv J (by rw [HLS.out]; exact hlj)
          have HSET := Aside0.mk hset
          clear hset hsv
          generalize S.getD J 0 = x1 at *
          generalize V.getD J 0 = x2 at *
          go_wp2_with fail
          go_region
          have hX' : Aside0 (Blk (wr.setCell ⟨g10, J, none⟩ (.int .u8 (bits BinOp.xor IntKind.u8 x1 x2))) g10 27 (nums .u8 (xorP S V (J + 1)))) := ⟨by rw [← HSET.out]; exact blk_put hX.out J _⟩
          have hU' : Aside0 (Blk (wr.setCell ⟨g10, J, none⟩ (.int .u8 (bits BinOp.xor IntKind.u8 x1 x2))) g9 27 (nums .u8 V)) := ⟨Blk.far hU.out (by show g9 ≠ g10; omega) _⟩
          have hO' : Aside0 (Blk (wr.setCell ⟨g10, J, none⟩ (.int .u8 (bits BinOp.xor IntKind.u8 x1 x2))) w.heap.size 27 (nums .u8 (List.replicate 32 0))) := ⟨Blk.far hO.out (by show w.heap.size ≠ g10; omega) _⟩
          have hK' : Aside0 (Ky (wr.setCell ⟨g10, J, none⟩ (.int .u8 (bits BinOp.xor IntKind.u8 x1 x2))) base kb key) := ⟨ky_set hKy.out hX.out (by decide) (by decide) (by decide) J _⟩
          have hB' : Below w.heap.size w (wr.setCell ⟨g10, J, none⟩ (.int .u8 (bits BinOp.xor IntKind.u8 x1 x2))) := hb.setCell (by show w.heap.size ≤ g10; omega) _
          have hK'' := Aside0.mk (hK'.out.below (Below.drew (Below.refl _ _)))
          go_wp2_with fail
          go_roundw
          case rel => exact ⟨J + 1, by omega, by go_num, ⟨hU'.out⟩, ⟨hX'.out⟩, ⟨hO'.out⟩, hK'', hB'.drew⟩
          case measure => simp [intOf]; omega
        · have hge : ¬ (J : Int) < 32 := by omega
          have h32 : J = 32 := by omega
          have hX' := hX.out
          rw [h32, xorP_full S V 32 (by rw [HLS.out, HLV.out]) HLS.out, ← HN.out] at hX'
          have hU' := hU.out
          rw [← HV.out] at hU'
          have HX' := Aside0.mk hX'
          have HU' := Aside0.mk hU'
          clear h32 hX' hU' hX hU
          go_wp2_with fail
          go_roundw
          case rel => exact ⟨T + 1, by omega, by go_num, HU', HX', hO, hKy, hb⟩
          case measure => simp [intOf]; omega
    · have hge : ¬ (T : Int) < (R : Int) := by omega
      have hTR : T = R := by omega
      have hX' := hX.out
      rw [hTR] at hX'
      have hls := sumS_length key u0 HL0.out R
      obtain ⟨S, HS⟩ : ∃ S, Aside0 (sumS key u0 R = S) := ⟨_, ⟨rfl⟩⟩
      rw [HS.out] at hX' hls
      have HLS := Aside0.mk hls
      clear hls hTR hX hU
      go_wp2_with (first
        | (refine load_arr rfl 27 (.tmp 10) rfl g10 rfl 27 .u8 S 32 5 hX' Tryd.underlying27 size27 HLS.out ?_)
        | (refine store_arr rfl 27 (.tmp 8) (.tmp 40) rfl w.heap.size .u8 S rfl rfl 27 32 _ hO.out size27 HLS.out (by rw [nums_length]; rfl) ?_; intro w12 hO12 hg12; have HO12 := Aside0.mk hO12; clear hO12))
      refine bodyPost_ret (v := .agg (nums .u8 S).toArray) ?_ rfl ⟨by rw [HX.out, HU0.out, HS.out], hb.grown hg12 hb.size (fun k hk => by cases hk; exact Nat.le_refl _)⟩
      refine results_arr (p := 8) (ty := 27) (h := ?_) (g := w.heap.size) (t := 27) (n := 32) (e := 5) (k := .u8) (l := S) (hp := ?_) (hg := HO12.out) (hu := Tryd.underlying27) (hi := size27) (hl := HLS.out) ..
      · rfl
      · rfl
set_option maxHeartbeats 1000000 in
theorem own44_c {A : Option Addr} {n c : Nat} {l : List Int} {w : World} (hr : Rd w A n c l) (hn : n ≤ 140737488351232) :
    Calls Tryd.prog 44 #[.slice A n c] w fun e w' => ∃ v, e = .returned v ∧ Ow w' w.heap.size v l ∧ Below w.heap.size w w' := by
  have hrA := hr.alloc (.cells #[] 5)
  have hbE : Below w.heap.size w (w.alloc (.cells #[] 5)) := (Below.refl _ _).alloc (Nat.le_refl _) _
  go_enter Tryd.func44, Tryd.ntmps44
  go_wp2_with (first
    | (at_builtin; refine append_ow (w0 := w) w.heap.size rfl (.tmp 3) (.tmp 4) rfl (.slice (some ⟨w.heap.size, 0, none⟩) 0 0) [] l A n c rfl rfl (ow_empty w _ (Nat.le_refl _)) hrA hbE (by simp) (by simp; omega) ?_; intro v1 w1 ho1 hb1 hx1 hy1; clear hx1 hy1; rw [List.nil_append] at ho1; have HO := Aside0.mk ho1; clear ho1))
  go_ret
  exact ⟨_, rfl, HO.out, hb1⟩
set_option maxHeartbeats 1000000 in
theorem Key45_rounds {A B : Option Addr} {n c m d : Nat} {r k : Int} {w : World} (h : r < 1 ∨ 4096 < r) :
    Calls Tryd.prog 45 #[.slice A n c, .slice B m d, .int .i64 r, .int .i64 k] w fun e w' => e = .returned (.tuple #[.slice none 0 0, .int .i64 6]) ∧ w' = w := by
  by_cases h1 : r < 1
  · go_enter Tryd.func45, Tryd.ntmps45
    go_wp2
    go_ret2
    exact ⟨rfl, rfl⟩
  · have h2 : 4096 < r := by omega
    have h3 : 1 ≤ r := by omega
    clear h
    go_enter Tryd.func45, Tryd.ntmps45
    go_wp2
    go_ret2
    exact ⟨rfl, rfl⟩
set_option maxHeartbeats 1000000 in
theorem Key45_long {A B : Option Addr} {n c m d : Nat} {r k : Int} {w : World} (h1 : 1 ≤ r) (h2 : r ≤ 4096) (h : k < 0 ∨ 256 < k) :
    Calls Tryd.prog 45 #[.slice A n c, .slice B m d, .int .i64 r, .int .i64 k] w fun e w' => e = .returned (.tuple #[.slice none 0 0, .int .i64 2]) ∧ w' = w := by
  by_cases h3 : k < 0
  · go_enter Tryd.func45, Tryd.ntmps45
    go_wp2
    go_ret2
    exact ⟨rfl, rfl⟩
  · have h4 : 256 < k := by omega
    have h5 : 0 ≤ k := by omega
    clear h
    go_enter Tryd.func45, Tryd.ntmps45
    go_wp2
    go_ret2
    exact ⟨rfl, rfl⟩
theorem rd_cut3 {w : World} {A : Option Addr} {n c : Nat} {l : List Int} (h : Rd w A n c l) (hi : Nat) {y : Int} (hy : y = hi) (h2 : hi ≤ n) :
    (∀ W : World, (Instr.slice 22 (.slice A n c) none (some (.int .i64 y)) (some (.int .i64 y))).run Tryd.prog W = .ok (.slice A hi hi) W) ∧ Rd w A hi hi (l.take hi) := by
  subst hy
  obtain ⟨i, hi0, hsz⟩ := infoX
  have hel : Tryd.prog.elem 22 = 5 := by simp [Program.elem, Tryd.underlying22]
  have hu : Tryd.prog.underlying 22 = some (.slice (Tryd.prog.elem 22)) := by rw [hel]; exact Tryd.underlying22
  have ha : (A.map fun x => x.add 0) = A := by cases A <;> simp [Addr.add]
  refine ⟨fun W => ?_, (rd_take h h2).len, Nat.le_refl _, (rd_take h h2).cells⟩
  have hc := h.cap
  rw [run_slice_hm W 22 A n c hu .i64 .i64 (hi : Int) (hi : Int) (by omega) (by omega) (by omega), hel]
  simp [sizeOf, typeInfo, hi0, sliced, Result.andThen, ha]
set_option maxHeartbeats 4000000 in
set_option maxRecDepth 100000 in
theorem Key45_c {A B : Option Addr} {n c m d : Nat} {pass salt : List Int} {r k : Int} {w : World} (hr : Rd w A n c pass) (hB : IsB pass) (hn : n ≤ 140737488351232) (hr' : Rd w B m d salt) (hS : IsB salt) (hm : m ≤ 140737488340000) (h1 : 1 ≤ r) (h2 : r ≤ 4096) (h3 : 0 ≤ k) (h4 : k ≤ 256) (ht : Tb w) :
    Calls Tryd.prog 45 #[.slice A n c, .slice B m d, .int .i64 r, .int .i64 k] w fun e w' => ∃ A' c', e = .returned (.tuple #[.slice A' k.toNat c', .int .i64 0]) ∧ Rd w' A' k.toNat c' (stretchS pass salt r.toNat k.toNat) ∧ Below w.heap.size w w' := by
  obtain ⟨R, rfl⟩ := Int.eq_ofNat_of_zero_le (show 0 ≤ r by omega)
  obtain ⟨K, rfl⟩ := Int.eq_ofNat_of_zero_le h3
  simp only [Int.toNat_natCast]
  have q1 : ¬ (R : Int) < 1 := by omega
  have q2 : ¬ (K : Int) < 0 := by omega
  go_enter Tryd.func45, Tryd.ntmps45
  go_wp2_with fail
  refine (MacNew.New_c hr hB hn ht).mono ?_
  rintro x w1 ⟨kb, rfl, hK1, hb1⟩
  have HK1 := Aside0.mk hK1
  have H0 : Aside0 (Ow w1 w1.heap.size (.slice none 0 0) (blksS pass salt R 0)) := ⟨Kd.R_nil _ _ _ _ _⟩
  clear hK1
  go_wp2_with fail
  go_loopw [31, 11] (fun i v wr => ∃ (j : Nat) (u : Value), j ≤ (K + 31) / 32 ∧ i = .int .i64 j ∧ u = v ∧ Aside0 (Ow wr w1.heap.size u (blksS pass salt R j)) ∧ Below w1.heap.size w1 wr) (fun i _ _ => (K + 31) / 32 - (intOf i).toNat)
  case atStart => exact ⟨0, _, by omega, rfl, rfl, H0, Below.refl _ _⟩
  case round =>
    clear H0
    obtain ⟨j, u, hj, rfl, rfl, hV, hb⟩ := hrel
    by_cases hlt : j < (K + 31) / 32
    · have hlt' : (j : Int) < ((K : Int) + 31) / 32 := by omega
      have hj8 : (j : Int) ≤ 8 := by omega
      have hbk : sumS pass (tagS pass (salt ++ told 4 ((j : Int) + 1))) ((R : Int).toNat - 1) = blkS pass salt R (j + 1) := by unfold blkS; push_cast; rfl
      have hnx : blksS pass salt R j ++ blkS pass salt R (j + 1) = blksS pass salt R (j + 1) := rfl
      have hsl := blkS_length pass salt R (j + 1)
      have hbl := blksS_length pass salt R j
      obtain ⟨S, HS⟩ : ∃ S, Aside0 (blkS pass salt R (j + 1) = S) := ⟨_, ⟨rfl⟩⟩
      rw [HS.out] at hbk hnx hsl
      have HBK := Aside0.mk hbk
      have HNX := Aside0.mk hnx
      have HSL := Aside0.mk hsl
      have HBL := Aside0.mk hbl
      have hB := below_next hb1 hb
      clear hbk hnx hsl hbl
      go_wp2_with fail
      refine (block74_c (HK1.out.below hb) (hr'.below hB) hS hm (by omega) (by omega) h1 h2 (ht.below hB)).mono ?_
      rintro x w2 ⟨rfl, hb2⟩
      rw [HBK.out]
      have hB2 := below_next hb hb2
      have hV2 := Kd.R_below hV.out hb2
      go_wp2_with (first
        | (refine store_arr rfl 27 (.tmp 13) (.tmp 40) rfl w2.heap.size .u8 S rfl rfl 27 32 _ (heap_alloc_new _ _) size27 HSL.out rfl ?_; intro w3 hS3 hg3; have hb23 := ((Below.refl _ w2).alloc (Nat.le_refl _) _).grown hg3 (by simp) (fun k hk => by cases hk; exact Nat.le_refl _); have hV3 := Kd.R_below hV2 hb23; have hB3 := below_next hB2 hb23; have hr3 := rd_blk32 hS3 HSL.out; clear hS3 hg3)
        | (at_builtin; refine append_ow (w0 := w1) w1.heap.size rfl (.tmp 41) (.tmp 42) rfl u (blksS pass salt R j) S (some ⟨w2.heap.size, 0, none⟩) 32 32 rfl rfl hV3 hr3 hB3 hB3.size (by rw [HBL.out]; omega) ?_; intro v4 w4 ho4 hb4 hx4 hy4; clear hx4 hy4; rw [HNX.out] at ho4; have HO4 := Aside0.mk ho4; clear ho4))
      go_roundw
      case rel => exact ⟨j + 1, v4, by omega, by go_num, rfl, HO4, hb4⟩
      case measure => simp [intOf]; omega
    · have hge : ¬ (j : Int) < ((K : Int) + 31) / 32 := by omega
      have hjm : j = (K + 31) / 32 := by omega
      obtain ⟨A3, c3, rfl, r3⟩ := rd_of_own hV.out
      have hbl := blksS_length pass salt R j
      obtain ⟨hcut, hrd⟩ := rd_cut3 r3 K (y := (K : Int)) rfl (by rw [hbl]; omega)
      rw [hjm] at hrd
      have hrd' : Rd wr A3 K K (stretchS pass salt R K) := hrd
      have HRD := Aside0.mk hrd'
      obtain ⟨Q, HQ⟩ : ∃ Q, Aside0 ((blksS pass salt R j).length = Q) := ⟨_, ⟨rfl⟩⟩
      rw [HQ.out] at hcut ⊢
      have hB := below_next hb1 hb
      clear hrd hrd' r3 hbl hV hjm
      go_wp2_with fail
      go_ret2
      exact ⟨A3, K, rfl, HRD.out, hB⟩
set_option maxHeartbeats 1000000 in
theorem refKey46_rounds {A B : Option Addr} {n c m d : Nat} {r k : Int} {w : World} (h : r < 1 ∨ 4096 < r) :
    Calls Tryd.prog 46 #[.slice A n c, .slice B m d, .int .i64 r, .int .i64 k] w fun e w' => e = .returned (.tuple #[.slice none 0 0, .int .i64 6]) ∧ w' = w := by
  by_cases h1 : r < 1
  · go_enter Tryd.func46, Tryd.ntmps46
    go_wp2
    go_ret2
    exact ⟨rfl, rfl⟩
  · have h2 : 4096 < r := by omega
    have h3 : 1 ≤ r := by omega
    clear h
    go_enter Tryd.func46, Tryd.ntmps46
    go_wp2
    go_ret2
    exact ⟨rfl, rfl⟩
set_option maxHeartbeats 1000000 in
theorem refKey46_long {A B : Option Addr} {n c m d : Nat} {r k : Int} {w : World} (h1 : 1 ≤ r) (h2 : r ≤ 4096) (h : k < 0 ∨ 256 < k) :
    Calls Tryd.prog 46 #[.slice A n c, .slice B m d, .int .i64 r, .int .i64 k] w fun e w' => e = .returned (.tuple #[.slice none 0 0, .int .i64 2]) ∧ w' = w := by
  by_cases h3 : k < 0
  · go_enter Tryd.func46, Tryd.ntmps46
    go_wp2
    go_ret2
    exact ⟨rfl, rfl⟩
  · have h4 : 256 < k := by omega
    have h5 : 0 ≤ k := by omega
    clear h
    go_enter Tryd.func46, Tryd.ntmps46
    go_wp2
    go_ret2
    exact ⟨rfl, rfl⟩
theorem blks_take (pass salt : List Int) (R K j : Nat) (h : K ≤ 32 * j) : (blksS pass salt R j).take K = stretchS pass salt R K := by
  unfold stretchS
  rw [← blksS_prefix pass salt R ((K + 31) / 32) j (by omega), List.take_take, Nat.min_eq_left (by omega)]
theorem ow_ge {w : World} {base : Nat} {u : Value} {xs : List Int} (h : Ow w base u xs) : ∀ k, u.ownBlock = some k → base ≤ k := fun k hk => by
  obtain ⟨inner, hi⟩ := Kd.R_own h
  exact own_base hi k hk
set_option maxHeartbeats 8000000 in
set_option maxRecDepth 100000 in
theorem refKey46_c {A B : Option Addr} {n c m d : Nat} {pass salt : List Int} {r k : Int} {w : World} (hr : Rd w A n c pass) (hB : IsB pass) (hn : n ≤ 140737488351232) (hr' : Rd w B m d salt) (hS : IsB salt) (hm : m ≤ 140737488340000) (h1 : 1 ≤ r) (h2 : r ≤ 4096) (h3 : 0 ≤ k) (h4 : k ≤ 256) :
    Calls Tryd.prog 46 #[.slice A n c, .slice B m d, .int .i64 r, .int .i64 k] w fun e w' => ∃ A' c', e = .returned (.tuple #[.slice A' k.toNat c', .int .i64 0]) ∧ Rd w' A' k.toNat c' (stretchS pass salt r.toNat k.toNat) ∧ Below w.heap.size w w' := by
  obtain ⟨R, rfl⟩ : ∃ R : Nat, r = (R : Int) + 1 := ⟨r.toNat - 1, by omega⟩
  obtain ⟨K, rfl⟩ := Int.eq_ofNat_of_zero_le h3
  have hRR : ((R : Int) + 1).toNat = R + 1 := by omega
  rw [hRR, Int.toNat_natCast]
  have q1 : ¬ (R : Int) + 1 < 1 := by omega
  have q2 : ¬ (K : Int) < 0 := by omega
  have hR4 : R ≤ 4095 := by omega
  have hK2 : K ≤ 256 := by omega
  have HLS := Aside0.mk hr'.len
  have H0 : Aside0 (Ow w w.heap.size (.slice none 0 0) (blksS pass salt (R + 1) 0)) := ⟨Kd.R_nil _ _ _ _ _⟩
  clear hRR
  go_enter Tryd.func46, Tryd.ntmps46
  go_wp2_with fail
  go_loopw [10, 11] (fun v i wr => ∃ (j : Nat) (u : Value), j ≤ (K + 31) / 32 ∧ i = .int .i64 ((j : Int) + 1) ∧ u = v ∧ Aside0 (Ow wr w.heap.size u (blksS pass salt (R + 1) j)) ∧ Below w.heap.size w wr) (fun _ i _ => (K + 31) / 32 + 1 - (intOf i).toNat)
  case atStart => exact ⟨0, _, by omega, rfl, rfl, H0, Below.refl _ _⟩
  case round =>
    clear H0
    obtain ⟨j, u, hj, rfl, rfl, hV, hb⟩ := hrel
    obtain ⟨A1, c1, rfl, r1⟩ := rd_of_own hV.out
    have hbl := blksS_length pass salt (R + 1) j
    rw [hbl] at hV r1 ⊢
    have HBL := Aside0.mk hbl
    clear hbl
    by_cases hlt : 32 * j < K
    · have hlt' : 32 * (j : Int) < (K : Int) := by omega
      have hj8 : (j : Int) ≤ 8 := by omega
      have htl := told_length 4 ((j : Int) + 1)
      have htI := told_isB 4 ((j : Int) + 1)
      have hbk : blkS pass salt (R + 1) (j + 1) = sumS pass (tagS pass (salt ++ told 4 ((j : Int) + 1))) R := by unfold blkS; push_cast; rfl
      have hnx : blksS pass salt (R + 1) j ++ blkS pass salt (R + 1) (j + 1) = blksS pass salt (R + 1) (j + 1) := rfl
      rw [hbk] at hnx
      have HX0 : Aside0 (told 4 ((j : Int) + 1) = told 4 ((j : Int) + 1)) := ⟨rfl⟩
      obtain ⟨X, HX⟩ : ∃ X, Aside0 (told 4 ((j : Int) + 1) = X) := ⟨_, ⟨rfl⟩⟩
      rw [HX.out] at htl htI hnx
      have HXL := Aside0.mk htl
      have hu0 := tagS_length pass (salt ++ X)
      have hiu0 := tagS_isB pass (salt ++ X)
      obtain ⟨u0, HU0⟩ : ∃ u0, Aside0 (tagS pass (salt ++ X) = u0) := ⟨_, ⟨rfl⟩⟩
      rw [HU0.out] at hu0 hiu0 hnx
      have HUL := Aside0.mk hu0
      have HNX := Aside0.mk hnx
      clear hbk hnx htl hu0 r1 HX0
      go_wp2_with fail
      refine (Told_c (by omega) (by omega) 4 (by omega) rfl).mono ?_
      rintro x w1 ⟨v1, rfl, ho1, hb1⟩
      rw [HX.out] at ho1
      obtain ⟨A2, c2, rfl, r2⟩ := rd_of_own ho1
      rw [HXL.out] at r2 ⊢
      clear ho1
      have hB1 := below_next hb hb1
      go_wp2_with fail
      refine (join33_c (hr'.below hB1) r2 (by omega)).mono ?_
      rintro x w2 ⟨v2, rfl, ho2, hb2⟩
      obtain ⟨A3, c3, rfl, r3⟩ := rd_of_own ho2
      have hl3 : (salt ++ X).length = m + 4 := by rw [List.length_append, HLS.out, HXL.out]
      rw [hl3] at r3 ⊢
      clear ho2 hl3
      have hB2 := below_next hB1 hb2
      go_wp2_with fail
      refine (reftag36_c (hr.below hB2) hB hn r3 (isB_append hS htI) (by omega)).mono ?_
      rintro x w3 ⟨v3, rfl, ho3, hb3⟩
      rw [HU0.out] at ho3
      obtain ⟨A4, c4, rfl, r4⟩ := rd_of_own ho3
      rw [HUL.out] at ho3 r4 ⊢
      have hB3 := below_next hB2 hb3
      have hV3 := Kd.R_below (Kd.R_below (Kd.R_below hV.out hb1) hb2) hb3
      have hrA := r4.alloc (.cells #[] 5)
      have hbE : Below w3.heap.size w3 (w3.alloc (.cells #[] 5)) := (Below.refl _ _).alloc (Nat.le_refl _) _
      have hlt3 := ow_lt ho3
      have HV3 := Aside0.mk hV3
      have HO3 := Aside0.mk ho3
      clear r3 r2 hV hV3 r4 ho3
      go_wp2_with (first
        | (at_builtin; refine append_ow (w0 := w3) w3.heap.size rfl (.tmp 41) (.tmp 42) rfl (.slice (some ⟨w3.heap.size, 0, none⟩) 0 0) [] u0 A4 32 c4 rfl rfl (ow_empty w3 _ (Nat.le_refl _)) hrA hbE (by simp) (by simp) ?_; intro v5 w5 ho5 hb5 hx5 hy5; clear hx5 hy5; rw [List.nil_append] at ho5; obtain ⟨A5, c5, rfl, r5⟩ := rd_of_own ho5; rw [HUL.out] at ho5 r5 ⊢; have HO5 := Aside0.mk ho5; have hge5 := ow_ge ho5; clear r5 ho5))
      have hO4 : Aside0 (Ow w5 w.heap.size (.slice A4 32 c4) (stepS pass u0 0)) := ⟨Kd.R_lower (Kd.R_below HO3.out hb5) hB2.size⟩
      have hO5 : Aside0 (Ow w5 w3.heap.size (.slice A5 32 c5) (sumS pass u0 0)) := ⟨HO5.out⟩
      have hne : Aside0 (∀ k, (Value.slice A4 32 c4).ownBlock = some k → some k ≠ (Value.slice A5 32 c5).ownBlock) := ⟨fun k hk e => by have := hlt3 k hk; have := hge5 k e.symm; omega⟩
      have HGE5 := Aside0.mk hge5
      clear HO3 HO5 hlt3 hrA hbE hge5
      go_loopw [14, 12] (fun i v wr => ∃ (T : Nat) (A6 : Option Addr) (c6 : Nat), T ≤ R ∧ i = .int .i64 ((T : Int) + 2) ∧ .slice A6 32 c6 = v ∧ Aside0 (Ow wr w.heap.size (.slice A6 32 c6) (stepS pass u0 T)) ∧ Aside0 (Ow wr w3.heap.size (.slice A5 32 c5) (sumS pass u0 T)) ∧ Aside0 (∀ k, (Value.slice A6 32 c6).ownBlock = some k → some k ≠ (Value.slice A5 32 c5).ownBlock) ∧ Below w3.heap.size w3 wr) (fun i _ _ => R + 2 - (intOf i).toNat)
      case atStart => exact ⟨0, _, _, by omega, rfl, rfl, hO4, hO5, hne, hb5⟩
      case round =>
        clear hO4 hO5 hne hb5
        obtain ⟨T, A6, c6, hT, rfl, rfl, hU, hX, hN, hb⟩ := hrel
        have hB4 := below_next hB3 hb
        by_cases hlt2 : T < R
        · have hlt2' : (T : Int) + 2 ≤ (R : Int) + 1 := by omega
          have hlu' := stepS_length pass u0 HUL.out (T + 1)
          have hlu := stepS_length pass u0 HUL.out T
          have hls := sumS_length pass u0 HUL.out T
          have hiu := stepS_isB pass u0 hiu0 T
          have HNS : Aside0 (sumS pass u0 (T + 1) = xorL (sumS pass u0 T) (stepS pass u0 (T + 1))) := ⟨rfl⟩
          have HNU : Aside0 (tagS pass (stepS pass u0 T) = stepS pass u0 (T + 1)) := ⟨rfl⟩
          obtain ⟨U, HU⟩ : ∃ U, Aside0 (stepS pass u0 T = U) := ⟨_, ⟨rfl⟩⟩
          obtain ⟨V, HV⟩ : ∃ V, Aside0 (stepS pass u0 (T + 1) = V) := ⟨_, ⟨rfl⟩⟩
          obtain ⟨S, HS⟩ : ∃ S, Aside0 (sumS pass u0 T = S) := ⟨_, ⟨rfl⟩⟩
          rw [HU.out] at hU hlu hiu HNU
          rw [HV.out] at hlu' HNS HNU
          rw [HS.out] at hX hls HNS
          have HLU := Aside0.mk hlu
          have HLV := Aside0.mk hlu'
          have HLS' := Aside0.mk hls
          have hrU := (Kd.R_reads' hU.out)
          have hrU' : Rd wr A6 32 c6 U := ⟨HLU.out, hrU.2.1, by have := hrU.2.2; rwa [HLU.out] at this⟩
          clear hlu hlu' hls hrU hN
          go_wp2_with fail
          refine (reftag36_c (hr.below hB4) hB hn hrU' hiu (by omega)).mono ?_
          rintro x w6 ⟨v6, rfl, ho6, hb6⟩
          rw [HNU.out] at ho6
          obtain ⟨A7, c7, rfl, r7⟩ := rd_of_own ho6
          rw [HLV.out] at ho6 ⊢
          have hB6 := below_next hb hb6
          have hX6 := Kd.R_below hX.out hb6
          have hge7 := ow_ge ho6
          have hlt5 := ow_lt hX.out
          have hX6' : Aside0 (Ow w6 w3.heap.size (.slice A5 32 c5) (xorP S V 0)) := ⟨by rw [xorP_zero]; exact hX6⟩
          have hne7 : Aside0 (∀ k, (Value.slice A7 32 c7).ownBlock = some k → some k ≠ (Value.slice A5 32 c5).ownBlock) := ⟨fun k hk e => by have := hge7 k hk; have := hlt5 k e.symm; omega⟩
          have HO6 : Aside0 (Ow w6 w.heap.size (.slice A7 32 c7) V) := ⟨Kd.R_lower ho6 hB4.size⟩
          clear r7 hX hU hrU' ho6 hX6 hge7 hlt5 HNU
          go_wp2_with fail
          go_loopw [15] (fun i wq => ∃ J : Nat, J ≤ 32 ∧ i = .int .i64 J ∧ Aside0 (Ow wq w3.heap.size (.slice A5 32 c5) (xorP S V J)) ∧ Aside0 (Ow wq w.heap.size (.slice A7 32 c7) V) ∧ Below w3.heap.size w3 wq) (fun i _ => 32 - (intOf i).toNat)
          case atStart => exact ⟨0, by omega, rfl, hX6', HO6, hB6⟩
          case round =>
            clear hX6' HO6 hB6
            obtain ⟨J, hJ, rfl, hX, hO, hbq⟩ := hrel
            by_cases hlj : J < 32
            · have hlj' : (J : Int) < 32 := by omega
              have hsv : S.length = V.length := by rw [HLS'.out, HLV.out]
              have hxl := xorP_length S V hsv J
              rw [HLS'.out] at hxl
              have hxo := Kd.own_of_R hX.out
              rw [hxl] at hxo
              obtain ⟨gx, rfl⟩ : ∃ gx, A5 = some ⟨gx, 0, none⟩ := by
                rcases hxo.2 with ⟨_, h0⟩ | ⟨g', cap', cur, hv, _⟩
                · omega
                · injection hv with hv; exact ⟨g', hv⟩
              have hoo := Kd.own_of_R hO.out
              rw [HLV.out] at hoo
              obtain ⟨gv, rfl⟩ : ∃ gv, A7 = some ⟨gv, 0, none⟩ := by
                rcases hoo.2 with ⟨_, h0⟩ | ⟨g', cap', cur, hv, _⟩
                · omega
                · injection hv with hv; exact ⟨g', hv⟩
              have hat := own_at (k := .u8) (xs := xorP S V J) hxo (J : Int) (by omega) (by omega)
              have hav := own_at (k := .u8) (xs := V) hoo (J : Int) (by omega) (by omega)
              simp only [Int.toNat_natCast] at hat hav
              have hgd : rd (xorP S V J) J = S.getD J 0 := by
                have := xorP_getD S V hsv J (by rw [HLS'.out]; exact hlj)
                simpa [rd] using this
              have hgd2 : rd V J = V.getD J 0 := by simp [rd]
              rw [hgd] at hat
              rw [hgd2] at hav
              obtain ⟨hc1, hf1⟩ := hat
              obtain ⟨hc2, hf2⟩ := hav
              have hset := xorP_set S V hsv J (by rw [HLS'.out]; exact hlj)
              have hst := own_store (k := .u8) (xs := xorP S V J) hxo (J : Int) (xor8 (S.getD J 0) (V.getD J 0))
              simp only [Int.toNat_natCast] at hst
              rw [hset] at hst
              generalize S.getD J 0 = x1 at *
              generalize V.getD J 0 = x2 at *
              have HX' : Aside0 (Ow (wr.setCell ⟨gx, J, none⟩ (.int .u8 (bits BinOp.xor IntKind.u8 x1 x2))) w3.heap.size (.slice (some ⟨gx, 0, none⟩) 32 c5) (xorP S V (J + 1))) := ⟨Kd.R_of_own (by rw [xorP_length S V hsv, HLS'.out]; exact hst.1) (fun _ _ => trivial)⟩
              have HO' : Aside0 (Ow (wr.setCell ⟨gx, J, none⟩ (.int .u8 (bits BinOp.xor IntKind.u8 x1 x2))) w.heap.size (.slice (some ⟨gv, 0, none⟩) 32 c7) V) := ⟨Kd.R_grown2 hO.out rfl hst.2 (fun k hk e => hne7.out k e.symm hk.symm)⟩
              have hB' : Below w3.heap.size w3 (wr.setCell ⟨gx, J, none⟩ (.int .u8 (bits BinOp.xor IntKind.u8 x1 x2))) := hbq.grown hst.2 hbq.size HGE5.out
              clear hxo hst hoo hset hgd hgd2 hsv hxl hX hO
              go_wp2_with fail
              go_region
              have HX'' := Aside0.mk (Kd.R_drew HX'.out)
              have HO'' := Aside0.mk (Kd.R_drew HO'.out)
              clear HX' HO'
              go_wp2_with fail
              go_roundw
              case rel => exact ⟨J + 1, by omega, by go_num, HX'', HO'', hB'.drew⟩
              case measure => simp [intOf]; omega
            · have hge : ¬ (J : Int) < 32 := by omega
              have h32 : J = 32 := by omega
              have hX' := hX.out
              rw [h32, xorP_full S V 32 (by rw [HLS'.out, HLV.out]) HLS'.out, ← HNS.out] at hX'
              have hO' := hO.out
              rw [← HV.out] at hO'
              have HX' := Aside0.mk hX'
              have HO' := Aside0.mk hO'
              clear h32 hX' hO' hX hO
              go_wp2_with fail
              go_roundw
              case rel => exact ⟨T + 1, A7, c7, by omega, by go_num, rfl, HO', HX', hne7, hbq⟩
              case measure => simp [intOf]; omega
        · have hge : ¬ (T : Int) + 2 ≤ (R : Int) + 1 := by omega
          have hTR : T = R := by omega
          have hX' := hX.out
          rw [hTR] at hX'
          have hls := sumS_length pass u0 HUL.out R
          obtain ⟨S, HS⟩ : ∃ S, Aside0 (sumS pass u0 R = S) := ⟨_, ⟨rfl⟩⟩
          have hnx := HNX.out
          rw [HS.out] at hX' hls hnx
          have HNX' := Aside0.mk hnx
          have hrX := Kd.R_reads' hX'
          have hrX' : Rd wr A5 32 c5 S := ⟨hls, hrX.2.1, by have := hrX.2.2; rwa [hls] at this⟩
          have hV4 := Kd.R_below HV3.out hb
          clear hls hTR hX hU hX' hnx hrX hN HNX
          go_wp2_with (first
            | (at_builtin; refine append_ow (w0 := w) w.heap.size rfl (.tmp 68) (.tmp 69) rfl (.slice A1 (32 * j) c1) (blksS pass salt (R + 1) j) S A5 32 c5 rfl rfl hV4 hrX' hB4 hB4.size (by rw [HBL.out]; omega) ?_; intro v7 w7 ho7 hb7 hx7 hy7; clear hx7 hy7; rw [HNX'.out] at ho7; have HO7 := Aside0.mk ho7; clear ho7))
          go_roundw
          case rel => exact ⟨j + 1, v7, by omega, by go_num, rfl, HO7, hb7⟩
          case measure => simp [intOf]; omega
    · have hge : ¬ 32 * (j : Int) < (K : Int) := by omega
      obtain ⟨hcut, hrd⟩ := rd_slice_to r1 K (y := (K : Int)) rfl (by omega)
      rw [blks_take pass salt (R + 1) K j (by omega)] at hrd
      have HRD := Aside0.mk hrd
      clear hrd r1 hV
      go_wp2_with fail
      go_ret2
      exact ⟨A1, c1, rfl, HRD.out, hb⟩
end Go.Proofs.YtmmbonlidcbkcaaDoor.StC
