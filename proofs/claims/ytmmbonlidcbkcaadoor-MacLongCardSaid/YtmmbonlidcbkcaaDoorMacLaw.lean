/- What the statements of the keyed sums lean on. -/
import Derived.Test.YtmmbonlidcbkcaaDoorMacTag
import Derived.Lib.SlBytesConst
namespace Go.Proofs.YtmmbonlidcbkcaaDoor.MacLaw
open Go.RowKit Go.Proofs.YtmmbonlidcbkcaaDoorW.PrintWords Go.Proofs.YtmmbonlidcbkcaaDoor.Num Go.Proofs.YtmmbonlidcbkcaaDoor.Sha Go.Proofs.YtmmbonlidcbkcaaDoor.Hmac Go.Proofs.YtmmbonlidcbkcaaDoor.WordC Go.Proofs.YtmmbonlidcbkcaaDoor.Arr Go.Proofs.YtmmbonlidcbkcaaDoor.App Go.Proofs.YtmmbonlidcbkcaaDoor.DgC Go.Proofs.YtmmbonlidcbkcaaDoor.DgBlock Go.Proofs.YtmmbonlidcbkcaaDoor.DgState Go.Proofs.YtmmbonlidcbkcaaDoor.DgAdd Go.Proofs.YtmmbonlidcbkcaaDoor.DgSum Go.Proofs.YtmmbonlidcbkcaaDoor.DgOf Go.Proofs.YtmmbonlidcbkcaaDoor.DgLaw Go.Proofs.YtmmbonlidcbkcaaDoor.DgWords Go.Proofs.YtmmbonlidcbkcaaDoor.MacC Go.Proofs.YtmmbonlidcbkcaaDoor.DgCopy Go.Proofs.YtmmbonlidcbkcaaDoor.MacNew Go.Proofs.YtmmbonlidcbkcaaDoor.MacTag
set_option linter.unusedVariables false
set_option linter.unusedSimpArgs false
set_option maxHeartbeats 1000000 in
theorem own35_c {A : Option Addr} {n c : Nat} {l : List Int} {w : World} (hr : Rd w A n c l) (hn : n ≤ 140737488351232) :
    Calls Tryd.prog 35 #[.slice A n c] w fun e w' => ∃ v, e = .returned v ∧ Ow w' w.heap.size v l ∧ Below w.heap.size w w' := by
  have hrA := hr.alloc (.cells #[] 5)
  have hbE : Below w.heap.size w (w.alloc (.cells #[] 5)) := (Below.refl _ _).alloc (Nat.le_refl _) _
  go_enter Tryd.func35, Tryd.ntmps35
  go_wp2_with (first
    | (at_builtin; refine append_ow (w0 := w) w.heap.size rfl (.tmp 3) (.tmp 4) rfl (.slice (some ⟨w.heap.size, 0, none⟩) 0 0) [] l A n c rfl rfl (ow_empty w _ (Nat.le_refl _)) hrA hbE (by simp) (by simp; omega) ?_; intro v1 w1 ho1 hb1 hx1 hy1; clear hx1 hy1; rw [List.nil_append] at ho1; have HO := Aside0.mk ho1; clear ho1))
  go_ret
  exact ⟨_, rfl, HO.out, hb1⟩
set_option maxHeartbeats 2000000 in
set_option maxRecDepth 100000 in
theorem is37_c {A : Option Addr} {n c : Nat} {l S : List Int} {w : World} (hr : Rd w A n c l) (hB : IsB l) (hS : IsB S) (hl : S.length = 32) :
    Calls Tryd.prog 37 #[.agg (nums .u8 S).toArray, .slice A n c] w fun e w' => e = .returned (.bool (eqB S l)) ∧ Below w.heap.size w w' := by
  have hb1 : Below w.heap.size w (w.alloc (.cells (nums .u8 S).toArray 27)) := (Below.refl _ _).alloc (Nat.le_refl _) _
  have hq1 := (rd_blk32 (heap_alloc_new w (.cells (nums .u8 S).toArray 27)) hl).drew
  have hq2 := (hr.below hb1).drew
  have s1 := rd_string hq1
  have s2 := rd_string hq2
  have HS := Aside0.mk hl
  clear hq1 hq2 hl
  go_enter Tryd.func37, Tryd.ntmps37
  go_wp2_with fail
  go_region_held3 (fun w' => (convert 22 9 (.slice (some ⟨w.heap.size, 0, none⟩) 32 32)).run Tryd.prog w' = .ok (.string (strOfNums S)) w' ∧ (convert 22 9 (.slice A n c)).run Tryd.prog w' = .ok (.string (strOfNums l)) w')
    (first | exact ⟨s1, s2⟩)
    (fail)
  go_wp2_with fail
  go_ret
  exact ⟨congrArg (fun b => Ending.returned (Value.bool b)) (str_eq hS hB), hb1.drew⟩
theorem own_ne {a b : Option Nat} (h : a = none ∨ a ≠ b) (k : Nat) (hk : b = some k) : some k ≠ a := by
  rcases h with e | e
  · rw [e]; intro h; cases h
  · rw [← hk]; exact Ne.symm e
theorem rd_at {w : World} {A : Option Addr} {n c : Nat} {l : List Int} (h : Rd w A n c l) (T : Nat) (hT : T < n) : ∃ ad, A = some ad ∧ w.cell? (ad.add T) = some (.int .u8 (l.getD T 0)) := by
  obtain ⟨ad, cs, e, hl, hK, hcell⟩ := Kd.C_get h.cells (0 : Int) (T : Int) (by omega) (by omega)
  have hK' : cs = [.int .u8 (l.getD T 0)] := hK
  subst hK'
  have h2 := hcell 0 _ rfl
  refine ⟨ad, e, ?_⟩
  have e2 : ((T : Int).toNat * (Kd.int .u8).sz + 0) = T := Nat.mul_one T
  rw [e2] at h2
  exact h2
/-- One part under a key. -/
theorem Tag1_c {base kb : Nat} {key : List Int} {A : Option Addr} {n c : Nat} {k : Nat} {l : List Int} {w : World} (hk : k = w.heap.size) (hK : Ky w base kb key) (hr : Rd w A n c l) (hB : IsB l) (hl : n ≤ 140737488350000) (ht : Tb w) :
    Calls Tryd.prog 40 #[.pointer (some ⟨kb, 0, none⟩), .slice (some ⟨k, 0, none⟩) 1 1] (w.alloc (.cells #[.slice A n c] 22)) fun e w' => e = .returned (.agg (nums .u8 (tagS key l)).toArray) ∧ Below w.heap.size w w' := by
  subst hk
  have hb0 : Below w.heap.size w (w.alloc (.cells #[.slice A n c] 22)) := (Below.refl _ w).alloc (Nat.le_refl _) _
  refine (Tag_c (hK.below hb0) (pt_one hr) (isB_one hB) (by rw [flat_one, hr.len]; omega) (ht.below hb0)).mono ?_
  rintro e w' ⟨rfl, hb⟩
  rw [flat_one]
  exact ⟨rfl, hb0.trans (hb.mono (by simp))⟩
set_option maxHeartbeats 2000000 in
set_option maxRecDepth 100000 in
theorem tag38_c {A B : Option Addr} {n c m d : Nat} {key : List Int} {ll : List (List Int)} {w : World} (hr : Rd w A n c key) (hB : IsB key) (hn : n ≤ 140737488351232) (hP : Pt w B m d ll) (hI : ∀ l ∈ ll, IsB l) (hl : 64 + ll.flatten.length ≤ 140737488351232) (ht : Tb w) :
    Calls Tryd.prog 38 #[.slice A n c, .slice B m d] w fun e w' => e = .returned (.agg (nums .u8 (tagS key ll.flatten)).toArray) ∧ Below w.heap.size w w' := by
  go_enter Tryd.func38, Tryd.ntmps38
  go_upto_region 1 with (fail)
  generalize hW : w.alloc _ = W0
  have hB0 : Below w.heap.size w W0 := by rw [← hW]; exact (Below.refl _ w).alloc (Nat.le_refl _) _
  have hO : Aside0 (Blk W0 w.heap.size 27 (nums .u8 (List.replicate 32 0))) := ⟨by rw [← hW]; exact heap_alloc_new _ _⟩
  clear hW
  have ht0 := ht.below hB0
  go_wp2_with fail
  refine (New_c (hr.below hB0) hB hn ht0).mono ?_
  rintro x w1 ⟨kb, rfl, hK, hb1⟩
  have hB1 := below_next hB0 hb1
  have ht1 := ht0.below hb1
  go_wp2_with fail
  refine (Tag_c hK (hP.below hB1) hI hl ht1).mono ?_
  rintro x w2 ⟨rfl, hb2⟩
  have hB2 := below_next hB1 hb2
  have hO2 := Blk.below hO.out (below_next hb1 hb2)
  have hl32 := tagS_length key ll.flatten
  obtain ⟨T, HT⟩ : ∃ T, Aside0 (tagS key ll.flatten = T) := ⟨_, ⟨rfl⟩⟩
  rw [HT.out] at hl32
  rw [HT.out]
  have HL := Aside0.mk hl32
  clear hl32
  go_wp2_with (first
    | (refine store_arr rfl 27 (.tmp 4) (.tmp 8) rfl w.heap.size .u8 T rfl rfl 27 32 _ hO2 size27 HL.out (by rw [nums_length]; rfl) ?_; intro w12 hO12 hg12; have HO12 := Aside0.mk hO12; clear hO12))
  refine bodyPost_ret (v := .agg (nums .u8 T).toArray) ?_ rfl ⟨by rw [HT.out], hB2.grown hg12 hB2.size (fun k hk => by cases hk; exact Nat.le_refl _)⟩
  refine results_arr (p := 4) (ty := 27) (h := ?_) (g := w.heap.size) (t := 27) (n := 32) (e := 5) (k := .u8) (l := T) (hp := ?_) (hg := HO12.out) (hu := Tryd.underlying27) (hi := size27) (hl := HL.out) ..
  · rfl
  · rfl
theorem tag38_1 {A B : Option Addr} {n c m d k : Nat} {key l : List Int} {w : World} (hk : k = w.heap.size) (hr : Rd w A n c key) (hB : IsB key) (hn : n ≤ 140737488351232) (hr' : Rd w B m d l) (hI : IsB l) (hl : m ≤ 140737488350000) (ht : Tb w) :
    Calls Tryd.prog 38 #[.slice A n c, .slice (some ⟨k, 0, none⟩) 1 1] (w.alloc (.cells #[.slice B m d] 22)) fun e w' => e = .returned (.agg (nums .u8 (tagS key l)).toArray) ∧ Below w.heap.size w w' := by
  subst hk
  have hb0 : Below w.heap.size w (w.alloc (.cells #[.slice B m d] 22)) := (Below.refl _ w).alloc (Nat.le_refl _) _
  refine (tag38_c (hr.below hb0) hB hn (pt_one hr') (isB_one hI) (by rw [flat_one, hr'.len]; omega) (ht.below hb0)).mono ?_
  rintro e w' ⟨rfl, hb⟩
  rw [flat_one]
  exact ⟨rfl, hb0.trans (hb.mono (by simp))⟩
theorem tag38_2 {A B C : Option Addr} {n c m d p q k : Nat} {key l l' : List Int} {w : World} (hk : k = w.heap.size) (hr : Rd w A n c key) (hB : IsB key) (hn : n ≤ 140737488351232) (hr' : Rd w B m d l) (hr2 : Rd w C p q l') (hI : IsB l) (hI' : IsB l') (hl : m + p ≤ 140737488350000) (ht : Tb w) :
    Calls Tryd.prog 38 #[.slice A n c, .slice (some ⟨k, 0, none⟩) 2 2] (w.alloc (.cells #[.slice B m d, .slice C p q] 22)) fun e w' => e = .returned (.agg (nums .u8 (tagS key (l ++ l'))).toArray) ∧ Below w.heap.size w w' := by
  subst hk
  have hb0 : Below w.heap.size w (w.alloc (.cells #[.slice B m d, .slice C p q] 22)) := (Below.refl _ w).alloc (Nat.le_refl _) _
  refine (tag38_c (hr.below hb0) hB hn (pt_two hr' hr2) (isB_two hI hI') (by rw [flat_two, List.length_append, hr'.len, hr2.len]; omega) (ht.below hb0)).mono ?_
  rintro e w' ⟨rfl, hb⟩
  rw [flat_two]
  exact ⟨rfl, hb0.trans (hb.mono (by simp))⟩
set_option maxHeartbeats 1000000 in
theorem join33_c {A B : Option Addr} {n c m d : Nat} {l l' : List Int} {w : World} (hr : Rd w A n c l) (hr' : Rd w B m d l') (hn : n + m ≤ 140737488351232) :
    Calls Tryd.prog 33 #[.slice A n c, .slice B m d] w fun e w' => ∃ v, e = .returned v ∧ Ow w' w.heap.size v (l ++ l') ∧ Below w.heap.size w w' := by
  have hrA := hr.alloc (.cells #[] 5)
  have hbE : Below w.heap.size w (w.alloc (.cells #[] 5)) := (Below.refl _ _).alloc (Nat.le_refl _) _
  have hln := hr.len
  have HLN := Aside0.mk hln
  clear hln
  go_enter Tryd.func33, Tryd.ntmps33
  go_wp2_with (first
    | (at_builtin; refine append_ow (w0 := w) w.heap.size rfl (.tmp 5) (.tmp 6) rfl (.slice (some ⟨w.heap.size, 0, none⟩) 0 0) [] l A n c rfl rfl (ow_empty w _ (Nat.le_refl _)) hrA hbE (by simp) (by simp; omega) ?_; intro v1 w1 ho1 hb1 hx1 hy1; clear hx1 hy1; rw [List.nil_append] at ho1; have HO := Aside0.mk ho1; clear ho1; have hr2 := hr'.below hb1; have hz1 := hb1.size)
    | (at_builtin; refine append_ow (w0 := w) w.heap.size rfl (.tmp 7) (.tmp 8) rfl v1 l l' B m d rfl rfl HO.out hr2 hb1 hz1 (by have := HLN.out; omega) ?_; intro v2 w2 ho2 hb2 hx2 hy2; clear hx2 hy2; have HO2 := Aside0.mk ho2; clear ho2))
  go_ret
  exact ⟨_, rfl, HO2.out, hb2⟩

end Go.Proofs.YtmmbonlidcbkcaaDoor.MacLaw
namespace Go.Proofs.YtmmbonlidcbkcaaDoor.MacRef
open Go.RowKit Go.Proofs.YtmmbonlidcbkcaaDoorW.PrintWords Go.Proofs.YtmmbonlidcbkcaaDoor.Num Go.Proofs.YtmmbonlidcbkcaaDoor.Sha Go.Proofs.YtmmbonlidcbkcaaDoor.Hmac Go.Proofs.YtmmbonlidcbkcaaDoor.WordC Go.Proofs.YtmmbonlidcbkcaaDoor.Arr Go.Proofs.YtmmbonlidcbkcaaDoor.App Go.Proofs.YtmmbonlidcbkcaaDoor.DgC Go.Proofs.YtmmbonlidcbkcaaDoor.DgBlock Go.Proofs.YtmmbonlidcbkcaaDoor.DgState Go.Proofs.YtmmbonlidcbkcaaDoor.DgAdd Go.Proofs.YtmmbonlidcbkcaaDoor.DgSum Go.Proofs.YtmmbonlidcbkcaaDoor.DgOf Go.Proofs.YtmmbonlidcbkcaaDoor.DgLaw Go.Proofs.YtmmbonlidcbkcaaDoor.DgWords Go.Proofs.YtmmbonlidcbkcaaDoor.MacC Go.Proofs.YtmmbonlidcbkcaaDoor.DgCopy Go.Proofs.YtmmbonlidcbkcaaDoor.MacNew Go.Proofs.YtmmbonlidcbkcaaDoor.MacTag Go.Proofs.YtmmbonlidcbkcaaDoor.MacLaw
set_option linter.unusedVariables false
set_option linter.unusedSimpArgs false
theorem isB_append {l l' : List Int} (h : IsB l) (h' : IsB l') : IsB (l ++ l') := fun x hx => by
  rcases List.mem_append.1 hx with hx | hx
  · exact h x hx
  · exact h' x hx
/-- The key's byte T, when it is filled up with noughts. -/
theorem key64_lt (key : List Int) (T : Nat) (h : T < (keyS key).length) : (key64 key).getD T 0 = (keyS key).getD T 0 := by
  unfold key64; simp only [List.getD_eq_getElem?_getD]; rw [List.getElem?_append_left h]
theorem key64_ge (key : List Int) (T : Nat) (h : (keyS key).length ≤ T) : (key64 key).getD T 0 = 0 := by
  unfold key64; simp only [List.getD_eq_getElem?_getD]; rw [List.getElem?_append_right h, List.getElem?_replicate]; split <;> rfl
theorem pad_take (K : List Int) (y : Int) (T : Nat) (h : T < K.length) : (K.map (fun x => xor8 x y)).take T ++ [xor8 (K.getD T 0) y] = (K.map (fun x => xor8 x y)).take (T + 1) := by
  rw [List.take_add_one, List.getElem?_map, List.getElem?_eq_getElem h, List.getD_eq_getElem?_getD, List.getElem?_eq_getElem h]; rfl
set_option maxHeartbeats 8000000 in
set_option maxRecDepth 100000 in
/-- Behind the key's own sum: the bytes k64 hold the key. -/
theorem reftag36_c {A B : Option Addr} {n c m d : Nat} {key l : List Int} {w : World} (hr : Rd w A n c key) (hB : IsB key) (hn : n ≤ 140737488351232) (hr' : Rd w B m d l) (hI : IsB l) (hl : m ≤ 140737488350000) :
    Calls Tryd.prog 36 #[.slice A n c, .slice B m d] w fun e w' => ∃ v, e = .returned v ∧ Ow w' w.heap.size v (tagS key l) ∧ Below w.heap.size w w' := by
  have hk64 := key64_length key
  have hlt64 := key64_lt key
  have hge64 := key64_ge key
  have hkB := key64_isB hB
  have hln := hr.len
  have hlm := hr'.len
  have hT : Aside0 (tagS key l = shaS ((key64 key).map (fun x => xor8 x 92) ++ shaS ((key64 key).map (fun x => xor8 x 54) ++ l))) := ⟨rfl⟩
  have hks : keyS key = if 64 < key.length then shaS key else key := rfl
  obtain ⟨K, HK⟩ : ∃ K, Aside0 (key64 key = K) := ⟨_, ⟨rfl⟩⟩
  have HT : Aside0 (tagS key l = shaS (K.map (fun x => xor8 x 92) ++ shaS (K.map (fun x => xor8 x 54) ++ l))) := ⟨by rw [← HK.out]; exact hT.out⟩
  clear hT
  rw [HK.out] at hk64 hlt64 hge64 hkB
  by_cases h64 : 64 < n
  · have hgt : (64 : Int) < (n : Int) := by omega
    have hkk : keyS key = shaS key := by rw [hks, if_pos (by omega)]
    rw [hkk] at hlt64 hge64
    have hl32 := shaS_length key
    obtain ⟨S, HS⟩ : ∃ S, Aside0 (shaS key = S) := ⟨_, ⟨rfl⟩⟩
    rw [HS.out] at hlt64 hge64 hl32
    have HLT := Aside0.mk hlt64
    have HGE := Aside0.mk hge64
    have HKL := Aside0.mk hk64
    have HLN := Aside0.mk hln
    clear hks hlt64 hge64 hkk hk64
    go_enter Tryd.func36, Tryd.ntmps36
    go_wp2_with fail
    refine (RefOf.refof_c hr hB hn).mono ?_
    rintro x w1 ⟨v1, rfl, ho1, hb1⟩
    rw [HS.out] at ho1
    obtain ⟨A1, c1, rfl, r1⟩ := rd_of_own ho1
    rw [hl32] at r1 ⊢
    have HL32 := Aside0.mk hl32
    clear hl32 ho1
    go_wp2_with fail
    have P0 : Aside0 (Ow w1 w1.heap.size (.slice none 0 0) ((K.map (fun x => xor8 x 54)).take 0)) := ⟨Kd.R_nil _ _ _ _ _⟩
    have Q0 : Aside0 (Ow w1 w1.heap.size (.slice none 0 0) ((K.map (fun x => xor8 x 92)).take 0)) := ⟨Kd.R_nil _ _ _ _ _⟩
    have D0 : Aside0 ((Value.slice none 0 0).ownBlock = none ∨ (Value.slice none 0 0).ownBlock ≠ (Value.slice none 0 0).ownBlock) := ⟨.inl rfl⟩
    go_loopw [7, 5, 6] (fun i v5 v6 wr => ∃ (T : Nat) (a5 a6 : Value), T ≤ 64 ∧ i = .int .i64 T ∧ a5 = v5 ∧ a6 = v6 ∧ Aside0 (Ow wr w1.heap.size a5 ((K.map (fun x => xor8 x 54)).take T)) ∧ Aside0 (Ow wr w1.heap.size a6 ((K.map (fun x => xor8 x 92)).take T)) ∧ Aside0 (a6.ownBlock = none ∨ a6.ownBlock ≠ a5.ownBlock) ∧ Below w1.heap.size w1 wr) (fun i _ _ _ => 64 - (intOf i).toNat)
    case atStart => exact ⟨0, _, _, by omega, rfl, rfl, rfl, P0, Q0, D0, Below.refl _ w1⟩
    case round =>
      clear P0 Q0 D0
      obtain ⟨T, a5, a6, hT, rfl, rfl, rfl, h5, h6, hD, hb⟩ := hrel
      by_cases hlt : T < 64
      · have hlt' : (T : Int) < 64 := by omega
        have hp5 := pad_take K 54 T (by rw [HKL.out]; exact hlt)
        have hp6 := pad_take K 92 T (by rw [HKL.out]; exact hlt)
        have hl5 : ((K.map (fun x => xor8 x 54)).take T).length = T := by rw [List.length_take, List.length_map, HKL.out]; omega
        have hl6 : ((K.map (fun x => xor8 x 92)).take T).length = T := by rw [List.length_take, List.length_map, HKL.out]; omega
        have HL5 := Aside0.mk hl5
        have HL6 := Aside0.mk hl6
        have hz := hb.size
        clear hl5 hl6
        by_cases hkl : T < 32
        · have hkl' : (T : Int) < (32 : Int) := by omega
          obtain ⟨ad, rfl, hcell⟩ := rd_at (r1.below hb) T hkl
          rw [← HLT.out T (by have := HL32.out; omega)] at hcell
          generalize K.getD T 0 = x at hcell hp5 hp6
          have H5 := Aside0.mk hp5
          have H6 := Aside0.mk hp6
          clear hp5 hp6
          go_wp2_with (first
            | (at_builtin; refine append_ow (w0 := w1) w1.heap.size rfl (.tmp 26) (.tmp 29) rfl a5 ((K.map (fun x => xor8 x 54)).take T) [xor8 x 54] (some ⟨wr.heap.size, 0, none⟩) 1 1 rfl rfl (Kd.R_alloc h5.out _) (rd_one wr _) (hb.alloc hz _) (Nat.le_trans hz (by simp)) (by rw [HL5.out]; omega) ?_; intro v4 w4 ho4 hb4 hx4 hy4; rw [H5.out] at ho4; have HO4 := Aside0.mk ho4; have h6b : Aside0 (Ow w4 w1.heap.size a6 ((K.map (fun x => xor8 x 92)).take T)) := ⟨Kd.R_grown2 (Kd.R_alloc h6.out _) rfl hx4 (own_ne hD.out)⟩; have HD4 : Aside0 (a6.ownBlock = none ∨ a6.ownBlock ≠ v4.ownBlock) := ⟨own_symm (other' hy4 hD.out (ow_lt (Kd.R_alloc h6.out _)))⟩; have hz4 := hb4.size; clear ho4)
            | (at_builtin; refine append_ow (w0 := w1) w1.heap.size rfl (.tmp 31) (.tmp 34) rfl a6 ((K.map (fun x => xor8 x 92)).take T) [xor8 x 92] (some ⟨w4.heap.size, 0, none⟩) 1 1 rfl rfl (Kd.R_alloc h6b.out _) (rd_one w4 _) (hb4.alloc hz4 _) (Nat.le_trans hz4 (by simp)) (by rw [HL6.out]; omega) ?_; intro v7 w7 ho7 hb7 hx7 hy7; rw [H6.out] at ho7; have HO6 := Aside0.mk ho7; have HO5 : Aside0 (Ow w7 w1.heap.size v4 ((K.map (fun x => xor8 x 54)).take (T + 1))) := ⟨Kd.R_grown2 (Kd.R_alloc HO4.out _) rfl hx7 (own_ne (own_symm HD4.out))⟩; have HD6 : Aside0 (v7.ownBlock = none ∨ v7.ownBlock ≠ v4.ownBlock) := ⟨other' hy7 (own_symm HD4.out) (ow_lt (Kd.R_alloc HO4.out _))⟩; clear ho7))
          go_roundw
          case rel => exact ⟨T + 1, _, _, by omega, by go_num, rfl, rfl, HO5, HO6, HD6, hb7⟩
          case measure => simp [intOf]; omega
        · have hkl' : ¬ (T : Int) < (32 : Int) := by omega
          rw [HGE.out T (by have := HL32.out; omega)] at hp5 hp6
          have H5 : Aside0 ((K.map (fun x => xor8 x 54)).take T ++ [54] = (K.map (fun x => xor8 x 54)).take (T + 1)) := ⟨hp5⟩
          have H6 : Aside0 ((K.map (fun x => xor8 x 92)).take T ++ [92] = (K.map (fun x => xor8 x 92)).take (T + 1)) := ⟨hp6⟩
          clear hp5 hp6
          go_wp2_with (first
            | (at_builtin; refine append_ow (w0 := w1) w1.heap.size rfl (.tmp 26) (.tmp 29) rfl a5 ((K.map (fun x => xor8 x 54)).take T) [54] (some ⟨wr.heap.size, 0, none⟩) 1 1 rfl rfl (Kd.R_alloc h5.out _) (rd_one wr _) (hb.alloc hz _) (Nat.le_trans hz (by simp)) (by rw [HL5.out]; omega) ?_; intro v4 w4 ho4 hb4 hx4 hy4; rw [H5.out] at ho4; have HO4 := Aside0.mk ho4; have h6b : Aside0 (Ow w4 w1.heap.size a6 ((K.map (fun x => xor8 x 92)).take T)) := ⟨Kd.R_grown2 (Kd.R_alloc h6.out _) rfl hx4 (own_ne hD.out)⟩; have HD4 : Aside0 (a6.ownBlock = none ∨ a6.ownBlock ≠ v4.ownBlock) := ⟨own_symm (other' hy4 hD.out (ow_lt (Kd.R_alloc h6.out _)))⟩; have hz4 := hb4.size; clear ho4)
            | (at_builtin; refine append_ow (w0 := w1) w1.heap.size rfl (.tmp 31) (.tmp 34) rfl a6 ((K.map (fun x => xor8 x 92)).take T) [92] (some ⟨w4.heap.size, 0, none⟩) 1 1 rfl rfl (Kd.R_alloc h6b.out _) (rd_one w4 _) (hb4.alloc hz4 _) (Nat.le_trans hz4 (by simp)) (by rw [HL6.out]; omega) ?_; intro v7 w7 ho7 hb7 hx7 hy7; rw [H6.out] at ho7; have HO6 := Aside0.mk ho7; have HO5 : Aside0 (Ow w7 w1.heap.size v4 ((K.map (fun x => xor8 x 54)).take (T + 1))) := ⟨Kd.R_grown2 (Kd.R_alloc HO4.out _) rfl hx7 (own_ne (own_symm HD4.out))⟩; have HD6 : Aside0 (v7.ownBlock = none ∨ v7.ownBlock ≠ v4.ownBlock) := ⟨other' hy7 (own_symm HD4.out) (ow_lt (Kd.R_alloc HO4.out _))⟩; clear ho7))
          go_roundw
          case rel => exact ⟨T + 1, _, _, by omega, by go_num, rfl, rfl, HO5, HO6, HD6, hb7⟩
          case measure => simp [intOf]; omega
      · have hge : ¬ (T : Int) < 64 := by omega
        have h64' : T = 64 := by omega
        have hO5 := h5.out
        have hO6 := h6.out
        rw [h64', List.take_of_length_le (by rw [List.length_map, HKL.out]; omega)] at hO5 hO6
        have hbw : Below w.heap.size w wr := below_next hb1 hb
        have hrl : Rd wr B m d l := hr'.below hbw
        have lp5 : (K.map (fun x => xor8 x 54)).length = 64 := by rw [List.length_map]; exact HKL.out
        have lp6 : (K.map (fun x => xor8 x 92)).length = 64 := by rw [List.length_map]; exact HKL.out
        have hI5 : IsB (K.map (fun x => xor8 x 54)) := fun x hx => by
          obtain ⟨z, hz, rfl⟩ := List.mem_map.1 hx
          exact xor8_range (hkB z hz) (by omega)
        have hI6 : IsB (K.map (fun x => xor8 x 92)) := fun x hx => by
          obtain ⟨z, hz, rfl⟩ := List.mem_map.1 hx
          exact xor8_range (hkB z hz) (by omega)
        have hT' := HT.out
        obtain ⟨P5, HP5⟩ : ∃ P, K.map (fun x => xor8 x 54) = P := ⟨_, rfl⟩
        obtain ⟨P6, HP6⟩ : ∃ P, K.map (fun x => xor8 x 92) = P := ⟨_, rfl⟩
        rw [HP5] at lp5 hI5 hO5 hT'
        rw [HP6] at lp6 hI6 hO6 hT'
        have HTT := Aside0.mk hT'
        obtain ⟨A5, c5, rfl, r5⟩ := rd_of_own hO5
        obtain ⟨A6, c6, rfl, r6⟩ := rd_of_own hO6
        rw [lp5] at r5 ⊢
        rw [lp6] at r6 ⊢
        have LP6 := Aside0.mk lp6
        have LP5 := Aside0.mk lp5
        have LM := Aside0.mk hlm
        clear hO5 hO6 h5 h6 hD hT' HT lp5 lp6 HP5 HP6
        go_wp2_with fail
        refine (join33_c r5 hrl (by omega)).mono ?_
        rintro x w7 ⟨v7, rfl, ho7, hb7⟩
        have l7 : (P5 ++ l).length = 64 + m := by rw [List.length_append, LP5.out, LM.out]
        have i7 := isB_append hI5 hI
        obtain ⟨M7, HM7⟩ : ∃ M, Aside0 (P5 ++ l = M) := ⟨_, ⟨rfl⟩⟩
        rw [HM7.out] at ho7 l7 i7
        obtain ⟨A7, c7, rfl, r7⟩ := rd_of_own ho7
        have hbw7 := below_next hbw hb7
        have r67 := r6.below hb7
        have L7 := Aside0.mk l7
        clear l7
        go_wp2_with fail
        refine (RefOf.refof_c r7 i7 (by rw [L7.out]; omega)).mono ?_
        rintro x w8 ⟨v8, rfl, ho8, hb8⟩
        have l8 := shaS_length M7
        have i8 := shaS_isB M7
        obtain ⟨M8, HM8⟩ : ∃ M, Aside0 (shaS M7 = M) := ⟨_, ⟨rfl⟩⟩
        rw [HM8.out] at ho8 l8 i8
        obtain ⟨A8, c8, rfl, r8⟩ := rd_of_own ho8
        have hbw8 := below_next hbw7 hb8
        rw [l8] at r8 ⊢
        have L8 := Aside0.mk l8
        clear l8
        have r68 := r67.below hb8
        go_wp2_with fail
        refine (join33_c r68 r8 (by omega)).mono ?_
        rintro x w9 ⟨v9, rfl, ho9, hb9⟩
        have l9 : (P6 ++ M8).length = 96 := by rw [List.length_append, LP6.out, L8.out]
        have i9 := isB_append hI6 i8
        obtain ⟨M9, HM9⟩ : ∃ M, Aside0 (P6 ++ M8 = M) := ⟨_, ⟨rfl⟩⟩
        rw [HM9.out] at ho9 l9 i9
        obtain ⟨A9, c9, rfl, r9⟩ := rd_of_own ho9
        have hbw9 := below_next hbw8 hb9
        have L9 := Aside0.mk l9
        clear l9
        go_wp2_with fail
        refine (RefOf.refof_c r9 i9 (by rw [L9.out]; omega)).mono ?_
        rintro x w10 ⟨v10, rfl, ho10, hb10⟩
        have HO10 : Aside0 (Ow w10 w.heap.size v10 (tagS key l)) := ⟨by rw [HTT.out, HM7.out, HM8.out, HM9.out]; exact Kd.R_lower ho10 hbw9.size⟩
        have hbw10 := below_next hbw9 hb10
        clear ho10
        go_wp2_with fail
        go_ret
        exact ⟨_, rfl, HO10.out, hbw10⟩

  · have hgt : ¬ (64 : Int) < (n : Int) := by omega
    have hkk : keyS key = key := by rw [hks, if_neg (by omega)]
    rw [hkk] at hlt64 hge64
    have HLT := Aside0.mk hlt64
    have HGE := Aside0.mk hge64
    have HKL := Aside0.mk hk64
    have HLN := Aside0.mk hln
    clear hks hlt64 hge64 hkk hk64
    go_enter Tryd.func36, Tryd.ntmps36
    go_wp2_with fail
    have P0 : Aside0 (Ow w w.heap.size (.slice none 0 0) ((K.map (fun x => xor8 x 54)).take 0)) := ⟨Kd.R_nil _ _ _ _ _⟩
    have Q0 : Aside0 (Ow w w.heap.size (.slice none 0 0) ((K.map (fun x => xor8 x 92)).take 0)) := ⟨Kd.R_nil _ _ _ _ _⟩
    have D0 : Aside0 ((Value.slice none 0 0).ownBlock = none ∨ (Value.slice none 0 0).ownBlock ≠ (Value.slice none 0 0).ownBlock) := ⟨.inl rfl⟩
    go_loopw [7, 5, 6] (fun i v5 v6 wr => ∃ (T : Nat) (a5 a6 : Value), T ≤ 64 ∧ i = .int .i64 T ∧ a5 = v5 ∧ a6 = v6 ∧ Aside0 (Ow wr w.heap.size a5 ((K.map (fun x => xor8 x 54)).take T)) ∧ Aside0 (Ow wr w.heap.size a6 ((K.map (fun x => xor8 x 92)).take T)) ∧ Aside0 (a6.ownBlock = none ∨ a6.ownBlock ≠ a5.ownBlock) ∧ Below w.heap.size w wr) (fun i _ _ _ => 64 - (intOf i).toNat)
    case atStart => exact ⟨0, _, _, by omega, rfl, rfl, rfl, P0, Q0, D0, Below.refl _ w⟩
    case round =>
      clear P0 Q0 D0
      obtain ⟨T, a5, a6, hT, rfl, rfl, rfl, h5, h6, hD, hb⟩ := hrel
      by_cases hlt : T < 64
      · have hlt' : (T : Int) < 64 := by omega
        have hp5 := pad_take K 54 T (by rw [HKL.out]; exact hlt)
        have hp6 := pad_take K 92 T (by rw [HKL.out]; exact hlt)
        have hl5 : ((K.map (fun x => xor8 x 54)).take T).length = T := by rw [List.length_take, List.length_map, HKL.out]; omega
        have hl6 : ((K.map (fun x => xor8 x 92)).take T).length = T := by rw [List.length_take, List.length_map, HKL.out]; omega
        have HL5 := Aside0.mk hl5
        have HL6 := Aside0.mk hl6
        have hz := hb.size
        clear hl5 hl6
        by_cases hkl : T < n
        · have hkl' : (T : Int) < (n : Int) := by omega
          obtain ⟨ad, rfl, hcell⟩ := rd_at (hr.below hb) T hkl
          rw [← HLT.out T (by have := HLN.out; omega)] at hcell
          generalize K.getD T 0 = x at hcell hp5 hp6
          have H5 := Aside0.mk hp5
          have H6 := Aside0.mk hp6
          clear hp5 hp6
          go_wp2_with (first
            | (at_builtin; refine append_ow (w0 := w) w.heap.size rfl (.tmp 26) (.tmp 29) rfl a5 ((K.map (fun x => xor8 x 54)).take T) [xor8 x 54] (some ⟨wr.heap.size, 0, none⟩) 1 1 rfl rfl (Kd.R_alloc h5.out _) (rd_one wr _) (hb.alloc hz _) (Nat.le_trans hz (by simp)) (by rw [HL5.out]; omega) ?_; intro v4 w4 ho4 hb4 hx4 hy4; rw [H5.out] at ho4; have HO4 := Aside0.mk ho4; have h6b : Aside0 (Ow w4 w.heap.size a6 ((K.map (fun x => xor8 x 92)).take T)) := ⟨Kd.R_grown2 (Kd.R_alloc h6.out _) rfl hx4 (own_ne hD.out)⟩; have HD4 : Aside0 (a6.ownBlock = none ∨ a6.ownBlock ≠ v4.ownBlock) := ⟨own_symm (other' hy4 hD.out (ow_lt (Kd.R_alloc h6.out _)))⟩; have hz4 := hb4.size; clear ho4)
            | (at_builtin; refine append_ow (w0 := w) w.heap.size rfl (.tmp 31) (.tmp 34) rfl a6 ((K.map (fun x => xor8 x 92)).take T) [xor8 x 92] (some ⟨w4.heap.size, 0, none⟩) 1 1 rfl rfl (Kd.R_alloc h6b.out _) (rd_one w4 _) (hb4.alloc hz4 _) (Nat.le_trans hz4 (by simp)) (by rw [HL6.out]; omega) ?_; intro v7 w7 ho7 hb7 hx7 hy7; rw [H6.out] at ho7; have HO6 := Aside0.mk ho7; have HO5 : Aside0 (Ow w7 w.heap.size v4 ((K.map (fun x => xor8 x 54)).take (T + 1))) := ⟨Kd.R_grown2 (Kd.R_alloc HO4.out _) rfl hx7 (own_ne (own_symm HD4.out))⟩; have HD6 : Aside0 (v7.ownBlock = none ∨ v7.ownBlock ≠ v4.ownBlock) := ⟨other' hy7 (own_symm HD4.out) (ow_lt (Kd.R_alloc HO4.out _))⟩; clear ho7))
          go_roundw
          case rel => exact ⟨T + 1, _, _, by omega, by go_num, rfl, rfl, HO5, HO6, HD6, hb7⟩
          case measure => simp [intOf]; omega
        · have hkl' : ¬ (T : Int) < (n : Int) := by omega
          rw [HGE.out T (by have := HLN.out; omega)] at hp5 hp6
          have H5 : Aside0 ((K.map (fun x => xor8 x 54)).take T ++ [54] = (K.map (fun x => xor8 x 54)).take (T + 1)) := ⟨hp5⟩
          have H6 : Aside0 ((K.map (fun x => xor8 x 92)).take T ++ [92] = (K.map (fun x => xor8 x 92)).take (T + 1)) := ⟨hp6⟩
          clear hp5 hp6
          go_wp2_with (first
            | (at_builtin; refine append_ow (w0 := w) w.heap.size rfl (.tmp 26) (.tmp 29) rfl a5 ((K.map (fun x => xor8 x 54)).take T) [54] (some ⟨wr.heap.size, 0, none⟩) 1 1 rfl rfl (Kd.R_alloc h5.out _) (rd_one wr _) (hb.alloc hz _) (Nat.le_trans hz (by simp)) (by rw [HL5.out]; omega) ?_; intro v4 w4 ho4 hb4 hx4 hy4; rw [H5.out] at ho4; have HO4 := Aside0.mk ho4; have h6b : Aside0 (Ow w4 w.heap.size a6 ((K.map (fun x => xor8 x 92)).take T)) := ⟨Kd.R_grown2 (Kd.R_alloc h6.out _) rfl hx4 (own_ne hD.out)⟩; have HD4 : Aside0 (a6.ownBlock = none ∨ a6.ownBlock ≠ v4.ownBlock) := ⟨own_symm (other' hy4 hD.out (ow_lt (Kd.R_alloc h6.out _)))⟩; have hz4 := hb4.size; clear ho4)
            | (at_builtin; refine append_ow (w0 := w) w.heap.size rfl (.tmp 31) (.tmp 34) rfl a6 ((K.map (fun x => xor8 x 92)).take T) [92] (some ⟨w4.heap.size, 0, none⟩) 1 1 rfl rfl (Kd.R_alloc h6b.out _) (rd_one w4 _) (hb4.alloc hz4 _) (Nat.le_trans hz4 (by simp)) (by rw [HL6.out]; omega) ?_; intro v7 w7 ho7 hb7 hx7 hy7; rw [H6.out] at ho7; have HO6 := Aside0.mk ho7; have HO5 : Aside0 (Ow w7 w.heap.size v4 ((K.map (fun x => xor8 x 54)).take (T + 1))) := ⟨Kd.R_grown2 (Kd.R_alloc HO4.out _) rfl hx7 (own_ne (own_symm HD4.out))⟩; have HD6 : Aside0 (v7.ownBlock = none ∨ v7.ownBlock ≠ v4.ownBlock) := ⟨other' hy7 (own_symm HD4.out) (ow_lt (Kd.R_alloc HO4.out _))⟩; clear ho7))
          go_roundw
          case rel => exact ⟨T + 1, _, _, by omega, by go_num, rfl, rfl, HO5, HO6, HD6, hb7⟩
          case measure => simp [intOf]; omega
      · have hge : ¬ (T : Int) < 64 := by omega
        have h64' : T = 64 := by omega
        have hO5 := h5.out
        have hO6 := h6.out
        rw [h64', List.take_of_length_le (by rw [List.length_map, HKL.out]; omega)] at hO5 hO6
        have hbw : Below w.heap.size w wr := hb
        have hrl : Rd wr B m d l := hr'.below hbw
        have lp5 : (K.map (fun x => xor8 x 54)).length = 64 := by rw [List.length_map]; exact HKL.out
        have lp6 : (K.map (fun x => xor8 x 92)).length = 64 := by rw [List.length_map]; exact HKL.out
        have hI5 : IsB (K.map (fun x => xor8 x 54)) := fun x hx => by
          obtain ⟨z, hz, rfl⟩ := List.mem_map.1 hx
          exact xor8_range (hkB z hz) (by omega)
        have hI6 : IsB (K.map (fun x => xor8 x 92)) := fun x hx => by
          obtain ⟨z, hz, rfl⟩ := List.mem_map.1 hx
          exact xor8_range (hkB z hz) (by omega)
        have hT' := HT.out
        obtain ⟨P5, HP5⟩ : ∃ P, K.map (fun x => xor8 x 54) = P := ⟨_, rfl⟩
        obtain ⟨P6, HP6⟩ : ∃ P, K.map (fun x => xor8 x 92) = P := ⟨_, rfl⟩
        rw [HP5] at lp5 hI5 hO5 hT'
        rw [HP6] at lp6 hI6 hO6 hT'
        have HTT := Aside0.mk hT'
        obtain ⟨A5, c5, rfl, r5⟩ := rd_of_own hO5
        obtain ⟨A6, c6, rfl, r6⟩ := rd_of_own hO6
        rw [lp5] at r5 ⊢
        rw [lp6] at r6 ⊢
        have LP6 := Aside0.mk lp6
        have LP5 := Aside0.mk lp5
        have LM := Aside0.mk hlm
        clear hO5 hO6 h5 h6 hD hT' HT lp5 lp6 HP5 HP6
        go_wp2_with fail
        refine (join33_c r5 hrl (by omega)).mono ?_
        rintro x w7 ⟨v7, rfl, ho7, hb7⟩
        have l7 : (P5 ++ l).length = 64 + m := by rw [List.length_append, LP5.out, LM.out]
        have i7 := isB_append hI5 hI
        obtain ⟨M7, HM7⟩ : ∃ M, Aside0 (P5 ++ l = M) := ⟨_, ⟨rfl⟩⟩
        rw [HM7.out] at ho7 l7 i7
        obtain ⟨A7, c7, rfl, r7⟩ := rd_of_own ho7
        have hbw7 := below_next hbw hb7
        have r67 := r6.below hb7
        have L7 := Aside0.mk l7
        clear l7
        go_wp2_with fail
        refine (RefOf.refof_c r7 i7 (by rw [L7.out]; omega)).mono ?_
        rintro x w8 ⟨v8, rfl, ho8, hb8⟩
        have l8 := shaS_length M7
        have i8 := shaS_isB M7
        obtain ⟨M8, HM8⟩ : ∃ M, Aside0 (shaS M7 = M) := ⟨_, ⟨rfl⟩⟩
        rw [HM8.out] at ho8 l8 i8
        obtain ⟨A8, c8, rfl, r8⟩ := rd_of_own ho8
        have hbw8 := below_next hbw7 hb8
        rw [l8] at r8 ⊢
        have L8 := Aside0.mk l8
        clear l8
        have r68 := r67.below hb8
        go_wp2_with fail
        refine (join33_c r68 r8 (by omega)).mono ?_
        rintro x w9 ⟨v9, rfl, ho9, hb9⟩
        have l9 : (P6 ++ M8).length = 96 := by rw [List.length_append, LP6.out, L8.out]
        have i9 := isB_append hI6 i8
        obtain ⟨M9, HM9⟩ : ∃ M, Aside0 (P6 ++ M8 = M) := ⟨_, ⟨rfl⟩⟩
        rw [HM9.out] at ho9 l9 i9
        obtain ⟨A9, c9, rfl, r9⟩ := rd_of_own ho9
        have hbw9 := below_next hbw8 hb9
        have L9 := Aside0.mk l9
        clear l9
        go_wp2_with fail
        refine (RefOf.refof_c r9 i9 (by rw [L9.out]; omega)).mono ?_
        rintro x w10 ⟨v10, rfl, ho10, hb10⟩
        have HO10 : Aside0 (Ow w10 w.heap.size v10 (tagS key l)) := ⟨by rw [HTT.out, HM7.out, HM8.out, HM9.out]; exact Kd.R_lower ho10 hbw9.size⟩
        have hbw10 := below_next hbw9 hb10
        clear ho10
        go_wp2_with fail
        go_ret
        exact ⟨_, rfl, HO10.out, hbw10⟩
end Go.Proofs.YtmmbonlidcbkcaaDoor.MacRef
