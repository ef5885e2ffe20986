/- Merged out of MacC, MacTag, MacLaw, MacAwake, MacHold, MacNil, MacMany. -/
import Derived.Test.YtmmbonlidcbkcaaDoorDgA
import Derived.Test.YtmmbonlidcbkcaaDoorHmac
import Derived.Deep.RegionHeld3
import Derived.Deep.Cut
import Derived.Lib.SlBytesConst
import Derived.Test.YtmmbonlidcbkcaaDoorWArr
/- mac.begun, mac.New: a key, both sums as they are behind its block. -/
namespace Go.Proofs.YtmmbonlidcbkcaaDoor.MacC
open Go.RowKit Go.Proofs.YtmmbonlidcbkcaaDoorW.PrintWords Go.Proofs.YtmmbonlidcbkcaaDoor.Num Go.Proofs.YtmmbonlidcbkcaaDoor.Sha Go.Proofs.YtmmbonlidcbkcaaDoor.Hmac Go.Proofs.YtmmbonlidcbkcaaDoor.WordC Go.Proofs.YtmmbonlidcbkcaaDoor.Arr Go.Proofs.YtmmbonlidcbkcaaDoor.App Go.Proofs.YtmmbonlidcbkcaaDoor.DgC Go.Proofs.YtmmbonlidcbkcaaDoor.DgBlock Go.Proofs.YtmmbonlidcbkcaaDoor.DgState Go.Proofs.YtmmbonlidcbkcaaDoor.DgAdd Go.Proofs.YtmmbonlidcbkcaaDoor.DgSum Go.Proofs.YtmmbonlidcbkcaaDoor.DgOf Go.Proofs.YtmmbonlidcbkcaaDoor.DgLaw Go.Proofs.YtmmbonlidcbkcaaDoor.DgWords
set_option linter.unusedVariables false
set_option linter.unusedSimpArgs false

/-- The block when so many of its bytes have been turned. -/
def mixT (K : List Int) (y : Int) (T : Nat) : List Int := (K.take T).map (fun x => xor8 x y) ++ K.drop T
theorem mixT_length (K : List Int) (y : Int) (T : Nat) : (mixT K y T).length = K.length := by simp [mixT]; omega
theorem mixT_zero (K : List Int) (y : Int) : mixT K y 0 = K := by simp [mixT]
theorem mixT_full (K : List Int) (y : Int) (h : K.length = 64) : mixT K y 64 = K.map (fun x => xor8 x y) := by
  unfold mixT; rw [List.take_of_length_le (by omega), List.drop_of_length_le (by omega), List.append_nil]
theorem mixT_getD (K : List Int) (y : Int) (T : Nat) (h : T < K.length) : (mixT K y T).getD T 0 = K.getD T 0 := by
  have hl : ((K.take T).map (fun x => xor8 x y)).length = T := by simp; omega
  simp only [mixT, List.getD_eq_getElem?_getD]
  rw [List.getElem?_append_right (by omega), hl, Nat.sub_self, List.getElem?_drop]; rfl
theorem mixT_set (K : List Int) (y : Int) (T : Nat) (h : T < K.length) : (mixT K y T).set T (xor8 (K.getD T 0) y) = mixT K y (T + 1) := by
  have hl : ((K.take T).map (fun x => xor8 x y)).length = T := by simp; omega
  have e1 : K.take (T + 1) = K.take T ++ [K[T]] := by rw [List.take_add_one, List.getElem?_eq_getElem h]; rfl
  have e2 : K.getD T 0 = K[T] := by rw [List.getD_eq_getElem?_getD, List.getElem?_eq_getElem h]; rfl
  unfold mixT
  rw [List.set_append_right _ _ (by omega), hl, Nat.sub_self, List.drop_eq_getElem_cons h, List.set_cons_zero, e1, e2, List.map_append, List.append_assoc]; rfl
theorem size94 : (Tryd.prog.info? 94).map (·.size) = some 64 := by kernel_rfl
theorem rd_blk64 {w : World} {g t : Nat} {S : List Int} (h : Blk w g t (nums .u8 S)) (hl : S.length = 64) : Rd w (some ⟨g, 0, none⟩) 64 64 S := by
  have := rd_of_blk (t := t) (cs := nums .u8 S) h 0 S 64 (by omega) (by omega) (fun j hj => by rw [Nat.zero_add]; exact nums_get .u8 S j hj)
  rw [hl] at this; exact this
set_option maxHeartbeats 4000000 in
set_option maxRecDepth 100000 in
theorem begun_c {K : List Int} {y : Int} {w : World} (hK : K.length = 64) (hKB : IsB K) (hy : 0 ≤ y ∧ y < 256) (ht : Tb w) :
    Calls Tryd.prog 72 #[.agg (nums .u8 K).toArray, .int .u8 y] w fun e w' => ∃ g v, e = .returned (.pointer (some ⟨g, 0, none⟩)) ∧ St w' w.heap.size g v (K.map (fun x => xor8 x y)) ∧ Below w.heap.size w w' := by
  have ht0 := ht.lt
  have HK := Aside0.mk hK
  clear hK
  go_enter Tryd.func72, Tryd.ntmps72
  go_wp2_with fail
  have hB0 : Below w.heap.size w (w.alloc (.cells (nums .u8 K).toArray 94)) := (Below.refl _ w).alloc (Nat.le_refl _) _
  have hX0 : Aside0 (Blk (w.alloc (.cells (nums .u8 K).toArray 94)) w.heap.size 94 (nums .u8 (mixT K y 0))) := ⟨by rw [mixT_zero]; exact heap_alloc_new _ _⟩
  go_loopw [7] (fun i wr => ∃ T : Nat, T ≤ 64 ∧ i = .int .i64 T ∧ Aside0 (Blk wr w.heap.size 94 (nums .u8 (mixT K y T))) ∧ Below w.heap.size w wr) (fun i _ => 64 - (intOf i).toNat)
  case atStart => exact ⟨0, by omega, rfl, hX0, hB0⟩
  case round =>
    clear hX0 hB0
    obtain ⟨T, hT, rfl, hX, hb⟩ := hrel
    by_cases hlt : T < 64
    · have hlt' : (T : Int) < 64 := by omega
      have hnext := mixT_set K y T (by rw [HK.out]; exact hlt)
      have cX : wr.cell? ⟨w.heap.size, T, none⟩ = some (.int .u8 (K.getD T 0)) := by rw [← mixT_getD K y T (by rw [HK.out]; exact hlt)]; exact blk_num hX.out T (by rw [mixT_length, HK.out]; exact hlt)
      have fX := Blk.frozen hX.out T
      generalize K.getD T 0 = x1 at *
      have hX' : Aside0 (Blk (wr.setCell ⟨w.heap.size, T, none⟩ (.int .u8 (bits BinOp.xor IntKind.u8 x1 y))) w.heap.size 94 (nums .u8 (mixT K y (T + 1)))) := ⟨by
        rw [← hnext]; exact blk_put hX.out T _⟩
      have hb' : Below w.heap.size w (wr.setCell ⟨w.heap.size, T, none⟩ (.int .u8 (bits BinOp.xor IntKind.u8 x1 y))) := hb.setCell (by show w.heap.size ≤ w.heap.size; omega) _
      clear hnext
      go_wp2_with fail
      go_roundw
      case rel => exact ⟨T + 1, by omega, by go_num, hX', hb'⟩
      case measure => simp [intOf]; omega
    · have hge : ¬ (T : Int) < 64 := by omega
      have h64 : T = 64 := by omega
      have hX' := hX.out
      rw [h64, mixT_full K y HK.out] at hX'
      have hl64 : (K.map (fun x => xor8 x y)).length = 64 := by rw [List.length_map]; exact HK.out
      have hIB : IsB (K.map (fun x => xor8 x y)) := fun x hx => by
        obtain ⟨z, hz, rfl⟩ := List.mem_map.1 hx
        exact xor8_range (hKB z hz) hy
      obtain ⟨P, HP⟩ : ∃ P, Aside0 (K.map (fun x => xor8 x y) = P) := ⟨_, ⟨rfl⟩⟩
      rw [HP.out] at hX' hl64 hIB
      have HX' := Aside0.mk hX'
      have HL := Aside0.mk hl64
      clear h64 hX' hX hl64
      go_wp2_with fail
      refine New_c.mono ?_
      rintro x w1 ⟨g, rfl, hS1, hb1⟩
      have hB1 := below_next hb hb1
      have hX1 := Blk.below HX'.out hb1
      go_wp2_with fail
      refine (Add_c hS1 (rd_blk64 hX1 HL.out) hIB (ht.below hB1) (by have := hb.size; omega) hb1.size (by simp)).mono ?_
      rintro x w2 ⟨rfl, v2, hS2, hf2, hat2⟩
      have hB2 := hf2.below hb1 hb1.size hS1.ge hS1.row_ge
      rw [List.nil_append] at hS2
      have HS2 := Aside0.mk (hS2.lower hb.size)
      have hB3 := below_next hb hB2
      clear hS1 hS2 hf2 hat2
      go_wp2_with fail
      go_ret
      exact ⟨g, v2, rfl, by rw [HP.out]; exact HS2.out, hB3⟩
theorem other {v v' : Value} {N : Nat} (h : ∀ k, v.ownBlock = some k → k < N) (h' : ∀ k, v'.ownBlock = some k → N ≤ k) : v'.ownBlock = none ∨ v'.ownBlock ≠ v.ownBlock := by
  cases hv : v'.ownBlock with
  | none => exact .inl rfl
  | some k => exact .inr (fun e => by have := h k e.symm; have := h' k hv; omega)
theorem other' {v v1 v' : Value} {N : Nat} (h : v1.ownBlock = v.ownBlock ∨ ∃ k, v1.ownBlock = some k ∧ N ≤ k) (h' : v'.ownBlock = none ∨ v'.ownBlock ≠ v.ownBlock) (hl : ∀ k, v'.ownBlock = some k → k < N) : v1.ownBlock = none ∨ v1.ownBlock ≠ v'.ownBlock := by
  rcases h with e | ⟨k, e, hk⟩
  · rcases h' with e' | e'
    · cases hv : v1.ownBlock with
      | none => exact .inl rfl
      | some q => exact .inr (fun x => by rw [e'] at x; cases x)
    · exact .inr (fun x => e' (by rw [← x, e]))
  · exact .inr (fun x => by have := hl k (by rw [← x, e]); omega)
theorem far_state {w : World} {base base' g g' : Nat} {v v' : Value} {b b' : List Int} (h : St w base g v b) (h' : St w base' g' v' b') : some g ≠ v'.ownBlock := Qw.ne h'.tail h.blk (by decide)
theorem ow_lt {w : World} {base : Nat} {u : Value} {xs : List Int} (h : Ow w base u xs) : ∀ k, u.ownBlock = some k → k < w.heap.size := fun k hk => by
  obtain ⟨inner, hi⟩ := Kd.R_own h
  exact own_lt hi k hk
/-- A key, as it lies. -/
structure Ky (w : World) (base kb : Nat) (key : List Int) : Prop where
  isB : IsB key
  st : ∃ gi vi go vo, Blk w kb 97 [.pointer (some ⟨gi, 0, none⟩), .pointer (some ⟨go, 0, none⟩)] ∧ St w base gi vi (padS key 54) ∧ St w base go vo (padS key 92)
theorem Ky.below {w w1 : World} {base kb : Nat} {key : List Int} (h : Ky w base kb key) (hb : Below w.heap.size w w1) : Ky w1 base kb key := by
  obtain ⟨hB, gi, vi, go, vo, h1, h2, h3⟩ := h
  exact ⟨hB, gi, vi, go, vo, Blk.below h1 hb, h2.below hb, h3.below hb⟩
theorem copy_blk {P : Program} {ops : Array Oper} {rest : List Oper} {o : Oper} {a : Act} {w : World} {Q : Exit → Act → World → Prop} (hgd : o.guard = none) (d s : Operand) (dT sT : TypeId)
    (ho : o.op = .call { callee := .builtin .copy, args := #[d, s], argTypes := #[dT, sT] }) (elem : TypeId) (hu : P.underlying dT = some (.slice elem)) (hsz : (P.info? elem).map (·.size) = some 1)
    (g off dLen dCap : Nat) (sp : Option Addr) (sLen sCap : Nat) (hd : a.eval d = .slice (some ⟨g, off, none⟩) dLen dCap) (hs : a.eval s = .slice sp sLen sCap)
    (cur : List Value) (t : Nat) (hg : Blk w g t cur) (l : List Int) (hr : Rd w sp sLen sCap l) (hn : sLen ≤ dLen) (hfit : off + sLen ≤ cur.length)
    (h : ∀ w', Blk w' g t (cur.take off ++ nums .u8 l ++ cur.drop (off + sLen)) → w.grownBy w' (some g) → wpList P ops Q rest (a.put o.dst (.int .i64 sLen)) w') : wpList P ops Q (o :: rest) a w := by
  refine wpList_plain hgd fun K hK => ?_
  have hw : Region.wanted o (yielded ops a.tmps) = true := by simp [Region.wanted, hgd]
  have := step_copy_blk (P := P) (ops := ops) (K := K) (Q := Q) (E := False) hgd d s dT sT ho elem hu hsz g off dLen dCap sp sLen sCap hd hs cur t hg l hr hn hfit (fun w' h1 h2 => hK _ _ (h w' h1 h2))
  rwa [if_pos hw] at this
theorem range_blk {w : World} {g t : Nat} {cs : List Value} (h : Blk w g t cs) : w.rangeAt g 0 cs := fun j v hj => by
  rw [Nat.zero_add, Blk.cell h j]; exact hj
/-- Behind the copy: the key's bytes, and noughts. -/
theorem key_cells (k : List Int) (h : k.length ≤ 64) : (nums .u8 (List.replicate 64 0)).take 0 ++ nums .u8 k ++ (nums .u8 (List.replicate 64 0)).drop (0 + k.length) = nums .u8 (k ++ List.replicate (64 - k.length) 0) := by
  rw [List.take_zero, List.nil_append, Nat.zero_add]
  unfold nums
  rw [← List.map_drop, ← List.map_append, List.drop_replicate]
end Go.Proofs.YtmmbonlidcbkcaaDoor.MacC
/- mac.New and (*mac.Key).Tag, walked. -/
namespace Go.Proofs.YtmmbonlidcbkcaaDoor.MacNew
open Go.RowKit Go.Proofs.YtmmbonlidcbkcaaDoorW.PrintWords Go.Proofs.YtmmbonlidcbkcaaDoor.Num Go.Proofs.YtmmbonlidcbkcaaDoor.Sha Go.Proofs.YtmmbonlidcbkcaaDoor.Hmac Go.Proofs.YtmmbonlidcbkcaaDoor.WordC Go.Proofs.YtmmbonlidcbkcaaDoor.Arr Go.Proofs.YtmmbonlidcbkcaaDoor.App Go.Proofs.YtmmbonlidcbkcaaDoor.DgC Go.Proofs.YtmmbonlidcbkcaaDoor.DgBlock Go.Proofs.YtmmbonlidcbkcaaDoor.DgState Go.Proofs.YtmmbonlidcbkcaaDoor.DgAdd Go.Proofs.YtmmbonlidcbkcaaDoor.DgSum Go.Proofs.YtmmbonlidcbkcaaDoor.DgOf Go.Proofs.YtmmbonlidcbkcaaDoor.DgLaw Go.Proofs.YtmmbonlidcbkcaaDoor.DgWords Go.Proofs.YtmmbonlidcbkcaaDoor.MacC Go.Proofs.YtmmbonlidcbkcaaDoor.DgCopy
set_option linter.unusedVariables false
set_option linter.unusedSimpArgs false

theorem keyS_le (k : List Int) : (keyS k).length ≤ 64 := keyS_length k
theorem slice_arr64 (G : Nat) (W : World) : (Instr.sliceAt 94 (.pointer (some ⟨G, 0, none⟩)) none none none).run Tryd.prog W = .ok (.slice (some ⟨G, 0, none⟩) 64 64) W := by
  obtain ⟨i, hi, hz⟩ := infoX
  simp [Instr.sliceAt, run_underlying Tryd.underlying94, Instr.sureAddr, Instr.sliceBounds, asAddr, sizeOf, typeInfo, hi, hz, Addr.add]
set_option maxHeartbeats 4000000 in
set_option maxRecDepth 100000 in
/-- From the copy on: the key's bytes are read out of A, the block lies in B0. -/
theorem New_c {A : Option Addr} {n c : Nat} {l : List Int} {w : World} (hr : Rd w A n c l) (hB : IsB l) (hn : n ≤ 140737488351232) (ht : Tb w) :
    Calls Tryd.prog 39 #[.slice A n c] w fun e w' => ∃ kb, e = .returned (.pointer (some ⟨kb, 0, none⟩)) ∧ Ky w' w.heap.size kb l ∧ Below w.heap.size w w' := by
  have hln := hr.len
  have HLN := Aside0.mk hln
  by_cases h64 : 64 < n
  · have hgt : (64 : Int) < (n : Int) := by omega
    have hS := shaS_length l
    have hSB := shaS_isB l
    obtain ⟨S, HS⟩ : ∃ S, Aside0 (shaS l = S) := ⟨_, ⟨rfl⟩⟩
    have hks : keyS l = S := by rw [← HS.out]; exact if_pos (by omega)
    have hk64 : key64 l = S ++ List.replicate (64 - S.length) 0 := by unfold key64; rw [hks]
    rw [HS.out] at hS hSB
    have hcells := key_cells S (by omega)
    rw [← hk64] at hcells
    have HC := Aside0.mk hcells
    have hkl := key64_length l
    have hkB := key64_isB hB
    obtain ⟨K, HK⟩ : ∃ K, Aside0 (key64 l = K) := ⟨_, ⟨rfl⟩⟩
    have HP54 : Aside0 (padS l 54 = K.map (fun x => xor8 x 54)) := ⟨by unfold padS; rw [HK.out]⟩
    have HP92 : Aside0 (padS l 92 = K.map (fun x => xor8 x 92)) := ⟨by unfold padS; rw [HK.out]⟩
    rw [HK.out] at hkl hkB
    have HKL := Aside0.mk hkl
    have HSL := Aside0.mk hS
    clear hks hk64 hcells hkl hS
    go_enter Tryd.func39, Tryd.ntmps39
    go_upto_region 2 with (fail)
    generalize hW : w.alloc _ = W0
    have hB0 : Below w.heap.size w W0 := by rw [← hW]; exact (Below.refl _ w).alloc (Nat.le_refl _) _
    have hO : Blk W0 w.heap.size 94 (nums .u8 (List.replicate 64 0)) := by rw [← hW]; exact heap_alloc_new _ _
    clear hW
    have hr0 := hr.below hB0
    have ht0 := ht.below hB0
    go_wp2_with fail
    refine (Of1_c rfl hr0 hB hn ht0).mono ?_
    rintro x w2 ⟨rfl, hb2⟩
    rw [HS.out]
    have hBB := below_next hB0 hb2
    have hO2 := Blk.below hO hb2
    have ht2 := ht0.below hb2
    have eS : 0 + 32 = 0 + S.length := by rw [HSL.out]
    go_wp2_with (first
      | (refine store_arr rfl 27 (.tmp 4) (.tmp 10) rfl w2.heap.size .u8 S rfl rfl 27 32 _ (heap_alloc_new _ _) size27 HSL.out rfl ?_; intro w3 hS3 hg3; have hO3 := Blk.grown (hO2.alloc _) hg3 (Nat.ne_of_lt (Blk.lt hO2)); have hr3 := rd_blk32 hS3 HSL.out; have hB3 := (hBB.alloc hBB.size _).grown hg3 (by have := hBB.size; simp; omega) (fun k hk => by cases hk; exact hBB.size); have ht3 := ht.below hB3)
      | (refine copy_blk rfl (.tmp 12) (.tmp 13) 22 22 rfl 5 Tryd.underlying22 sizeU8 w.heap.size 0 64 64 (some ⟨w2.heap.size, 0, none⟩) 32 32 rfl rfl (nums .u8 (List.replicate 64 0)) 94 hO3 S hr3 (by omega) (by rw [nums_length, List.length_replicate]; omega) ?_; intro w1 hG1 hg1; rw [eS, HC.out, HK.out] at hG1; have hB1 := hB3.grown hg1 hB3.size (fun k hk => by cases hk; exact Nat.le_refl _); have ht1 := ht.below hB1))
    have hu94 := Tryd.underlying94
    have hi94 : (Tryd.prog.info? 94).map (·.size) = some (nums .u8 K).length := by rw [nums_length, HKL.out]; exact size94
    have hd94 : (nums .u8 K).length = 64 := by rw [nums_length]; exact HKL.out
    have hR1 : w1.rangeAt w.heap.size 0 (nums .u8 K) := range_blk hG1
    refine wp_region_held_drew (S := fun w' => w'.rangeAt w.heap.size 0 (nums .u8 K)) (by kernel_rfl) ?_ (fun hHeld => ?_)
    · exact hR1
    refine wpAnyH_take (i := 0) (List.getElem?_toArray.trans rfl) (by kernel_rfl) (by kernel_rfl) (by kernel_rfl) (fun _ _ _ h => h) (yieldsIf_load_mid (by rfl) 94 (.tmp 3) rfl w.heap.size 0 rfl (nums .u8 K) _ (fun _ h => h) hu94 rfl hi94) (by assumption) ?_
    (try simp only [Act.put, List.setIfInBounds_toArray, List.set_cons_zero, List.set_cons_succ])
    refine wpAnyH_take (i := 2) (List.getElem?_toArray.trans rfl) (by kernel_rfl) (by kernel_rfl) (by kernel_rfl) (fun _ _ _ h => h) (yieldsIf_load_mid (by rfl) 94 (.tmp 3) rfl w.heap.size 0 rfl (nums .u8 K) _ (fun _ h => h) hu94 rfl hi94) (by assumption) ?_
    (try simp only [Act.put, List.setIfInBounds_toArray, List.set_cons_zero, List.set_cons_succ])
    refine wpAnyH_ready (rs := [1]) (by kernel_rfl) (by simp) (AllReadyH.cons (List.getElem?_toArray.trans rfl) (fun Kx hKx => ?_) AllReadyH.nil)
    go_simp
    refine (begun_c (y := 54) HKL.out hkB (by omega) (Tb.below (w := w1) ht1 (Below.drew (Below.refl _ w1)))).mono ?_
    rintro x w2 ⟨g1, v1, rfl, hS1, hb1⟩
    have hB2 := below_next hB1.drew hb1
    have ht2 := (Tb.below (w := w1) ht1 (Below.drew (Below.refl _ w1))).below hb1
    have hR2 : w2.rangeAt w.heap.size 0 (nums .u8 K) := range_blk (Blk.below (w := w1.drew) hG1 hb1)
    go_wp2_with fail
    refine hKx.out _ _ ?_ (fun hHeld => ?_)
    · exact hR2
    clear hKx Kx
    (try simp only [Act.put, List.setIfInBounds_toArray, List.set_cons_zero, List.set_cons_succ])
    refine wpAnyH_ready (rs := [3]) (by kernel_rfl) (by simp) (AllReadyH.cons (List.getElem?_toArray.trans rfl) (fun Kx hKx => ?_) AllReadyH.nil)
    go_simp
    refine (begun_c (y := 92) HKL.out hkB (by omega) ht2).mono ?_
    rintro x w3 ⟨g2, v2, rfl, hS2, hb2⟩
    have hB3 := below_next hB2 hb2
    have hR3 : w3.rangeAt w.heap.size 0 (nums .u8 K) := range_blk (Blk.below (w := w2) (Blk.below (w := w1.drew) hG1 hb1) hb2)
    go_wp2_with fail
    refine hKx.out _ _ ?_ (fun hHeld => ?_)
    · exact hR3
    clear hKx Kx
    (try simp only [Act.put, List.setIfInBounds_toArray, List.set_cons_zero, List.set_cons_succ])
    refine wpAnyH_take (i := 4) (v := ?_) (List.getElem?_toArray.trans rfl) (by kernel_rfl) (by kernel_rfl) (by kernel_rfl) (fun _ _ _ h => h) (Or.inl ⟨by rfl, ?_⟩) (by assumption) ?_
    rotate_left
    · (intro w hSw; (try dsimp only at hSw); go_simp; try with_reducible rfl)
    (try simp only [Act.put, List.setIfInBounds_toArray, List.set_cons_zero, List.set_cons_succ])
    refine wpAnyH_ready (rs := [5]) (by kernel_rfl) (by simp) (AllReadyH.cons (List.getElem?_toArray.trans rfl) (fun Kx hKx => ?_) AllReadyH.nil)
    go_simp
    refine hKx.out _ _ ?_ (fun hHeld => ?_)
    · exact World.rangeAt_alloc hR3 _
    clear hKx Kx
    (try simp only [Act.put, List.setIfInBounds_toArray, List.set_cons_zero, List.set_cons_succ])
    refine wpAnyH_take (i := 6) (v := ?_) (List.getElem?_toArray.trans rfl) (by kernel_rfl) (by kernel_rfl) (by kernel_rfl) (fun _ _ _ h => h) (Or.inl ⟨by rfl, ?_⟩) (by assumption) ?_
    rotate_left
    · (intro w hSw; (try dsimp only at hSw); go_simp; try with_reducible rfl)
    (try simp only [Act.put, List.setIfInBounds_toArray, List.set_cons_zero, List.set_cons_succ])
    refine wpAnyH_done (by kernel_rfl) ?_ _
    go_wp2_with fail
    go_ret
    have hSa : St w3 w.heap.size g1 v1 (padS l 54) := by rw [HP54.out]; exact (hS1.lower hB1.size).below hb2
    have hSb : St w3 w.heap.size g2 v2 (padS l 92) := by rw [HP92.out]; exact hS2.lower hB2.size
    have hAl : Below w3.heap.size w3 (w3.alloc (.cells #[.pointer (some ⟨g1, 0, none⟩), .pointer (some ⟨g2, 0, none⟩)] 97)) := (Below.refl _ w3).alloc (Nat.le_refl _) _
    exact ⟨_, rfl, ⟨hB, _, _, _, _, heap_alloc_new _ _, hSa.below hAl, hSb.below hAl⟩, below_next hB3 hAl⟩
  · have hks : keyS l = l := if_neg (by omega)
    have hle : ¬ (64 : Int) < (n : Int) := by omega
    have hk64 : key64 l = l ++ List.replicate (64 - l.length) 0 := by unfold key64; rw [hks]
    have hcells := key_cells l (by omega)
    rw [← hk64] at hcells
    have HC := Aside0.mk hcells
    have hkl := key64_length l
    have hkB := key64_isB hB
    obtain ⟨K, HK⟩ : ∃ K, Aside0 (key64 l = K) := ⟨_, ⟨rfl⟩⟩
    have HP54 : Aside0 (padS l 54 = K.map (fun x => xor8 x 54)) := ⟨by unfold padS; rw [HK.out]⟩
    have HP92 : Aside0 (padS l 92 = K.map (fun x => xor8 x 92)) := ⟨by unfold padS; rw [HK.out]⟩
    rw [HK.out] at hkl hkB
    have HKL := Aside0.mk hkl
    clear hks hk64 hcells hkl
    go_enter Tryd.func39, Tryd.ntmps39
    go_upto_region 5 with (fail)
    generalize hW : w.alloc _ = W0
    have hB0 : Below w.heap.size w W0 := by rw [← hW]; exact (Below.refl _ w).alloc (Nat.le_refl _) _
    have hO : Blk W0 w.heap.size 94 (nums .u8 (List.replicate 64 0)) := by rw [← hW]; exact heap_alloc_new _ _
    clear hW
    have hr0 := hr.below hB0
    have ht0 := ht.below hB0
    go_wp2_with (first
      | (refine copy_blk rfl (.tmp 12) (.tmp 13) 22 22 rfl 5 Tryd.underlying22 sizeU8 w.heap.size 0 64 64 A n c rfl rfl (nums .u8 (List.replicate 64 0)) 94 hO l hr0 (by omega) (by rw [nums_length, List.length_replicate]; omega) ?_; intro w1 hG1 hg1; rw [← HLN.out, HC.out, HK.out] at hG1; have hB1 := hB0.grown hg1 hB0.size (fun k hk => by cases hk; exact Nat.le_refl _); have ht1 := ht.below hB1))
    have hu94 := Tryd.underlying94
    have hi94 : (Tryd.prog.info? 94).map (·.size) = some (nums .u8 K).length := by rw [nums_length, HKL.out]; exact size94
    have hd94 : (nums .u8 K).length = 64 := by rw [nums_length]; exact HKL.out
    have hR1 : w1.rangeAt w.heap.size 0 (nums .u8 K) := range_blk hG1
    refine wp_region_held_drew (S := fun w' => w'.rangeAt w.heap.size 0 (nums .u8 K)) (by kernel_rfl) ?_ (fun hHeld => ?_)
    · exact hR1
    refine wpAnyH_take (i := 0) (List.getElem?_toArray.trans rfl) (by kernel_rfl) (by kernel_rfl) (by kernel_rfl) (fun _ _ _ h => h) (yieldsIf_load_mid (by rfl) 94 (.tmp 3) rfl w.heap.size 0 rfl (nums .u8 K) _ (fun _ h => h) hu94 rfl hi94) (by assumption) ?_
    (try simp only [Act.put, List.setIfInBounds_toArray, List.set_cons_zero, List.set_cons_succ])
    refine wpAnyH_take (i := 2) (List.getElem?_toArray.trans rfl) (by kernel_rfl) (by kernel_rfl) (by kernel_rfl) (fun _ _ _ h => h) (yieldsIf_load_mid (by rfl) 94 (.tmp 3) rfl w.heap.size 0 rfl (nums .u8 K) _ (fun _ h => h) hu94 rfl hi94) (by assumption) ?_
    (try simp only [Act.put, List.setIfInBounds_toArray, List.set_cons_zero, List.set_cons_succ])
    refine wpAnyH_ready (rs := [1]) (by kernel_rfl) (by simp) (AllReadyH.cons (List.getElem?_toArray.trans rfl) (fun Kx hKx => ?_) AllReadyH.nil)
    go_simp
    refine (begun_c (y := 54) HKL.out hkB (by omega) (Tb.below (w := w1) ht1 (Below.drew (Below.refl _ w1)))).mono ?_
    rintro x w2 ⟨g1, v1, rfl, hS1, hb1⟩
    have hB2 := below_next hB1.drew hb1
    have ht2 := (Tb.below (w := w1) ht1 (Below.drew (Below.refl _ w1))).below hb1
    have hR2 : w2.rangeAt w.heap.size 0 (nums .u8 K) := range_blk (Blk.below (w := w1.drew) hG1 hb1)
    go_wp2_with fail
    refine hKx.out _ _ ?_ (fun hHeld => ?_)
    · exact hR2
    clear hKx Kx
    (try simp only [Act.put, List.setIfInBounds_toArray, List.set_cons_zero, List.set_cons_succ])
    refine wpAnyH_ready (rs := [3]) (by kernel_rfl) (by simp) (AllReadyH.cons (List.getElem?_toArray.trans rfl) (fun Kx hKx => ?_) AllReadyH.nil)
    go_simp
    refine (begun_c (y := 92) HKL.out hkB (by omega) ht2).mono ?_
    rintro x w3 ⟨g2, v2, rfl, hS2, hb2⟩
    have hB3 := below_next hB2 hb2
    have hR3 : w3.rangeAt w.heap.size 0 (nums .u8 K) := range_blk (Blk.below (w := w2) (Blk.below (w := w1.drew) hG1 hb1) hb2)
    go_wp2_with fail
    refine hKx.out _ _ ?_ (fun hHeld => ?_)
    · exact hR3
    clear hKx Kx
    (try simp only [Act.put, List.setIfInBounds_toArray, List.set_cons_zero, List.set_cons_succ])
    refine wpAnyH_take (i := 4) (v := ?_) (List.getElem?_toArray.trans rfl) (by kernel_rfl) (by kernel_rfl) (by kernel_rfl) (fun _ _ _ h => h) (Or.inl ⟨by rfl, ?_⟩) (by assumption) ?_
    rotate_left
    · (intro w hSw; (try dsimp only at hSw); go_simp; try with_reducible rfl)
    (try simp only [Act.put, List.setIfInBounds_toArray, List.set_cons_zero, List.set_cons_succ])
    refine wpAnyH_ready (rs := [5]) (by kernel_rfl) (by simp) (AllReadyH.cons (List.getElem?_toArray.trans rfl) (fun Kx hKx => ?_) AllReadyH.nil)
    go_simp
    refine hKx.out _ _ ?_ (fun hHeld => ?_)
    · exact World.rangeAt_alloc hR3 _
    clear hKx Kx
    (try simp only [Act.put, List.setIfInBounds_toArray, List.set_cons_zero, List.set_cons_succ])
    refine wpAnyH_take (i := 6) (v := ?_) (List.getElem?_toArray.trans rfl) (by kernel_rfl) (by kernel_rfl) (by kernel_rfl) (fun _ _ _ h => h) (Or.inl ⟨by rfl, ?_⟩) (by assumption) ?_
    rotate_left
    · (intro w hSw; (try dsimp only at hSw); go_simp; try with_reducible rfl)
    (try simp only [Act.put, List.setIfInBounds_toArray, List.set_cons_zero, List.set_cons_succ])
    refine wpAnyH_done (by kernel_rfl) ?_ _
    go_wp2_with fail
    go_ret
    have hSa : St w3 w.heap.size g1 v1 (padS l 54) := by rw [HP54.out]; exact (hS1.lower hB1.size).below hb2
    have hSb : St w3 w.heap.size g2 v2 (padS l 92) := by rw [HP92.out]; exact hS2.lower hB2.size
    have hAl : Below w3.heap.size w3 (w3.alloc (.cells #[.pointer (some ⟨g1, 0, none⟩), .pointer (some ⟨g2, 0, none⟩)] 97)) := (Below.refl _ w3).alloc (Nat.le_refl _) _
    exact ⟨_, rfl, ⟨hB, _, _, _, _, heap_alloc_new _ _, hSa.below hAl, hSb.below hAl⟩, below_next hB3 hAl⟩
end Go.Proofs.YtmmbonlidcbkcaaDoor.MacNew
namespace Go.Proofs.YtmmbonlidcbkcaaDoor.MacTag
open Go.RowKit Go.Proofs.YtmmbonlidcbkcaaDoorW.PrintWords Go.Proofs.YtmmbonlidcbkcaaDoor.Num Go.Proofs.YtmmbonlidcbkcaaDoor.Sha Go.Proofs.YtmmbonlidcbkcaaDoor.Hmac Go.Proofs.YtmmbonlidcbkcaaDoor.WordC Go.Proofs.YtmmbonlidcbkcaaDoor.Arr Go.Proofs.YtmmbonlidcbkcaaDoor.App Go.Proofs.YtmmbonlidcbkcaaDoor.DgC Go.Proofs.YtmmbonlidcbkcaaDoor.DgBlock Go.Proofs.YtmmbonlidcbkcaaDoor.DgState Go.Proofs.YtmmbonlidcbkcaaDoor.DgAdd Go.Proofs.YtmmbonlidcbkcaaDoor.DgSum Go.Proofs.YtmmbonlidcbkcaaDoor.DgOf Go.Proofs.YtmmbonlidcbkcaaDoor.DgLaw Go.Proofs.YtmmbonlidcbkcaaDoor.DgWords Go.Proofs.YtmmbonlidcbkcaaDoor.MacC Go.Proofs.YtmmbonlidcbkcaaDoor.DgCopy
set_option linter.unusedVariables false
set_option linter.unusedSimpArgs false
theorem own_symm {a b : Option Nat} (h : a = none ∨ a ≠ b) : b = none ∨ b ≠ a := by
  rcases h with rfl | h
  · cases b with
    | none => exact .inl rfl
    | some x => exact .inr (fun e => by cases e)
  · exact .inr (Ne.symm h)
set_option maxHeartbeats 8000000 in
set_option maxRecDepth 100000 in
theorem Tag_c {base kb : Nat} {key : List Int} {A : Option Addr} {n c : Nat} {ll : List (List Int)} {w : World} (hK : Ky w base kb key) (hP : Pt w A n c ll) (hB : ∀ l ∈ ll, IsB l) (hl : 64 + ll.flatten.length ≤ 140737488351232) (ht : Tb w) :
    Calls Tryd.prog 40 #[.pointer (some ⟨kb, 0, none⟩), .slice A n c] w fun e w' => e = .returned (.agg (nums .u8 (tagS key ll.flatten)).toArray) ∧ Below w.heap.size w w' := by
  obtain ⟨hkB, gi, vi, go, vo, hkb, hSi, hSo⟩ := hK
  have hln := hP.len
  have hn63 : n ≤ 9223372036854775807 := Kd.C_max hP.rows
  have HLN := Aside0.mk hln
  have hp54 := padS_length key 54
  have hp92 := padS_length key 92
  obtain ⟨P1, HP1⟩ : ∃ P, Aside0 (padS key 54 = P) := ⟨_, ⟨rfl⟩⟩
  obtain ⟨P2, HP2⟩ : ∃ P, Aside0 (padS key 92 = P) := ⟨_, ⟨rfl⟩⟩
  have HT : Aside0 (tagS key ll.flatten = shaS (P2 ++ shaS (P1 ++ ll.flatten))) := ⟨by rw [← HP1.out, ← HP2.out]; rfl⟩
  rw [HP1.out] at hp54 hSi
  rw [HP2.out] at hp92 hSo
  clear hln
  go_enter Tryd.func40, Tryd.ntmps40
  go_upto_region 3 with (fail)
  generalize hW : w.alloc _ = W0
  have hB0 : Below w.heap.size w W0 := by rw [← hW]; exact (Below.refl _ w).alloc (Nat.le_refl _) _
  have hO : Aside0 (Blk W0 w.heap.size 27 (nums .u8 (List.replicate 32 0))) := ⟨by rw [← hW]; exact heap_alloc_new _ _⟩
  clear hW
  have ht0 := ht.below hB0
  have hP0 := hP.below hB0
  have hz0 := Blk.lt hO.out
  have hBD : Below W0.heap.size W0 W0.drew := (Below.refl _ W0).drew
  have hkb0 := Blk.below (Blk.below hkb hB0) hBD
  have hSi0 := (hSi.below hB0).below hBD
  have hSo0 := (hSo.below hB0).below hBD
  have c0 : W0.drew.cell? ⟨kb, 0, none⟩ = some (.pointer (some ⟨gi, 0, none⟩)) := Blk.cell hkb0 0
  have c1 : W0.drew.cell? ⟨kb, 1, none⟩ = some (.pointer (some ⟨go, 0, none⟩)) := Blk.cell hkb0 1
  have HP := Aside0.mk hP0
  have HB := Aside0.mk hB
  have HKB := Aside0.mk hkb0
  have HSO := Aside0.mk hSo0
  clear hP hP0 hB hkb hkb0 hSi hSo hSo0
  go_region_held3 (fun w' => w'.cell? ⟨kb, 0, none⟩ = some (.pointer (some ⟨gi, 0, none⟩)) ∧ w'.cell? ⟨kb, 1, none⟩ = some (.pointer (some ⟨go, 0, none⟩)))
    (first | exact ⟨c0, c1⟩ | exact ⟨d0, d1⟩ | exact ⟨f0, f1⟩)
    (first
      | (go_at_call 32; (with_reducible refine (Copy_c hSi0).mono ?_); rintro x w2 ⟨g1, v1, rfl, hS1, hb1⟩; have d0 : w2.cell? ⟨kb, 0, none⟩ = some (.pointer (some ⟨gi, 0, none⟩)) := Blk.cell (Blk.below HKB.out hb1) 0; have d1 : w2.cell? ⟨kb, 1, none⟩ = some (.pointer (some ⟨go, 0, none⟩)) := Blk.cell (Blk.below HKB.out hb1) 1; have HS1 := Aside0.mk hS1; clear hS1; have hSo2 := HSO.out.below hb1)
      | (go_at_call 32; (with_reducible refine (Copy_c hSo2).mono ?_); rintro x w3 ⟨g2, v2, rfl, hS2, hb2⟩; have f0 : w3.cell? ⟨kb, 0, none⟩ = some (.pointer (some ⟨gi, 0, none⟩)) := Blk.cell (Blk.below (Blk.below HKB.out hb1) hb2) 0; have f1 : w3.cell? ⟨kb, 1, none⟩ = some (.pointer (some ⟨go, 0, none⟩)) := Blk.cell (Blk.below (Blk.below HKB.out hb1) hb2) 1; have HS2 := Aside0.mk hS2; clear hS2))
  have hB3 : Below W0.heap.size W0 w3 := below_next (below_next hBD hb1) hb2
  have hS1' : Aside0 (St w3 W0.heap.size g1 v1 (P1 ++ (ll.take 0).flatten)) := ⟨by have := HS1.out.below hb2; simpa using this⟩
  have hD1 : Aside0 (v2.ownBlock = none ∨ v2.ownBlock ≠ v1.ownBlock) := ⟨other HS1.out.row_lt HS2.out.row_ge⟩
  have hlt12 : g1 < w2.heap.size := HS1.out.lt
  have hge2 := HS2.out.ge
  have hsz2 := (below_next hBD hb1).size
  have hS2' : Aside0 (St w3 W0.heap.size g2 v2 P2) := ⟨HS2.out.lower hsz2⟩
  have hne12 : g2 ≠ g1 := by omega
  clear HS1 HS2 d0 d1 f0 f1 c0 c1 HKB HSO hSo2 hSi0 hb1 hb2 hlt12 hge2 hsz2
  go_wp2_with fail
  go_loopw [25] (fun i wr => ∃ (j : Nat) (v : Value), j ≤ n ∧ i = .int .i64 j ∧ Aside0 (St wr W0.heap.size g1 v (P1 ++ (ll.take j).flatten)) ∧ Aside0 (St wr W0.heap.size g2 v2 P2) ∧ Aside0 (v2.ownBlock = none ∨ v2.ownBlock ≠ v.ownBlock) ∧ Below W0.heap.size W0 wr) (fun i _ => n - (intOf i).toNat)
  case atStart => exact ⟨0, _, by omega, rfl, hS1', hS2', hD1, hB3⟩
  case round =>
    clear hS1' hS2' hD1 hB3
    obtain ⟨j, v, hj, rfl, hS, hT, hD, hb⟩ := hrel
    by_cases hlt : j < n
    · have hlt' : (j : Int) < (n : Int) := by omega
      obtain ⟨ad, Ai, ci, rfl, hcell, hrd⟩ := (HP.out.below hb).at_ j hlt
      have hnext := flat_take ll j (by have := HLN.out; omega)
      have hle := flat_le ll (j + 1)
      rw [hnext, List.length_append] at hle
      have hIB := part_isB HB.out j
      obtain ⟨p, HPP⟩ : ∃ p, Aside0 (ll.getD j [] = p) := ⟨_, ⟨rfl⟩⟩
      rw [HPP.out] at hnext hle hIB hrd hcell
      have HNEXT := Aside0.mk hnext
      obtain ⟨q, HQ⟩ : ∃ q, Aside0 (p.length = q) := ⟨_, ⟨rfl⟩⟩
      rw [HQ.out] at hle hrd hcell
      clear hnext
      go_wp2_with fail
      refine (Add_c hS.out hrd hIB (ht0.below hb) (by omega) hb.size (by rw [List.length_append]; omega)).mono ?_
      rintro x w4 ⟨rfl, v4, hS4, hF4, hat4⟩
      have hb4 := hF4.below hb hb.size hS.out.ge hS.out.row_ge
      rw [List.append_assoc, ← HNEXT.out] at hS4
      have HS4 := Aside0.mk hS4
      have HT4 : Aside0 (St w4 W0.heap.size g2 v2 P2) := ⟨hT.out.fr hF4 hne12 (far_state hT.out hS.out) (far_state hS.out hT.out) hD.out⟩
      have HD4 : Aside0 (v2.ownBlock = none ∨ v2.ownBlock ≠ v4.ownBlock) := ⟨own_symm (other' hat4 hD.out hT.out.row_lt)⟩
      clear hS4 hF4 hat4
      go_wp2_with fail
      go_roundw
      case rel => exact ⟨j + 1, v4, by omega, by go_num, HS4, HT4, HD4, hb4⟩
      case measure => simp [intOf]; omega
    · have hge : ¬ (j : Int) < (n : Int) := by omega
      have hjn : j = n := by omega
      have hS' := hS.out
      rw [hjn, List.take_of_length_le (by rw [HLN.out]; omega)] at hS'
      have HS' := Aside0.mk hS'
      clear hS' hjn hS hD
      go_wp2_with fail
      refine (Sum_c HS'.out (ht0.below hb) (by rw [List.length_append]; omega)).mono ?_
      rintro x w5 ⟨rfl, hb5⟩
      have hb6 := below_next hb hb5
      have hT5 := hT.out.below hb5
      have hl32 := shaS_length (P1 ++ ll.flatten)
      have hSB := shaS_isB (P1 ++ ll.flatten)
      obtain ⟨S, HS⟩ : ∃ S, Aside0 (shaS (P1 ++ ll.flatten) = S) := ⟨_, ⟨rfl⟩⟩
      rw [HS.out] at hl32 hSB
      rw [HS.out]
      have HL32 := Aside0.mk hl32
      have HT5 := Aside0.mk hT5
      clear hl32 hT5 hT
      go_wp2_with (first
        | (refine store_arr rfl 27 (.tmp 9) (.tmp 34) rfl w5.heap.size .u8 S rfl rfl 27 32 _ (heap_alloc_new _ _) size27 HL32.out rfl ?_; intro w7 hS7 hg7; have hB7 := (hb6.alloc hb6.size _).grown hg7 (by have := hb6.size; simp; omega) (fun k hk => by cases hk; exact hb6.size); have hT7 := HT5.out.below (((Below.refl _ w5).alloc (Nat.le_refl _) _).grown hg7 (by simp) (fun k hk => by cases hk; exact Nat.le_refl _)); have hr7 := rd_blk32 hS7 HL32.out; clear hg7 hS7))
      refine (Add_c hT7 hr7 hSB (ht0.below hB7) (by omega) hB7.size (by omega)).mono ?_
      rintro x w8 ⟨rfl, v8, hS8, hF8, hat8⟩
      have hB8 := hF8.below hB7 hB7.size hT7.ge hT7.row_ge
      have HS8 := Aside0.mk hS8
      clear hS8 hF8 hat8
      go_wp2_with fail
      refine (Sum_c HS8.out (ht0.below hB8) (by rw [List.length_append, HL32.out]; omega)).mono ?_
      rintro x w9 ⟨rfl, hb9⟩
      have hB9 := below_next hB8 hb9
      have hO9 := Blk.below hO.out hB9
      have hl32 := shaS_length (P2 ++ S)
      obtain ⟨T, HT2⟩ : ∃ T, Aside0 (shaS (P2 ++ S) = T) := ⟨_, ⟨rfl⟩⟩
      rw [HT2.out] at hl32
      rw [HT2.out]
      have HL := Aside0.mk hl32
      clear hl32
      go_wp2_with (first
        | (refine store_arr rfl 27 (.tmp 4) (.tmp 39) rfl w.heap.size .u8 T rfl rfl 27 32 _ hO9 size27 HL.out (by rw [nums_length]; rfl) ?_; intro w12 hO12 hg12; have HO12 := Aside0.mk hO12; clear hO12))
      have hbb : Below w.heap.size w w9 := hB0.trans (hB9.mono hB0.size)
      refine bodyPost_ret (v := .agg (nums .u8 T).toArray) ?_ rfl ⟨by rw [HT.out, HS.out, HT2.out], hbb.grown hg12 hbb.size (fun k hk => by cases hk; exact Nat.le_refl _)⟩
      refine results_arr (p := 4) (ty := 27) (h := ?_) (g := w.heap.size) (t := 27) (n := 32) (e := 5) (k := .u8) (l := T) (hp := ?_) (hg := HO12.out) (hu := Tryd.underlying27) (hi := size27) (hl := HL.out) ..
      · rfl
      · rfl
end Go.Proofs.YtmmbonlidcbkcaaDoor.MacTag
/- What the statements of the keyed sums lean on. -/
namespace Go.Proofs.YtmmbonlidcbkcaaDoor.MacLaw
open Go.RowKit Go.Proofs.YtmmbonlidcbkcaaDoorW.PrintWords Go.Proofs.YtmmbonlidcbkcaaDoor.Num Go.Proofs.YtmmbonlidcbkcaaDoor.Sha Go.Proofs.YtmmbonlidcbkcaaDoor.Hmac Go.Proofs.YtmmbonlidcbkcaaDoor.WordC Go.Proofs.YtmmbonlidcbkcaaDoor.Arr Go.Proofs.YtmmbonlidcbkcaaDoor.App Go.Proofs.YtmmbonlidcbkcaaDoor.DgC Go.Proofs.YtmmbonlidcbkcaaDoor.DgBlock Go.Proofs.YtmmbonlidcbkcaaDoor.DgState Go.Proofs.YtmmbonlidcbkcaaDoor.DgAdd Go.Proofs.YtmmbonlidcbkcaaDoor.DgSum Go.Proofs.YtmmbonlidcbkcaaDoor.DgOf Go.Proofs.YtmmbonlidcbkcaaDoor.DgLaw Go.Proofs.YtmmbonlidcbkcaaDoor.DgWords Go.Proofs.YtmmbonlidcbkcaaDoor.MacC Go.Proofs.YtmmbonlidcbkcaaDoor.DgCopy Go.Proofs.YtmmbonlidcbkcaaDoor.MacNew Go.Proofs.YtmmbonlidcbkcaaDoor.MacTag
set_option linter.unusedVariables false
set_option linter.unusedSimpArgs false
set_option maxHeartbeats 1000000 in
theorem own35_c {A : Option Addr} {n c : Nat} {l : List Int} {w : World} (hr : Rd w A n c l) (hn : n ≤ 140737488351232) :
    Calls Tryd.prog 35 #[.slice A n c] w fun e w' => ∃ v, e = .returned v ∧ Ow w' w.heap.size v l ∧ Below w.heap.size w w' := by
  have hrA := hr.alloc (.cells #[] 5)
  have hbE : Below w.heap.size w (w.alloc (.cells #[] 5)) := (Below.refl _ _).alloc (Nat.le_refl _) _
  go_enter Tryd.func35, Tryd.ntmps35
  go_wp2_with (first
    | (at_builtin; refine append_ow (w0 := w) w.heap.size rfl (.tmp 3) (.tmp 4) rfl (.slice (some ⟨w.heap.size, 0, none⟩) 0 0) [] l A n c rfl rfl (ow_empty w _ (Nat.le_refl _)) hrA hbE (by simp) (by simp; omega) ?_; intro v1 w1 ho1 hb1 hx1 hy1; clear hx1 hy1; rw [List.nil_append] at ho1; have HO := Aside0.mk ho1; clear ho1))
  go_ret
  exact ⟨_, rfl, HO.out, hb1⟩
set_option maxHeartbeats 2000000 in
set_option maxRecDepth 100000 in
theorem is37_c {A : Option Addr} {n c : Nat} {l S : List Int} {w : World} (hr : Rd w A n c l) (hB : IsB l) (hS : IsB S) (hl : S.length = 32) :
    Calls Tryd.prog 37 #[.agg (nums .u8 S).toArray, .slice A n c] w fun e w' => e = .returned (.bool (eqB S l)) ∧ Below w.heap.size w w' := by
  have hb1 : Below w.heap.size w (w.alloc (.cells (nums .u8 S).toArray 27)) := (Below.refl _ _).alloc (Nat.le_refl _) _
  have hq1 := (rd_blk32 (heap_alloc_new w (.cells (nums .u8 S).toArray 27)) hl).drew
  have hq2 := (hr.below hb1).drew
  have s1 := rd_string hq1
  have s2 := rd_string hq2
  have HS := Aside0.mk hl
  clear hq1 hq2 hl
  go_enter Tryd.func37, Tryd.ntmps37
  go_wp2_with fail
  go_region_held3 (fun w' => (convert 22 9 (.slice (some ⟨w.heap.size, 0, none⟩) 32 32)).run Tryd.prog w' = .ok (.string (strOfNums S)) w' ∧ (convert 22 9 (.slice A n c)).run Tryd.prog w' = .ok (.string (strOfNums l)) w')
    (first | exact ⟨s1, s2⟩)
    (fail)
  go_wp2_with fail
  go_ret
  exact ⟨congrArg (fun b => Ending.returned (Value.bool b)) (str_eq hS hB), hb1.drew⟩
theorem own_ne {a b : Option Nat} (h : a = none ∨ a ≠ b) (k : Nat) (hk : b = some k) : some k ≠ a := by
  rcases h with e | e
  · rw [e]; intro h; cases h
  · rw [← hk]; exact Ne.symm e
theorem rd_at {w : World} {A : Option Addr} {n c : Nat} {l : List Int} (h : Rd w A n c l) (T : Nat) (hT : T < n) : ∃ ad, A = some ad ∧ w.cell? (ad.add T) = some (.int .u8 (l.getD T 0)) := by
  obtain ⟨ad, cs, e, hl, hK, hcell⟩ := Kd.C_get h.cells (0 : Int) (T : Int) (by omega) (by omega)
  have hK' : cs = [.int .u8 (l.getD T 0)] := hK
  subst hK'
  have h2 := hcell 0 _ rfl
  refine ⟨ad, e, ?_⟩
  have e2 : ((T : Int).toNat * (Kd.int .u8).sz + 0) = T := Nat.mul_one T
  rw [e2] at h2
  exact h2
/-- One part under a key. -/
theorem Tag1_c {base kb : Nat} {key : List Int} {A : Option Addr} {n c : Nat} {k : Nat} {l : List Int} {w : World} (hk : k = w.heap.size) (hK : Ky w base kb key) (hr : Rd w A n c l) (hB : IsB l) (hl : n ≤ 140737488350000) (ht : Tb w) :
    Calls Tryd.prog 40 #[.pointer (some ⟨kb, 0, none⟩), .slice (some ⟨k, 0, none⟩) 1 1] (w.alloc (.cells #[.slice A n c] 22)) fun e w' => e = .returned (.agg (nums .u8 (tagS key l)).toArray) ∧ Below w.heap.size w w' := by
  subst hk
  have hb0 : Below w.heap.size w (w.alloc (.cells #[.slice A n c] 22)) := (Below.refl _ w).alloc (Nat.le_refl _) _
  refine (Tag_c (hK.below hb0) (pt_one hr) (isB_one hB) (by rw [flat_one, hr.len]; omega) (ht.below hb0)).mono ?_
  rintro e w' ⟨rfl, hb⟩
  rw [flat_one]
  exact ⟨rfl, hb0.trans (hb.mono (by simp))⟩
set_option maxHeartbeats 2000000 in
set_option maxRecDepth 100000 in
theorem tag38_c {A B : Option Addr} {n c m d : Nat} {key : List Int} {ll : List (List Int)} {w : World} (hr : Rd w A n c key) (hB : IsB key) (hn : n ≤ 140737488351232) (hP : Pt w B m d ll) (hI : ∀ l ∈ ll, IsB l) (hl : 64 + ll.flatten.length ≤ 140737488351232) (ht : Tb w) :
    Calls Tryd.prog 38 #[.slice A n c, .slice B m d] w fun e w' => e = .returned (.agg (nums .u8 (tagS key ll.flatten)).toArray) ∧ Below w.heap.size w w' := by
  go_enter Tryd.func38, Tryd.ntmps38
  go_upto_region 1 with (fail)
  generalize hW : w.alloc _ = W0
  have hB0 : Below w.heap.size w W0 := by rw [← hW]; exact (Below.refl _ w).alloc (Nat.le_refl _) _
  have hO : Aside0 (Blk W0 w.heap.size 27 (nums .u8 (List.replicate 32 0))) := ⟨by rw [← hW]; exact heap_alloc_new _ _⟩
  clear hW
  have ht0 := ht.below hB0
  go_wp2_with fail
  refine (New_c (hr.below hB0) hB hn ht0).mono ?_
  rintro x w1 ⟨kb, rfl, hK, hb1⟩
  have hB1 := below_next hB0 hb1
  have ht1 := ht0.below hb1
  go_wp2_with fail
  refine (Tag_c hK (hP.below hB1) hI hl ht1).mono ?_
  rintro x w2 ⟨rfl, hb2⟩
  have hB2 := below_next hB1 hb2
  have hO2 := Blk.below hO.out (below_next hb1 hb2)
  have hl32 := tagS_length key ll.flatten
  obtain ⟨T, HT⟩ : ∃ T, Aside0 (tagS key ll.flatten = T) := ⟨_, ⟨rfl⟩⟩
  rw [HT.out] at hl32
  rw [HT.out]
  have HL := Aside0.mk hl32
  clear hl32
  go_wp2_with (first
    | (refine store_arr rfl 27 (.tmp 4) (.tmp 8) rfl w.heap.size .u8 T rfl rfl 27 32 _ hO2 size27 HL.out (by rw [nums_length]; rfl) ?_; intro w12 hO12 hg12; have HO12 := Aside0.mk hO12; clear hO12))
  refine bodyPost_ret (v := .agg (nums .u8 T).toArray) ?_ rfl ⟨by rw [HT.out], hB2.grown hg12 hB2.size (fun k hk => by cases hk; exact Nat.le_refl _)⟩
  refine results_arr (p := 4) (ty := 27) (h := ?_) (g := w.heap.size) (t := 27) (n := 32) (e := 5) (k := .u8) (l := T) (hp := ?_) (hg := HO12.out) (hu := Tryd.underlying27) (hi := size27) (hl := HL.out) ..
  · rfl
  · rfl
theorem tag38_1 {A B : Option Addr} {n c m d k : Nat} {key l : List Int} {w : World} (hk : k = w.heap.size) (hr : Rd w A n c key) (hB : IsB key) (hn : n ≤ 140737488351232) (hr' : Rd w B m d l) (hI : IsB l) (hl : m ≤ 140737488350000) (ht : Tb w) :
    Calls Tryd.prog 38 #[.slice A n c, .slice (some ⟨k, 0, none⟩) 1 1] (w.alloc (.cells #[.slice B m d] 22)) fun e w' => e = .returned (.agg (nums .u8 (tagS key l)).toArray) ∧ Below w.heap.size w w' := by
  subst hk
  have hb0 : Below w.heap.size w (w.alloc (.cells #[.slice B m d] 22)) := (Below.refl _ w).alloc (Nat.le_refl _) _
  refine (tag38_c (hr.below hb0) hB hn (pt_one hr') (isB_one hI) (by rw [flat_one, hr'.len]; omega) (ht.below hb0)).mono ?_
  rintro e w' ⟨rfl, hb⟩
  rw [flat_one]
  exact ⟨rfl, hb0.trans (hb.mono (by simp))⟩
theorem tag38_2 {A B C : Option Addr} {n c m d p q k : Nat} {key l l' : List Int} {w : World} (hk : k = w.heap.size) (hr : Rd w A n c key) (hB : IsB key) (hn : n ≤ 140737488351232) (hr' : Rd w B m d l) (hr2 : Rd w C p q l') (hI : IsB l) (hI' : IsB l') (hl : m + p ≤ 140737488350000) (ht : Tb w) :
    Calls Tryd.prog 38 #[.slice A n c, .slice (some ⟨k, 0, none⟩) 2 2] (w.alloc (.cells #[.slice B m d, .slice C p q] 22)) fun e w' => e = .returned (.agg (nums .u8 (tagS key (l ++ l'))).toArray) ∧ Below w.heap.size w w' := by
  subst hk
  have hb0 : Below w.heap.size w (w.alloc (.cells #[.slice B m d, .slice C p q] 22)) := (Below.refl _ w).alloc (Nat.le_refl _) _
  refine (tag38_c (hr.below hb0) hB hn (pt_two hr' hr2) (isB_two hI hI') (by rw [flat_two, List.length_append, hr'.len, hr2.len]; omega) (ht.below hb0)).mono ?_
  rintro e w' ⟨rfl, hb⟩
  rw [flat_two]
  exact ⟨rfl, hb0.trans (hb.mono (by simp))⟩
set_option maxHeartbeats 1000000 in
theorem join33_c {A B : Option Addr} {n c m d : Nat} {l l' : List Int} {w : World} (hr : Rd w A n c l) (hr' : Rd w B m d l') (hn : n + m ≤ 140737488351232) :
    Calls Tryd.prog 33 #[.slice A n c, .slice B m d] w fun e w' => ∃ v, e = .returned v ∧ Ow w' w.heap.size v (l ++ l') ∧ Below w.heap.size w w' := by
  have hrA := hr.alloc (.cells #[] 5)
  have hbE : Below w.heap.size w (w.alloc (.cells #[] 5)) := (Below.refl _ _).alloc (Nat.le_refl _) _
  have hln := hr.len
  have HLN := Aside0.mk hln
  clear hln
  go_enter Tryd.func33, Tryd.ntmps33
  go_wp2_with (first
    | (at_builtin; refine append_ow (w0 := w) w.heap.size rfl (.tmp 5) (.tmp 6) rfl (.slice (some ⟨w.heap.size, 0, none⟩) 0 0) [] l A n c rfl rfl (ow_empty w _ (Nat.le_refl _)) hrA hbE (by simp) (by simp; omega) ?_; intro v1 w1 ho1 hb1 hx1 hy1; clear hx1 hy1; rw [List.nil_append] at ho1; have HO := Aside0.mk ho1; clear ho1; have hr2 := hr'.below hb1; have hz1 := hb1.size)
    | (at_builtin; refine append_ow (w0 := w) w.heap.size rfl (.tmp 7) (.tmp 8) rfl v1 l l' B m d rfl rfl HO.out hr2 hb1 hz1 (by have := HLN.out; omega) ?_; intro v2 w2 ho2 hb2 hx2 hy2; clear hx2 hy2; have HO2 := Aside0.mk ho2; clear ho2))
  go_ret
  exact ⟨_, rfl, HO2.out, hb2⟩

end Go.Proofs.YtmmbonlidcbkcaaDoor.MacLaw
namespace Go.Proofs.YtmmbonlidcbkcaaDoor.MacRef
open Go.RowKit Go.Proofs.YtmmbonlidcbkcaaDoorW.PrintWords Go.Proofs.YtmmbonlidcbkcaaDoor.Num Go.Proofs.YtmmbonlidcbkcaaDoor.Sha Go.Proofs.YtmmbonlidcbkcaaDoor.Hmac Go.Proofs.YtmmbonlidcbkcaaDoor.WordC Go.Proofs.YtmmbonlidcbkcaaDoor.Arr Go.Proofs.YtmmbonlidcbkcaaDoor.App Go.Proofs.YtmmbonlidcbkcaaDoor.DgC Go.Proofs.YtmmbonlidcbkcaaDoor.DgBlock Go.Proofs.YtmmbonlidcbkcaaDoor.DgState Go.Proofs.YtmmbonlidcbkcaaDoor.DgAdd Go.Proofs.YtmmbonlidcbkcaaDoor.DgSum Go.Proofs.YtmmbonlidcbkcaaDoor.DgOf Go.Proofs.YtmmbonlidcbkcaaDoor.DgLaw Go.Proofs.YtmmbonlidcbkcaaDoor.DgWords Go.Proofs.YtmmbonlidcbkcaaDoor.MacC Go.Proofs.YtmmbonlidcbkcaaDoor.DgCopy Go.Proofs.YtmmbonlidcbkcaaDoor.MacNew Go.Proofs.YtmmbonlidcbkcaaDoor.MacTag Go.Proofs.YtmmbonlidcbkcaaDoor.MacLaw
set_option linter.unusedVariables false
set_option linter.unusedSimpArgs false
theorem isB_append {l l' : List Int} (h : IsB l) (h' : IsB l') : IsB (l ++ l') := fun x hx => by
  rcases List.mem_append.1 hx with hx | hx
  · exact h x hx
  · exact h' x hx
/-- The key's byte T, when it is filled up with noughts. -/
theorem key64_lt (key : List Int) (T : Nat) (h : T < (keyS key).length) : (key64 key).getD T 0 = (keyS key).getD T 0 := by
  unfold key64; simp only [List.getD_eq_getElem?_getD]; rw [List.getElem?_append_left h]
theorem key64_ge (key : List Int) (T : Nat) (h : (keyS key).length ≤ T) : (key64 key).getD T 0 = 0 := by
  unfold key64; simp only [List.getD_eq_getElem?_getD]; rw [List.getElem?_append_right h, List.getElem?_replicate]; split <;> rfl
theorem pad_take (K : List Int) (y : Int) (T : Nat) (h : T < K.length) : (K.map (fun x => xor8 x y)).take T ++ [xor8 (K.getD T 0) y] = (K.map (fun x => xor8 x y)).take (T + 1) := by
  rw [List.take_add_one, List.getElem?_map, List.getElem?_eq_getElem h, List.getD_eq_getElem?_getD, List.getElem?_eq_getElem h]; rfl
set_option maxHeartbeats 8000000 in
set_option maxRecDepth 100000 in
/-- Behind the key's own sum: the bytes k64 hold the key. -/
theorem reftag36_c {A B : Option Addr} {n c m d : Nat} {key l : List Int} {w : World} (hr : Rd w A n c key) (hB : IsB key) (hn : n ≤ 140737488351232) (hr' : Rd w B m d l) (hI : IsB l) (hl : m ≤ 140737488350000) :
    Calls Tryd.prog 36 #[.slice A n c, .slice B m d] w fun e w' => ∃ v, e = .returned v ∧ Ow w' w.heap.size v (tagS key l) ∧ Below w.heap.size w w' := by
  have hk64 := key64_length key
  have hlt64 := key64_lt key
  have hge64 := key64_ge key
  have hkB := key64_isB hB
  have hln := hr.len
  have hlm := hr'.len
  have hT : Aside0 (tagS key l = shaS ((key64 key).map (fun x => xor8 x 92) ++ shaS ((key64 key).map (fun x => xor8 x 54) ++ l))) := ⟨rfl⟩
  have hks : keyS key = if 64 < key.length then shaS key else key := rfl
  obtain ⟨K, HK⟩ : ∃ K, Aside0 (key64 key = K) := ⟨_, ⟨rfl⟩⟩
  have HT : Aside0 (tagS key l = shaS (K.map (fun x => xor8 x 92) ++ shaS (K.map (fun x => xor8 x 54) ++ l))) := ⟨by rw [← HK.out]; exact hT.out⟩
  clear hT
  rw [HK.out] at hk64 hlt64 hge64 hkB
  by_cases h64 : 64 < n
  · have hgt : (64 : Int) < (n : Int) := by omega
    have hkk : keyS key = shaS key := by rw [hks, if_pos (by omega)]
    rw [hkk] at hlt64 hge64
    have hl32 := shaS_length key
    obtain ⟨S, HS⟩ : ∃ S, Aside0 (shaS key = S) := ⟨_, ⟨rfl⟩⟩
    rw [HS.out] at hlt64 hge64 hl32
    have HLT := Aside0.mk hlt64
    have HGE := Aside0.mk hge64
    have HKL := Aside0.mk hk64
    have HLN := Aside0.mk hln
    clear hks hlt64 hge64 hkk hk64
    go_enter Tryd.func36, Tryd.ntmps36
    go_wp2_with fail
    refine (RefOf.refof_c hr hB hn).mono ?_
    rintro x w1 ⟨v1, rfl, ho1, hb1⟩
    rw [HS.out] at ho1
    obtain ⟨A1, c1, rfl, r1⟩ := rd_of_own ho1
    rw [hl32] at r1 ⊢
    have HL32 := Aside0.mk hl32
    clear hl32 ho1
    go_wp2_with fail
    have P0 : Aside0 (Ow w1 w1.heap.size (.slice none 0 0) ((K.map (fun x => xor8 x 54)).take 0)) := ⟨Kd.R_nil _ _ _ _ _⟩
    have Q0 : Aside0 (Ow w1 w1.heap.size (.slice none 0 0) ((K.map (fun x => xor8 x 92)).take 0)) := ⟨Kd.R_nil _ _ _ _ _⟩
    have D0 : Aside0 ((Value.slice none 0 0).ownBlock = none ∨ (Value.slice none 0 0).ownBlock ≠ (Value.slice none 0 0).ownBlock) := ⟨.inl rfl⟩
    go_loopw [7, 5, 6] (fun i v5 v6 wr => ∃ (T : Nat) (a5 a6 : Value), T ≤ 64 ∧ i = .int .i64 T ∧ a5 = v5 ∧ a6 = v6 ∧ Aside0 (Ow wr w1.heap.size a5 ((K.map (fun x => xor8 x 54)).take T)) ∧ Aside0 (Ow wr w1.heap.size a6 ((K.map (fun x => xor8 x 92)).take T)) ∧ Aside0 (a6.ownBlock = none ∨ a6.ownBlock ≠ a5.ownBlock) ∧ Below w1.heap.size w1 wr) (fun i _ _ _ => 64 - (intOf i).toNat)
    case atStart => exact ⟨0, _, _, by omega, rfl, rfl, rfl, P0, Q0, D0, Below.refl _ w1⟩
    case round =>
      clear P0 Q0 D0
      obtain ⟨T, a5, a6, hT, rfl, rfl, rfl, h5, h6, hD, hb⟩ := hrel
      by_cases hlt : T < 64
      · have hlt' : (T : Int) < 64 := by omega
        have hp5 := pad_take K 54 T (by rw [HKL.out]; exact hlt)
        have hp6 := pad_take K 92 T (by rw [HKL.out]; exact hlt)
        have hl5 : ((K.map (fun x => xor8 x 54)).take T).length = T := by rw [List.length_take, List.length_map, HKL.out]; omega
        have hl6 : ((K.map (fun x => xor8 x 92)).take T).length = T := by rw [List.length_take, List.length_map, HKL.out]; omega
        have HL5 := Aside0.mk hl5
        have HL6 := Aside0.mk hl6
        have hz := hb.size
        clear hl5 hl6
        by_cases hkl : T < 32
        · have hkl' : (T : Int) < (32 : Int) := by omega
          obtain ⟨ad, rfl, hcell⟩ := rd_at (r1.below hb) T hkl
          rw [← HLT.out T (by have := HL32.out; omega)] at hcell
          generalize K.getD T 0 = x at hcell hp5 hp6
          have H5 := Aside0.mk hp5
          have H6 := Aside0.mk hp6
          clear hp5 hp6
          go_wp2_with (first
            | (at_builtin; refine append_ow (w0 := w1) w1.heap.size rfl (.tmp 26) (.tmp 29) rfl a5 ((K.map (fun x => xor8 x 54)).take T) [xor8 x 54] (some ⟨wr.heap.size, 0, none⟩) 1 1 rfl rfl (Kd.R_alloc h5.out _) (rd_one wr _) (hb.alloc hz _) (Nat.le_trans hz (by simp)) (by rw [HL5.out]; omega) ?_; intro v4 w4 ho4 hb4 hx4 hy4; rw [H5.out] at ho4; have HO4 := Aside0.mk ho4; have h6b : Aside0 (Ow w4 w1.heap.size a6 ((K.map (fun x => xor8 x 92)).take T)) := ⟨Kd.R_grown2 (Kd.R_alloc h6.out _) rfl hx4 (own_ne hD.out)⟩; have HD4 : Aside0 (a6.ownBlock = none ∨ a6.ownBlock ≠ v4.ownBlock) := ⟨own_symm (other' hy4 hD.out (ow_lt (Kd.R_alloc h6.out _)))⟩; have hz4 := hb4.size; clear ho4)
            | (at_builtin; refine append_ow (w0 := w1) w1.heap.size rfl (.tmp 31) (.tmp 34) rfl a6 ((K.map (fun x => xor8 x 92)).take T) [xor8 x 92] (some ⟨w4.heap.size, 0, none⟩) 1 1 rfl rfl (Kd.R_alloc h6b.out _) (rd_one w4 _) (hb4.alloc hz4 _) (Nat.le_trans hz4 (by simp)) (by rw [HL6.out]; omega) ?_; intro v7 w7 ho7 hb7 hx7 hy7; rw [H6.out] at ho7; have HO6 := Aside0.mk ho7; have HO5 : Aside0 (Ow w7 w1.heap.size v4 ((K.map (fun x => xor8 x 54)).take (T + 1))) := ⟨Kd.R_grown2 (Kd.R_alloc HO4.out _) rfl hx7 (own_ne (own_symm HD4.out))⟩; have HD6 : Aside0 (v7.ownBlock = none ∨ v7.ownBlock ≠ v4.ownBlock) := ⟨other' hy7 (own_symm HD4.out) (ow_lt (Kd.R_alloc HO4.out _))⟩; clear ho7))
          go_roundw
          case rel => exact ⟨T + 1, _, _, by omega, by go_num, rfl, rfl, HO5, HO6, HD6, hb7⟩
          case measure => simp [intOf]; omega
        · have hkl' : ¬ (T : Int) < (32 : Int) := by omega
          rw [HGE.out T (by have := HL32.out; omega)] at hp5 hp6
          have H5 : Aside0 ((K.map (fun x => xor8 x 54)).take T ++ [54] = (K.map (fun x => xor8 x 54)).take (T + 1)) := ⟨hp5⟩
          have H6 : Aside0 ((K.map (fun x => xor8 x 92)).take T ++ [92] = (K.map (fun x => xor8 x 92)).take (T + 1)) := ⟨hp6⟩
          clear hp5 hp6
          go_wp2_with (first
            | (at_builtin; refine append_ow (w0 := w1) w1.heap.size rfl (.tmp 26) (.tmp 29) rfl a5 ((K.map (fun x => xor8 x 54)).take T) [54] (some ⟨wr.heap.size, 0, none⟩) 1 1 rfl rfl (Kd.R_alloc h5.out _) (rd_one wr _) (hb.alloc hz _) (Nat.le_trans hz (by simp)) (by rw [HL5.out]; omega) ?_; intro v4 w4 ho4 hb4 hx4 hy4; rw [H5.out] at ho4; have HO4 := Aside0.mk ho4; have h6b : Aside0 (Ow w4 w1.heap.size a6 ((K.map (fun x => xor8 x 92)).take T)) := ⟨Kd.R_grown2 (Kd.R_alloc h6.out _) rfl hx4 (own_ne hD.out)⟩; have HD4 : Aside0 (a6.ownBlock = none ∨ a6.ownBlock ≠ v4.ownBlock) := ⟨own_symm (other' hy4 hD.out (ow_lt (Kd.R_alloc h6.out _)))⟩; have hz4 := hb4.size; clear ho4)
            | (at_builtin; refine append_ow (w0 := w1) w1.heap.size rfl (.tmp 31) (.tmp 34) rfl a6 ((K.map (fun x => xor8 x 92)).take T) [92] (some ⟨w4.heap.size, 0, none⟩) 1 1 rfl rfl (Kd.R_alloc h6b.out _) (rd_one w4 _) (hb4.alloc hz4 _) (Nat.le_trans hz4 (by simp)) (by rw [HL6.out]; omega) ?_; intro v7 w7 ho7 hb7 hx7 hy7; rw [H6.out] at ho7; have HO6 := Aside0.mk ho7; have HO5 : Aside0 (Ow w7 w1.heap.size v4 ((K.map (fun x => xor8 x 54)).take (T + 1))) := ⟨Kd.R_grown2 (Kd.R_alloc HO4.out _) rfl hx7 (own_ne (own_symm HD4.out))⟩; have HD6 : Aside0 (v7.ownBlock = none ∨ v7.ownBlock ≠ v4.ownBlock) := ⟨other' hy7 (own_symm HD4.out) (ow_lt (Kd.R_alloc HO4.out _))⟩; clear ho7))
          go_roundw
          case rel => exact ⟨T + 1, _, _, by omega, by go_num, rfl, rfl, HO5, HO6, HD6, hb7⟩
          case measure => simp [intOf]; omega
      · have hge : ¬ (T : Int) < 64 := by omega
        have h64' : T = 64 := by omega
        have hO5 := h5.out
        have hO6 := h6.out
        rw [h64', List.take_of_length_le (by rw [List.length_map, HKL.out]; omega)] at hO5 hO6
        have hbw : Below w.heap.size w wr := below_next hb1 hb
        have hrl : Rd wr B m d l := hr'.below hbw
        have lp5 : (K.map (fun x => xor8 x 54)).length = 64 := by rw [List.length_map]; exact HKL.out
        have lp6 : (K.map (fun x => xor8 x 92)).length = 64 := by rw [List.length_map]; exact HKL.out
        have hI5 : IsB (K.map (fun x => xor8 x 54)) := fun x hx => by
          obtain ⟨z, hz, rfl⟩ := List.mem_map.1 hx
          exact xor8_range (hkB z hz) (by omega)
        have hI6 : IsB (K.map (fun x => xor8 x 92)) := fun x hx => by
          obtain ⟨z, hz, rfl⟩ := List.mem_map.1 hx
          exact xor8_range (hkB z hz) (by omega)
        have hT' := HT.out
        obtain ⟨P5, HP5⟩ : ∃ P, K.map (fun x => xor8 x 54) = P := ⟨_, rfl⟩
        obtain ⟨P6, HP6⟩ : ∃ P, K.map (fun x => xor8 x 92) = P := ⟨_, rfl⟩
        rw [HP5] at lp5 hI5 hO5 hT'
        rw [HP6] at lp6 hI6 hO6 hT'
        have HTT := Aside0.mk hT'
        obtain ⟨A5, c5, rfl, r5⟩ := rd_of_own hO5
        obtain ⟨A6, c6, rfl, r6⟩ := rd_of_own hO6
        rw [lp5] at r5 ⊢
        rw [lp6] at r6 ⊢
        have LP6 := Aside0.mk lp6
        have LP5 := Aside0.mk lp5
        have LM := Aside0.mk hlm
        clear hO5 hO6 h5 h6 hD hT' HT lp5 lp6 HP5 HP6
        go_wp2_with fail
        refine (join33_c r5 hrl (by omega)).mono ?_
        rintro x w7 ⟨v7, rfl, ho7, hb7⟩
        have l7 : (P5 ++ l).length = 64 + m := by rw [List.length_append, LP5.out, LM.out]
        have i7 := isB_append hI5 hI
        obtain ⟨M7, HM7⟩ : ∃ M, Aside0 (P5 ++ l = M) := ⟨_, ⟨rfl⟩⟩
        rw [HM7.out] at ho7 l7 i7
        obtain ⟨A7, c7, rfl, r7⟩ := rd_of_own ho7
        have hbw7 := below_next hbw hb7
        have r67 := r6.below hb7
        have L7 := Aside0.mk l7
        clear l7
        go_wp2_with fail
        refine (RefOf.refof_c r7 i7 (by rw [L7.out]; omega)).mono ?_
        rintro x w8 ⟨v8, rfl, ho8, hb8⟩
        have l8 := shaS_length M7
        have i8 := shaS_isB M7
        obtain ⟨M8, HM8⟩ : ∃ M, Aside0 (shaS M7 = M) := ⟨_, ⟨rfl⟩⟩
        rw [HM8.out] at ho8 l8 i8
        obtain ⟨A8, c8, rfl, r8⟩ := rd_of_own ho8
        have hbw8 := below_next hbw7 hb8
        rw [l8] at r8 ⊢
        have L8 := Aside0.mk l8
        clear l8
        have r68 := r67.below hb8
        go_wp2_with fail
        refine (join33_c r68 r8 (by omega)).mono ?_
        rintro x w9 ⟨v9, rfl, ho9, hb9⟩
        have l9 : (P6 ++ M8).length = 96 := by rw [List.length_append, LP6.out, L8.out]
        have i9 := isB_append hI6 i8
        obtain ⟨M9, HM9⟩ : ∃ M, Aside0 (P6 ++ M8 = M) := ⟨_, ⟨rfl⟩⟩
        rw [HM9.out] at ho9 l9 i9
        obtain ⟨A9, c9, rfl, r9⟩ := rd_of_own ho9
        have hbw9 := below_next hbw8 hb9
        have L9 := Aside0.mk l9
        clear l9
        go_wp2_with fail
        refine (RefOf.refof_c r9 i9 (by rw [L9.out]; omega)).mono ?_
        rintro x w10 ⟨v10, rfl, ho10, hb10⟩
        have HO10 : Aside0 (Ow w10 w.heap.size v10 (tagS key l)) := ⟨by rw [HTT.out, HM7.out, HM8.out, HM9.out]; exact Kd.R_lower ho10 hbw9.size⟩
        have hbw10 := below_next hbw9 hb10
        clear ho10
        go_wp2_with fail
        go_ret
        exact ⟨_, rfl, HO10.out, hbw10⟩

  · have hgt : ¬ (64 : Int) < (n : Int) := by omega
    have hkk : keyS key = key := by rw [hks, if_neg (by omega)]
    rw [hkk] at hlt64 hge64
    have HLT := Aside0.mk hlt64
    have HGE := Aside0.mk hge64
    have HKL := Aside0.mk hk64
    have HLN := Aside0.mk hln
    clear hks hlt64 hge64 hkk hk64
    go_enter Tryd.func36, Tryd.ntmps36
    go_wp2_with fail
    have P0 : Aside0 (Ow w w.heap.size (.slice none 0 0) ((K.map (fun x => xor8 x 54)).take 0)) := ⟨Kd.R_nil _ _ _ _ _⟩
    have Q0 : Aside0 (Ow w w.heap.size (.slice none 0 0) ((K.map (fun x => xor8 x 92)).take 0)) := ⟨Kd.R_nil _ _ _ _ _⟩
    have D0 : Aside0 ((Value.slice none 0 0).ownBlock = none ∨ (Value.slice none 0 0).ownBlock ≠ (Value.slice none 0 0).ownBlock) := ⟨.inl rfl⟩
    go_loopw [7, 5, 6] (fun i v5 v6 wr => ∃ (T : Nat) (a5 a6 : Value), T ≤ 64 ∧ i = .int .i64 T ∧ a5 = v5 ∧ a6 = v6 ∧ Aside0 (Ow wr w.heap.size a5 ((K.map (fun x => xor8 x 54)).take T)) ∧ Aside0 (Ow wr w.heap.size a6 ((K.map (fun x => xor8 x 92)).take T)) ∧ Aside0 (a6.ownBlock = none ∨ a6.ownBlock ≠ a5.ownBlock) ∧ Below w.heap.size w wr) (fun i _ _ _ => 64 - (intOf i).toNat)
    case atStart => exact ⟨0, _, _, by omega, rfl, rfl, rfl, P0, Q0, D0, Below.refl _ w⟩
    case round =>
      clear P0 Q0 D0
      obtain ⟨T, a5, a6, hT, rfl, rfl, rfl, h5, h6, hD, hb⟩ := hrel
      by_cases hlt : T < 64
      · have hlt' : (T : Int) < 64 := by omega
        have hp5 := pad_take K 54 T (by rw [HKL.out]; exact hlt)
        have hp6 := pad_take K 92 T (by rw [HKL.out]; exact hlt)
        have hl5 : ((K.map (fun x => xor8 x 54)).take T).length = T := by rw [List.length_take, List.length_map, HKL.out]; omega
        have hl6 : ((K.map (fun x => xor8 x 92)).take T).length = T := by rw [List.length_take, List.length_map, HKL.out]; omega
        have HL5 := Aside0.mk hl5
        have HL6 := Aside0.mk hl6
        have hz := hb.size
        clear hl5 hl6
        by_cases hkl : T < n
        · have hkl' : (T : Int) < (n : Int) := by omega
          obtain ⟨ad, rfl, hcell⟩ := rd_at (hr.below hb) T hkl
          rw [← HLT.out T (by have := HLN.out; omega)] at hcell
          generalize K.getD T 0 = x at hcell hp5 hp6
          have H5 := Aside0.mk hp5
          have H6 := Aside0.mk hp6
          clear hp5 hp6
          go_wp2_with (first
            | (at_builtin; refine append_ow (w0 := w) w.heap.size rfl (.tmp 26) (.tmp 29) rfl a5 ((K.map (fun x => xor8 x 54)).take T) [xor8 x 54] (some ⟨wr.heap.size, 0, none⟩) 1 1 rfl rfl (Kd.R_alloc h5.out _) (rd_one wr _) (hb.alloc hz _) (Nat.le_trans hz (by simp)) (by rw [HL5.out]; omega) ?_; intro v4 w4 ho4 hb4 hx4 hy4; rw [H5.out] at ho4; have HO4 := Aside0.mk ho4; have h6b : Aside0 (Ow w4 w.heap.size a6 ((K.map (fun x => xor8 x 92)).take T)) := ⟨Kd.R_grown2 (Kd.R_alloc h6.out _) rfl hx4 (own_ne hD.out)⟩; have HD4 : Aside0 (a6.ownBlock = none ∨ a6.ownBlock ≠ v4.ownBlock) := ⟨own_symm (other' hy4 hD.out (ow_lt (Kd.R_alloc h6.out _)))⟩; have hz4 := hb4.size; clear ho4)
            | (at_builtin; refine append_ow (w0 := w) w.heap.size rfl (.tmp 31) (.tmp 34) rfl a6 ((K.map (fun x => xor8 x 92)).take T) [xor8 x 92] (some ⟨w4.heap.size, 0, none⟩) 1 1 rfl rfl (Kd.R_alloc h6b.out _) (rd_one w4 _) (hb4.alloc hz4 _) (Nat.le_trans hz4 (by simp)) (by rw [HL6.out]; omega) ?_; intro v7 w7 ho7 hb7 hx7 hy7; rw [H6.out] at ho7; have HO6 := Aside0.mk ho7; have HO5 : Aside0 (Ow w7 w.heap.size v4 ((K.map (fun x => xor8 x 54)).take (T + 1))) := ⟨Kd.R_grown2 (Kd.R_alloc HO4.out _) rfl hx7 (own_ne (own_symm HD4.out))⟩; have HD6 : Aside0 (v7.ownBlock = none ∨ v7.ownBlock ≠ v4.ownBlock) := ⟨other' hy7 (own_symm HD4.out) (ow_lt (Kd.R_alloc HO4.out _))⟩; clear ho7))
          go_roundw
          case rel => exact ⟨T + 1, _, _, by omega, by go_num, rfl, rfl, HO5, HO6, HD6, hb7⟩
          case measure => simp [intOf]; omega
        · have hkl' : ¬ (T : Int) < (n : Int) := by omega
          rw [HGE.out T (by have := HLN.out; omega)] at hp5 hp6
          have H5 : Aside0 ((K.map (fun x => xor8 x 54)).take T ++ [54] = (K.map (fun x => xor8 x 54)).take (T + 1)) := ⟨hp5⟩
          have H6 : Aside0 ((K.map (fun x => xor8 x 92)).take T ++ [92] = (K.map (fun x => xor8 x 92)).take (T + 1)) := ⟨hp6⟩
          clear hp5 hp6
          go_wp2_with (first
            | (at_builtin; refine append_ow (w0 := w) w.heap.size rfl (.tmp 26) (.tmp 29) rfl a5 ((K.map (fun x => xor8 x 54)).take T) [54] (some ⟨wr.heap.size, 0, none⟩) 1 1 rfl rfl (Kd.R_alloc h5.out _) (rd_one wr _) (hb.alloc hz _) (Nat.le_trans hz (by simp)) (by rw [HL5.out]; omega) ?_; intro v4 w4 ho4 hb4 hx4 hy4; rw [H5.out] at ho4; have HO4 := Aside0.mk ho4; have h6b : Aside0 (Ow w4 w.heap.size a6 ((K.map (fun x => xor8 x 92)).take T)) := ⟨Kd.R_grown2 (Kd.R_alloc h6.out _) rfl hx4 (own_ne hD.out)⟩; have HD4 : Aside0 (a6.ownBlock = none ∨ a6.ownBlock ≠ v4.ownBlock) := ⟨own_symm (other' hy4 hD.out (ow_lt (Kd.R_alloc h6.out _)))⟩; have hz4 := hb4.size; clear ho4)
            | (at_builtin; refine append_ow (w0 := w) w.heap.size rfl (.tmp 31) (.tmp 34) rfl a6 ((K.map (fun x => xor8 x 92)).take T) [92] (some ⟨w4.heap.size, 0, none⟩) 1 1 rfl rfl (Kd.R_alloc h6b.out _) (rd_one w4 _) (hb4.alloc hz4 _) (Nat.le_trans hz4 (by simp)) (by rw [HL6.out]; omega) ?_; intro v7 w7 ho7 hb7 hx7 hy7; rw [H6.out] at ho7; have HO6 := Aside0.mk ho7; have HO5 : Aside0 (Ow w7 w.heap.size v4 ((K.map (fun x => xor8 x 54)).take (T + 1))) := ⟨Kd.R_grown2 (Kd.R_alloc HO4.out _) rfl hx7 (own_ne (own_symm HD4.out))⟩; have HD6 : Aside0 (v7.ownBlock = none ∨ v7.ownBlock ≠ v4.ownBlock) := ⟨other' hy7 (own_symm HD4.out) (ow_lt (Kd.R_alloc HO4.out _))⟩; clear ho7))
          go_roundw
          case rel => exact ⟨T + 1, _, _, by omega, by go_num, rfl, rfl, HO5, HO6, HD6, hb7⟩
          case measure => simp [intOf]; omega
      · have hge : ¬ (T : Int) < 64 := by omega
        have h64' : T = 64 := by omega
        have hO5 := h5.out
        have hO6 := h6.out
        rw [h64', List.take_of_length_le (by rw [List.length_map, HKL.out]; omega)] at hO5 hO6
        have hbw : Below w.heap.size w wr := hb
        have hrl : Rd wr B m d l := hr'.below hbw
        have lp5 : (K.map (fun x => xor8 x 54)).length = 64 := by rw [List.length_map]; exact HKL.out
        have lp6 : (K.map (fun x => xor8 x 92)).length = 64 := by rw [List.length_map]; exact HKL.out
        have hI5 : IsB (K.map (fun x => xor8 x 54)) := fun x hx => by
          obtain ⟨z, hz, rfl⟩ := List.mem_map.1 hx
          exact xor8_range (hkB z hz) (by omega)
        have hI6 : IsB (K.map (fun x => xor8 x 92)) := fun x hx => by
          obtain ⟨z, hz, rfl⟩ := List.mem_map.1 hx
          exact xor8_range (hkB z hz) (by omega)
        have hT' := HT.out
        obtain ⟨P5, HP5⟩ : ∃ P, K.map (fun x => xor8 x 54) = P := ⟨_, rfl⟩
        obtain ⟨P6, HP6⟩ : ∃ P, K.map (fun x => xor8 x 92) = P := ⟨_, rfl⟩
        rw [HP5] at lp5 hI5 hO5 hT'
        rw [HP6] at lp6 hI6 hO6 hT'
        have HTT := Aside0.mk hT'
        obtain ⟨A5, c5, rfl, r5⟩ := rd_of_own hO5
        obtain ⟨A6, c6, rfl, r6⟩ := rd_of_own hO6
        rw [lp5] at r5 ⊢
        rw [lp6] at r6 ⊢
        have LP6 := Aside0.mk lp6
        have LP5 := Aside0.mk lp5
        have LM := Aside0.mk hlm
        clear hO5 hO6 h5 h6 hD hT' HT lp5 lp6 HP5 HP6
        go_wp2_with fail
        refine (join33_c r5 hrl (by omega)).mono ?_
        rintro x w7 ⟨v7, rfl, ho7, hb7⟩
        have l7 : (P5 ++ l).length = 64 + m := by rw [List.length_append, LP5.out, LM.out]
        have i7 := isB_append hI5 hI
        obtain ⟨M7, HM7⟩ : ∃ M, Aside0 (P5 ++ l = M) := ⟨_, ⟨rfl⟩⟩
        rw [HM7.out] at ho7 l7 i7
        obtain ⟨A7, c7, rfl, r7⟩ := rd_of_own ho7
        have hbw7 := below_next hbw hb7
        have r67 := r6.below hb7
        have L7 := Aside0.mk l7
        clear l7
        go_wp2_with fail
        refine (RefOf.refof_c r7 i7 (by rw [L7.out]; omega)).mono ?_
        rintro x w8 ⟨v8, rfl, ho8, hb8⟩
        have l8 := shaS_length M7
        have i8 := shaS_isB M7
        obtain ⟨M8, HM8⟩ : ∃ M, Aside0 (shaS M7 = M) := ⟨_, ⟨rfl⟩⟩
        rw [HM8.out] at ho8 l8 i8
        obtain ⟨A8, c8, rfl, r8⟩ := rd_of_own ho8
        have hbw8 := below_next hbw7 hb8
        rw [l8] at r8 ⊢
        have L8 := Aside0.mk l8
        clear l8
        have r68 := r67.below hb8
        go_wp2_with fail
        refine (join33_c r68 r8 (by omega)).mono ?_
        rintro x w9 ⟨v9, rfl, ho9, hb9⟩
        have l9 : (P6 ++ M8).length = 96 := by rw [List.length_append, LP6.out, L8.out]
        have i9 := isB_append hI6 i8
        obtain ⟨M9, HM9⟩ : ∃ M, Aside0 (P6 ++ M8 = M) := ⟨_, ⟨rfl⟩⟩
        rw [HM9.out] at ho9 l9 i9
        obtain ⟨A9, c9, rfl, r9⟩ := rd_of_own ho9
        have hbw9 := below_next hbw8 hb9
        have L9 := Aside0.mk l9
        clear l9
        go_wp2_with fail
        refine (RefOf.refof_c r9 i9 (by rw [L9.out]; omega)).mono ?_
        rintro x w10 ⟨v10, rfl, ho10, hb10⟩
        have HO10 : Aside0 (Ow w10 w.heap.size v10 (tagS key l)) := ⟨by rw [HTT.out, HM7.out, HM8.out, HM9.out]; exact Kd.R_lower ho10 hbw9.size⟩
        have hbw10 := below_next hbw9 hb10
        clear ho10
        go_wp2_with fail
        go_ret
        exact ⟨_, rfl, HO10.out, hbw10⟩
end Go.Proofs.YtmmbonlidcbkcaaDoor.MacRef
/- A tag that is fixed. -/
namespace Go.Proofs.YtmmbonlidcbkcaaDoor.MacAwake
open Go.RowKit Go.Proofs.YtmmbonlidcbkcaaDoorW.PrintWords Go.Proofs.YtmmbonlidcbkcaaDoor.Num Go.Proofs.YtmmbonlidcbkcaaDoor.Sha Go.Proofs.YtmmbonlidcbkcaaDoor.Hmac Go.Proofs.YtmmbonlidcbkcaaDoor.WordC Go.Proofs.YtmmbonlidcbkcaaDoor.Arr Go.Proofs.YtmmbonlidcbkcaaDoor.App Go.Proofs.YtmmbonlidcbkcaaDoor.DgC Go.Proofs.YtmmbonlidcbkcaaDoor.DgBlock Go.Proofs.YtmmbonlidcbkcaaDoor.DgState Go.Proofs.YtmmbonlidcbkcaaDoor.DgAdd Go.Proofs.YtmmbonlidcbkcaaDoor.DgSum Go.Proofs.YtmmbonlidcbkcaaDoor.DgOf Go.Proofs.YtmmbonlidcbkcaaDoor.DgLaw Go.Proofs.YtmmbonlidcbkcaaDoor.DgWords Go.Proofs.YtmmbonlidcbkcaaDoor.MacC Go.Proofs.YtmmbonlidcbkcaaDoor.DgCopy Go.Proofs.YtmmbonlidcbkcaaDoor.MacNew Go.Proofs.YtmmbonlidcbkcaaDoor.MacTag Go.Proofs.YtmmbonlidcbkcaaDoor.MacLaw Go.Proofs.YtmmbonlidcbkcaaDoor.RefOf
set_option linter.unusedVariables false
set_option linter.unusedSimpArgs false

theorem fox0 : (tagS [107, 101, 121] [84, 104, 101, 32, 113, 117, 105, 99, 107, 32, 98, 114, 111, 119, 110, 32, 102, 111, 120, 32, 106, 117, 109, 112, 115, 32, 111, 118, 101, 114, 32, 116, 104, 101, 32, 108, 97, 122, 121, 32, 100, 111, 103]).getD 0 0 = 247 := by kernel_rfl
theorem fox1 : (tagS [107, 101, 121] [84, 104, 101, 32, 113, 117, 105, 99, 107, 32, 98, 114, 111, 119, 110, 32, 102, 111, 120, 32, 106, 117, 109, 112, 115, 32, 111, 118, 101, 114, 32, 116, 104, 101, 32, 108, 97, 122, 121, 32, 100, 111, 103]).getD 1 0 = 188 := by kernel_rfl
theorem fox31 : (tagS [107, 101, 121] [84, 104, 101, 32, 113, 117, 105, 99, 107, 32, 98, 114, 111, 119, 110, 32, 102, 111, 120, 32, 106, 117, 109, 112, 115, 32, 111, 118, 101, 114, 32, 116, 104, 101, 32, 108, 97, 122, 121, 32, 100, 111, 103]).getD 31 0 = 216 := by kernel_rfl
set_option maxHeartbeats 2000000 in
set_option maxRecDepth 100000 in
theorem awake34_c {w : World} (ht : Tb w) : Calls Tryd.prog 34 #[] w fun e w' => e = .returned (.bool true) ∧ Below w.heap.size w w' := by
  have hl := tagS_length [107, 101, 121] [84, 104, 101, 32, 113, 117, 105, 99, 107, 32, 98, 114, 111, 119, 110, 32, 102, 111, 120, 32, 106, 117, 109, 112, 115, 32, 111, 118, 101, 114, 32, 116, 104, 101, 32, 108, 97, 122, 121, 32, 100, 111, 103]
  have e0 := fox0
  have e1 := fox1
  have e31 := fox31
  obtain ⟨S, HS⟩ : ∃ S, Aside0 (tagS [107, 101, 121] [84, 104, 101, 32, 113, 117, 105, 99, 107, 32, 98, 114, 111, 119, 110, 32, 102, 111, 120, 32, 106, 117, 109, 112, 115, 32, 111, 118, 101, 114, 32, 116, 104, 101, 32, 108, 97, 122, 121, 32, 100, 111, 103] = S) := ⟨_, ⟨rfl⟩⟩
  rw [HS.out] at hl e0 e1 e31
  have HL := Aside0.mk hl
  have E0 := Aside0.mk e0
  have E1 := Aside0.mk e1
  have E31 := Aside0.mk e31
  clear hl e0 e1 e31
  have hb1 : Below w.heap.size w (w.alloc (.cells (nums .u8 [107, 101, 121]).toArray 5 (3, 4))) := (Below.refl _ _).alloc (Nat.le_refl _) _
  have hb2 : Below w.heap.size w ((w.alloc (.cells (nums .u8 [107, 101, 121]).toArray 5 (3, 4))).alloc (.cells (nums .u8 [84, 104, 101, 32, 113, 117, 105, 99, 107, 32, 98, 114, 111, 119, 110, 32, 102, 111, 120, 32, 106, 117, 109, 112, 115, 32, 111, 118, 101, 114, 32, 116, 104, 101, 32, 108, 97, 122, 121, 32, 100, 111, 103]).toArray 5 (43, 44))) := hb1.alloc hb1.size _
  have hr1 := (rd_const w [107, 101, 121] (3, 4) (by simp)).alloc (.cells (nums .u8 [84, 104, 101, 32, 113, 117, 105, 99, 107, 32, 98, 114, 111, 119, 110, 32, 102, 111, 120, 32, 106, 117, 109, 112, 115, 32, 111, 118, 101, 114, 32, 116, 104, 101, 32, 108, 97, 122, 121, 32, 100, 111, 103]).toArray 5 (43, 44))
  have hr2 : Rd ((w.alloc (.cells (nums .u8 [107, 101, 121]).toArray 5 (3, 4))).alloc (.cells (nums .u8 [84, 104, 101, 32, 113, 117, 105, 99, 107, 32, 98, 114, 111, 119, 110, 32, 102, 111, 120, 32, 106, 117, 109, 112, 115, 32, 111, 118, 101, 114, 32, 116, 104, 101, 32, 108, 97, 122, 121, 32, 100, 111, 103]).toArray 5 (43, 44))) (some ⟨w.heap.size + 1, 0, none⟩) 43 43 [84, 104, 101, 32, 113, 117, 105, 99, 107, 32, 98, 114, 111, 119, 110, 32, 102, 111, 120, 32, 106, 117, 109, 112, 115, 32, 111, 118, 101, 114, 32, 116, 104, 101, 32, 108, 97, 122, 121, 32, 100, 111, 103] := by
    have := rd_const (w.alloc (.cells (nums .u8 [107, 101, 121]).toArray 5 (3, 4))) [84, 104, 101, 32, 113, 117, 105, 99, 107, 32, 98, 114, 111, 119, 110, 32, 102, 111, 120, 32, 106, 117, 109, 112, 115, 32, 111, 118, 101, 114, 32, 116, 104, 101, 32, 108, 97, 122, 121, 32, 100, 111, 103] (43, 44) (by simp)
    have e : (w.alloc (.cells (nums .u8 [107, 101, 121]).toArray 5 (3, 4))).heap.size = w.heap.size + 1 := by simp
    rw [e] at this
    exact this
  have hIB : IsB [107, 101, 121] := by intro x hx; simp at hx; omega
  have hIB2 : IsB [84, 104, 101, 32, 113, 117, 105, 99, 107, 32, 98, 114, 111, 119, 110, 32, 102, 111, 120, 32, 106, 117, 109, 112, 115, 32, 111, 118, 101, 114, 32, 116, 104, 101, 32, 108, 97, 122, 121, 32, 100, 111, 103] := by intro x hx; simp at hx; omega
  have hcv := fun (w : World) (C : Array Value) (n c : Nat) => Lib.run_convert_bytes_const (P := Tryd.prog) w 22 5 C n c Tryd.underlying22 Tryd.underlying5
  have hcv2 : ∀ (w : World) (o : Obj) (C : Array Value) (n c : Nat), (convert 22 22 (.slice (some ⟨w.heap.size + 1, 0, none⟩) n c)).run Tryd.prog ((w.alloc o).alloc (.cells C 5)) = .ok (.slice (some ⟨w.heap.size + 1, 0, none⟩) n c) ((w.alloc o).alloc (.cells C 5 (C.size, C.size + 1))) := fun w o C n c => by
    have := hcv (w.alloc o) C n c
    rwa [World.size_alloc] at this
  have ht2 := ht.below hb2
  have HR1 := Aside0.mk hr1
  have HR2 := Aside0.mk hr2
  have HI := Aside0.mk hIB
  have HI2 := Aside0.mk hIB2
  clear hr1 hr2 hIB hIB2
  go_enter Tryd.func34, Tryd.ntmps34
  go_wp2_with fail
  refine (tag38_1 (k := w.heap.size + 1 + 1) (by simp) HR1.out HI.out (by simp) HR2.out HI2.out (by simp) ht2).mono ?_
  rintro x w2 ⟨rfl, hb3⟩
  rw [HS.out]
  have hb := below_next hb2 hb3
  go_wp2_with (first
    | (refine store_arr rfl 27 (.tmp 1) (.tmp 7) rfl w2.heap.size .u8 S rfl rfl 27 32 _ (heap_alloc_new _ _) size27 HL.out rfl ?_; intro w3 hO3 hg3; have c0 : w3.cell? ⟨w2.heap.size, 0, none⟩ = some (.int .u8 247) := (by rw [blk_num hO3 0 (by rw [HL.out]; omega), E0.out]); have c1 : w3.cell? ⟨w2.heap.size, 1, none⟩ = some (.int .u8 188) := (by rw [blk_num hO3 1 (by rw [HL.out]; omega), E1.out]); have c31 : w3.cell? ⟨w2.heap.size, 31, none⟩ = some (.int .u8 216) := (by rw [blk_num hO3 31 (by rw [HL.out]; omega), E31.out]); have hb4 := (hb.alloc hb.size _).grown hg3 (Nat.le_trans hb.size (by simp)) (fun k hk => by cases hk; exact hb.size); clear hO3 hg3))
  go_ret
  exact ⟨rfl, hb4⟩
end Go.Proofs.YtmmbonlidcbkcaaDoor.MacAwake
/- word.Same and (*mac.Key).Holds, walked. -/
namespace Go.Proofs.YtmmbonlidcbkcaaDoor.MacHold
open Go.RowKit Go.Proofs.YtmmbonlidcbkcaaDoorW.PrintWords Go.Proofs.YtmmbonlidcbkcaaDoor.Num Go.Proofs.YtmmbonlidcbkcaaDoor.Sha Go.Proofs.YtmmbonlidcbkcaaDoor.Hmac Go.Proofs.YtmmbonlidcbkcaaDoor.WordC Go.Proofs.YtmmbonlidcbkcaaDoor.Arr Go.Proofs.YtmmbonlidcbkcaaDoor.App Go.Proofs.YtmmbonlidcbkcaaDoor.DgC Go.Proofs.YtmmbonlidcbkcaaDoor.DgBlock Go.Proofs.YtmmbonlidcbkcaaDoor.DgState Go.Proofs.YtmmbonlidcbkcaaDoor.DgAdd Go.Proofs.YtmmbonlidcbkcaaDoor.DgSum Go.Proofs.YtmmbonlidcbkcaaDoor.DgOf Go.Proofs.YtmmbonlidcbkcaaDoor.DgLaw Go.Proofs.YtmmbonlidcbkcaaDoor.DgWords Go.Proofs.YtmmbonlidcbkcaaDoor.MacC Go.Proofs.YtmmbonlidcbkcaaDoor.DgCopy Go.Proofs.YtmmbonlidcbkcaaDoor.MacNew Go.Proofs.YtmmbonlidcbkcaaDoor.MacTag Go.Proofs.YtmmbonlidcbkcaaDoor.MacLaw Go.Proofs.YtmmbonlidcbkcaaDoor.RefOf
set_option linter.unusedVariables false
set_option linter.unusedSimpArgs false
theorem take_next {l l' : List Int} {T : Nat} (h : T < l.length) (h' : T < l'.length) : l.take (T + 1) = l'.take (T + 1) ↔ l.take T = l'.take T ∧ l.getD T 0 = l'.getD T 0 := by
  have e : l.take (T + 1) = l.take T ++ [l.getD T 0] := by rw [List.take_add_one, List.getD_eq_getElem?_getD, List.getElem?_eq_getElem h]; rfl
  have e' : l'.take (T + 1) = l'.take T ++ [l'.getD T 0] := by rw [List.take_add_one, List.getD_eq_getElem?_getD, List.getElem?_eq_getElem h']; rfl
  rw [e, e']
  constructor
  · intro hh
    have := List.append_inj hh (by rw [List.length_take, List.length_take]; omega)
    exact ⟨this.1, by simpa using this.2⟩
  · rintro ⟨h1, h2⟩; rw [h1, h2]
theorem getD_isB {l : List Int} (h : IsB l) (T : Nat) : 0 ≤ l.getD T 0 ∧ l.getD T 0 < 256 := by
  rw [List.getD_eq_getElem?_getD]
  cases e : l[T]? with
  | none => simp
  | some x => exact h x (List.mem_of_getElem? e)
set_option maxHeartbeats 2000000 in
set_option maxRecDepth 100000 in
theorem same73_c {A B : Option Addr} {n c m d : Nat} {l l' : List Int} {w : World} (hr : Rd w A n c l) (hr' : Rd w B m d l') (hB : IsB l) (hB' : IsB l') (hn : n ≤ 140737488351232) :
    Calls Tryd.prog 73 #[.slice A n c, .slice B m d] w fun e w' => e = .returned (.bool (eqB l l')) ∧ w' = w := by
  have hln := hr.len
  have hlm := hr'.len
  by_cases he : n = m
  · subst he
    have HLN := Aside0.mk hln
    have HLM := Aside0.mk hlm
    clear hln hlm
    go_enter Tryd.func73, Tryd.ntmps73
    go_wp2_with fail
    have H0 : Aside0 ((0 : Int) = 0 ↔ l.take 0 = l'.take 0) := ⟨by simp⟩
    go_loopw [15, 5] (fun i x wr => ∃ (T : Nat) (y : Int), T ≤ n ∧ i = .int .i64 T ∧ x = .int .u8 y ∧ 0 ≤ y ∧ y < 256 ∧ Aside0 (y = 0 ↔ l.take T = l'.take T) ∧ wr = w) (fun i _ _ => n - (intOf i).toNat)
    case atStart => exact ⟨0, 0, by omega, rfl, rfl, by omega, by omega, H0, rfl⟩
    case round =>
      clear H0
      obtain ⟨T, y, hT, rfl, rfl, hy0, hy1, hY, rfl⟩ := hrel
      by_cases hlt : T < n
      · have hlt' : (T : Int) < (n : Int) := by omega
        obtain ⟨ad, rfl, hc1⟩ := rd_at hr T hlt
        obtain ⟨ad', rfl, hc2⟩ := rd_at hr' T hlt
        have ha := getD_isB hB T
        have hb := getD_isB hB' T
        have hnx := take_next (l := l) (l' := l') (T := T) (by rw [HLN.out]; exact hlt) (by rw [HLM.out]; exact hlt)
        generalize l.getD T 0 = a at hc1 ha hnx
        generalize l'.getD T 0 = b at hc2 hb hnx
        have hu := unlike y a b ⟨hy0, hy1⟩ ha hb
        have hnew : Aside0 (Go.bits .or .u8 y (Go.bits .xor .u8 a b) = 0 ↔ l.take (T + 1) = l'.take (T + 1)) := ⟨by rw [hu.2, hnx, hY.out]⟩
        have hu1 := hu.1
        have HU := Aside0.mk hu1
        clear hu hnx hu1 ha hb
        go_wp2_with fail
        go_roundw
        case rel => exact ⟨T + 1, _, by omega, by go_num, rfl, HU.out.1, HU.out.2, hnew, trivial⟩
        case measure => simp [intOf]; omega
      · have hge : ¬ (T : Int) < (n : Int) := by omega
        have hTn : T = n := by omega
        have hY' := hY.out
        rw [hTn, List.take_of_length_le (by rw [HLN.out]; omega), List.take_of_length_le (by rw [HLM.out]; omega)] at hY'
        clear hY
        by_cases hy : y = 0
        · have heq := hY'.1 hy
          clear hY'
          subst heq
          subst hy
          have HQ : Aside0 (eqB l l = true) := ⟨eqB_self l⟩
          go_wp2_with fail
          go_ret
          exact ⟨by rw [HQ.out]; rfl, rfl⟩
        · have HQ : Aside0 (eqB l l' = false) := ⟨by rw [Bool.eq_false_iff]; intro h; exact hy (hY'.2 (eqB_iff.1 h))⟩
          clear hY'
          have hyb : (y == 0) = false := by simp [hy]
          go_wp2_with fail
          go_ret
          exact ⟨by rw [HQ.out]; rfl, rfl⟩
  · have hne : ¬ (n : Int) = (m : Int) := by omega
    have HQ : Aside0 (eqB l l' = false) := ⟨by rw [Bool.eq_false_iff]; intro h; have := eqB_iff.1 h; subst this; omega⟩
    go_enter Tryd.func73, Tryd.ntmps73
    go_wp2_with fail
    go_ret
    exact ⟨by rw [HQ.out]; rfl, rfl⟩
set_option maxHeartbeats 2000000 in
set_option maxRecDepth 100000 in
theorem holds42_c {base kb : Nat} {key s : List Int} {A B : Option Addr} {n c m d : Nat} {ll : List (List Int)} {w : World} (hK : Ky w base kb key) (hr : Rd w A n c s) (hS : IsB s) (hP : Pt w B m d ll) (hB : ∀ l ∈ ll, IsB l) (hl : 64 + ll.flatten.length ≤ 140737488351232) (ht : Tb w) :
    Calls Tryd.prog 42 #[.pointer (some ⟨kb, 0, none⟩), .slice A n c, .slice B m d] w fun e w' => e = .returned (.bool (eqB (tagS key ll.flatten) s)) ∧ Below w.heap.size w w' := by
  have hl32 := tagS_length key ll.flatten
  have hIT := tagS_isB key ll.flatten
  have HTT : Aside0 (tagS key ll.flatten = tagS key ll.flatten) := ⟨rfl⟩
  obtain ⟨T, HT⟩ : ∃ T, Aside0 (tagS key ll.flatten = T) := ⟨_, ⟨rfl⟩⟩
  rw [HT.out] at hl32 hIT
  have HL := Aside0.mk hl32
  clear hl32
  go_enter Tryd.func42, Tryd.ntmps42
  go_wp2_with fail
  refine (Tag_c hK hP hB hl ht).mono ?_
  rintro x w2 ⟨rfl, hb2⟩
  rw [HT.out]
  go_wp2_with (first
    | (refine store_arr rfl 27 (.tmp 7) (.tmp 10) rfl w2.heap.size .u8 T rfl rfl 27 32 _ (heap_alloc_new _ _) size27 HL.out rfl ?_; intro w3 hO3 hg3; have hb3 := (hb2.alloc hb2.size _).grown hg3 (Nat.le_trans hb2.size (by simp)) (fun k hk => by cases hk; exact hb2.size); have hr3 := rd_blk32 hO3 HL.out; clear hO3 hg3))
  refine (same73_c hr3 (hr.below hb3) hIT hS (by omega)).mono ?_
  rintro x w4 ⟨rfl, rfl⟩
  go_wp2_with fail
  go_ret
  exact ⟨by rw [HT.out]; rfl, hb3⟩
theorem holds42_1 {base kb k : Nat} {key s l : List Int} {A B : Option Addr} {n c m d : Nat} {w : World} (hk : k = w.heap.size) (hK : Ky w base kb key) (hr : Rd w A n c s) (hS : IsB s) (hr' : Rd w B m d l) (hB : IsB l) (hl : m ≤ 140737488350000) (ht : Tb w) :
    Calls Tryd.prog 42 #[.pointer (some ⟨kb, 0, none⟩), .slice A n c, .slice (some ⟨k, 0, none⟩) 1 1] (w.alloc (.cells #[.slice B m d] 22)) fun e w' => e = .returned (.bool (eqB (tagS key l) s)) ∧ Below w.heap.size w w' := by
  subst hk
  have hb0 : Below w.heap.size w (w.alloc (.cells #[.slice B m d] 22)) := (Below.refl _ w).alloc (Nat.le_refl _) _
  refine (holds42_c (hK.below hb0) (hr.below hb0) hS (pt_one hr') (isB_one hB) (by rw [flat_one, hr'.len]; omega) (ht.below hb0)).mono ?_
  rintro e w' ⟨rfl, hb⟩
  rw [flat_one]
  exact ⟨rfl, hb0.trans (hb.mono (by simp))⟩
end Go.Proofs.YtmmbonlidcbkcaaDoor.MacHold
/- (*mac.Key).Tag on nil, walked. -/
namespace Go.Proofs.YtmmbonlidcbkcaaDoor.MacNil
open Go.RowKit Go.Proofs.YtmmbonlidcbkcaaDoorW.PrintWords Go.Proofs.YtmmbonlidcbkcaaDoor.Num Go.Proofs.YtmmbonlidcbkcaaDoor.Sha Go.Proofs.YtmmbonlidcbkcaaDoor.Hmac Go.Proofs.YtmmbonlidcbkcaaDoor.WordC Go.Proofs.YtmmbonlidcbkcaaDoor.Arr Go.Proofs.YtmmbonlidcbkcaaDoor.App Go.Proofs.YtmmbonlidcbkcaaDoor.DgC Go.Proofs.YtmmbonlidcbkcaaDoor.DgBlock Go.Proofs.YtmmbonlidcbkcaaDoor.DgState Go.Proofs.YtmmbonlidcbkcaaDoor.DgAdd Go.Proofs.YtmmbonlidcbkcaaDoor.DgSum Go.Proofs.YtmmbonlidcbkcaaDoor.DgOf Go.Proofs.YtmmbonlidcbkcaaDoor.DgLaw Go.Proofs.YtmmbonlidcbkcaaDoor.DgWords Go.Proofs.YtmmbonlidcbkcaaDoor.MacC Go.Proofs.YtmmbonlidcbkcaaDoor.DgCopy Go.Proofs.YtmmbonlidcbkcaaDoor.MacNew Go.Proofs.YtmmbonlidcbkcaaDoor.MacTag Go.Proofs.YtmmbonlidcbkcaaDoor.MacLaw Go.Proofs.YtmmbonlidcbkcaaDoor.RefOf
set_option linter.unusedVariables false
set_option linter.unusedSimpArgs false
theorem rd_nil (w : World) : Rd w none 0 0 [] := ⟨rfl, Nat.le_refl _, Kd.C_nil _ w⟩
theorem isB_nil : IsB [] := fun x hx => by cases hx
set_option maxHeartbeats 8000000 in
set_option maxRecDepth 100000 in
theorem Tag_nil {A : Option Addr} {n c : Nat} {ll : List (List Int)} {w : World} (hP : Pt w A n c ll) (hB : ∀ l ∈ ll, IsB l) (hl : 64 + ll.flatten.length ≤ 140737488351232) (ht : Tb w) :
    Calls Tryd.prog 40 #[.pointer none, .slice A n c] w fun e w' => e = .returned (.agg (nums .u8 (tagS [] ll.flatten)).toArray) ∧ Below w.heap.size w w' := by
  have hln := hP.len
  have hn63 : n ≤ 9223372036854775807 := Kd.C_max hP.rows
  have HLN := Aside0.mk hln
  have hp54 := padS_length [] 54
  have hp92 := padS_length [] 92
  obtain ⟨P1, HP1⟩ : ∃ P, Aside0 (padS [] 54 = P) := ⟨_, ⟨rfl⟩⟩
  obtain ⟨P2, HP2⟩ : ∃ P, Aside0 (padS [] 92 = P) := ⟨_, ⟨rfl⟩⟩
  have HT : Aside0 (tagS [] ll.flatten = shaS (P2 ++ shaS (P1 ++ ll.flatten))) := ⟨by rw [← HP1.out, ← HP2.out]; rfl⟩
  rw [HP1.out] at hp54
  rw [HP2.out] at hp92
  clear hln
  go_enter Tryd.func40, Tryd.ntmps40
  go_upto_region 2 with (fail)
  generalize hW : w.alloc _ = Wa
  have hBa : Below w.heap.size w Wa := by rw [← hW]; exact (Below.refl _ w).alloc (Nat.le_refl _) _
  have hOa : Blk Wa w.heap.size 27 (nums .u8 (List.replicate 32 0)) := by rw [← hW]; exact heap_alloc_new _ _
  clear hW
  go_wp2_with fail
  refine (New_c (rd_nil Wa) isB_nil (by omega) (ht.below hBa)).mono ?_
  rintro x W0 ⟨kb, rfl, hK, hb0⟩
  obtain ⟨hkB, gi, vi, go, vo, hkb, hSi, hSo⟩ := hK
  rw [HP1.out] at hSi
  rw [HP2.out] at hSo
  have hB0 := below_next hBa hb0
  have hO := Aside0.mk (Blk.below hOa hb0)
  clear hb0 hBa hOa
  go_upto_region 3 with (fail)
  have ht0 := ht.below hB0
  have hP0 := hP.below hB0
  have hz0 := Blk.lt hO.out
  have hBD : Below W0.heap.size W0 W0.drew := (Below.refl _ W0).drew
  have hkb0 := Blk.below hkb hBD
  have hSi0 := hSi.below hBD
  have hSo0 := hSo.below hBD
  have c0 : W0.drew.cell? ⟨kb, 0, none⟩ = some (.pointer (some ⟨gi, 0, none⟩)) := Blk.cell hkb0 0
  have c1 : W0.drew.cell? ⟨kb, 1, none⟩ = some (.pointer (some ⟨go, 0, none⟩)) := Blk.cell hkb0 1
  have HP := Aside0.mk hP0
  have HB := Aside0.mk hB
  have HKB := Aside0.mk hkb0
  have HSO := Aside0.mk hSo0
  clear hP hP0 hB hkb hkb0 hSi hSo hSo0
  go_region_held3 (fun w' => w'.cell? ⟨kb, 0, none⟩ = some (.pointer (some ⟨gi, 0, none⟩)) ∧ w'.cell? ⟨kb, 1, none⟩ = some (.pointer (some ⟨go, 0, none⟩)))
    (first | exact ⟨c0, c1⟩ | exact ⟨d0, d1⟩ | exact ⟨f0, f1⟩)
    (first
      | (go_at_call 32; (with_reducible refine (Copy_c hSi0).mono ?_); rintro x w2 ⟨g1, v1, rfl, hS1, hb1⟩; have d0 : w2.cell? ⟨kb, 0, none⟩ = some (.pointer (some ⟨gi, 0, none⟩)) := Blk.cell (Blk.below HKB.out hb1) 0; have d1 : w2.cell? ⟨kb, 1, none⟩ = some (.pointer (some ⟨go, 0, none⟩)) := Blk.cell (Blk.below HKB.out hb1) 1; have HS1 := Aside0.mk hS1; clear hS1; have hSo2 := HSO.out.below hb1)
      | (go_at_call 32; (with_reducible refine (Copy_c hSo2).mono ?_); rintro x w3 ⟨g2, v2, rfl, hS2, hb2⟩; have f0 : w3.cell? ⟨kb, 0, none⟩ = some (.pointer (some ⟨gi, 0, none⟩)) := Blk.cell (Blk.below (Blk.below HKB.out hb1) hb2) 0; have f1 : w3.cell? ⟨kb, 1, none⟩ = some (.pointer (some ⟨go, 0, none⟩)) := Blk.cell (Blk.below (Blk.below HKB.out hb1) hb2) 1; have HS2 := Aside0.mk hS2; clear hS2))
  have hB3 : Below W0.heap.size W0 w3 := below_next (below_next hBD hb1) hb2
  have hS1' : Aside0 (St w3 W0.heap.size g1 v1 (P1 ++ (ll.take 0).flatten)) := ⟨by have := HS1.out.below hb2; simpa using this⟩
  have hD1 : Aside0 (v2.ownBlock = none ∨ v2.ownBlock ≠ v1.ownBlock) := ⟨other HS1.out.row_lt HS2.out.row_ge⟩
  have hlt12 : g1 < w2.heap.size := HS1.out.lt
  have hge2 := HS2.out.ge
  have hsz2 := (below_next hBD hb1).size
  have hS2' : Aside0 (St w3 W0.heap.size g2 v2 P2) := ⟨HS2.out.lower hsz2⟩
  have hne12 : g2 ≠ g1 := by omega
  clear HS1 HS2 d0 d1 f0 f1 c0 c1 HKB HSO hSo2 hSi0 hb1 hb2 hlt12 hge2 hsz2
  go_wp2_with fail
  go_loopw [25] (fun i wr => ∃ (j : Nat) (v : Value), j ≤ n ∧ i = .int .i64 j ∧ Aside0 (St wr W0.heap.size g1 v (P1 ++ (ll.take j).flatten)) ∧ Aside0 (St wr W0.heap.size g2 v2 P2) ∧ Aside0 (v2.ownBlock = none ∨ v2.ownBlock ≠ v.ownBlock) ∧ Below W0.heap.size W0 wr) (fun i _ => n - (intOf i).toNat)
  case atStart => exact ⟨0, _, by omega, rfl, hS1', hS2', hD1, hB3⟩
  case round =>
    clear hS1' hS2' hD1 hB3
    obtain ⟨j, v, hj, rfl, hS, hT, hD, hb⟩ := hrel
    by_cases hlt : j < n
    · have hlt' : (j : Int) < (n : Int) := by omega
      obtain ⟨ad, Ai, ci, rfl, hcell, hrd⟩ := (HP.out.below hb).at_ j hlt
      have hnext := flat_take ll j (by have := HLN.out; omega)
      have hle := flat_le ll (j + 1)
      rw [hnext, List.length_append] at hle
      have hIB := part_isB HB.out j
      obtain ⟨p, HPP⟩ : ∃ p, Aside0 (ll.getD j [] = p) := ⟨_, ⟨rfl⟩⟩
      rw [HPP.out] at hnext hle hIB hrd hcell
      have HNEXT := Aside0.mk hnext
      obtain ⟨q, HQ⟩ : ∃ q, Aside0 (p.length = q) := ⟨_, ⟨rfl⟩⟩
      rw [HQ.out] at hle hrd hcell
      clear hnext
      go_wp2_with fail
      refine (Add_c hS.out hrd hIB (ht0.below hb) (by omega) hb.size (by rw [List.length_append]; omega)).mono ?_
      rintro x w4 ⟨rfl, v4, hS4, hF4, hat4⟩
      have hb4 := hF4.below hb hb.size hS.out.ge hS.out.row_ge
      rw [List.append_assoc, ← HNEXT.out] at hS4
      have HS4 := Aside0.mk hS4
      have HT4 : Aside0 (St w4 W0.heap.size g2 v2 P2) := ⟨hT.out.fr hF4 hne12 (far_state hT.out hS.out) (far_state hS.out hT.out) hD.out⟩
      have HD4 : Aside0 (v2.ownBlock = none ∨ v2.ownBlock ≠ v4.ownBlock) := ⟨own_symm (other' hat4 hD.out hT.out.row_lt)⟩
      clear hS4 hF4 hat4
      go_wp2_with fail
      go_roundw
      case rel => exact ⟨j + 1, v4, by omega, by go_num, HS4, HT4, HD4, hb4⟩
      case measure => simp [intOf]; omega
    · have hge : ¬ (j : Int) < (n : Int) := by omega
      have hjn : j = n := by omega
      have hS' := hS.out
      rw [hjn, List.take_of_length_le (by rw [HLN.out]; omega)] at hS'
      have HS' := Aside0.mk hS'
      clear hS' hjn hS hD
      go_wp2_with fail
      refine (Sum_c HS'.out (ht0.below hb) (by rw [List.length_append]; omega)).mono ?_
      rintro x w5 ⟨rfl, hb5⟩
      have hb6 := below_next hb hb5
      have hT5 := hT.out.below hb5
      have hl32 := shaS_length (P1 ++ ll.flatten)
      have hSB := shaS_isB (P1 ++ ll.flatten)
      obtain ⟨S, HS⟩ : ∃ S, Aside0 (shaS (P1 ++ ll.flatten) = S) := ⟨_, ⟨rfl⟩⟩
      rw [HS.out] at hl32 hSB
      rw [HS.out]
      have HL32 := Aside0.mk hl32
      have HT5 := Aside0.mk hT5
      clear hl32 hT5 hT
      go_wp2_with (first
        | (refine store_arr rfl 27 (.tmp 9) (.tmp 34) rfl w5.heap.size .u8 S rfl rfl 27 32 _ (heap_alloc_new _ _) size27 HL32.out rfl ?_; intro w7 hS7 hg7; have hB7 := (hb6.alloc hb6.size _).grown hg7 (by have := hb6.size; simp; omega) (fun k hk => by cases hk; exact hb6.size); have hT7 := HT5.out.below (((Below.refl _ w5).alloc (Nat.le_refl _) _).grown hg7 (by simp) (fun k hk => by cases hk; exact Nat.le_refl _)); have hr7 := rd_blk32 hS7 HL32.out; clear hg7 hS7))
      refine (Add_c hT7 hr7 hSB (ht0.below hB7) (by omega) hB7.size (by omega)).mono ?_
      rintro x w8 ⟨rfl, v8, hS8, hF8, hat8⟩
      have hB8 := hF8.below hB7 hB7.size hT7.ge hT7.row_ge
      have HS8 := Aside0.mk hS8
      clear hS8 hF8 hat8
      go_wp2_with fail
      refine (Sum_c HS8.out (ht0.below hB8) (by rw [List.length_append, HL32.out]; omega)).mono ?_
      rintro x w9 ⟨rfl, hb9⟩
      have hB9 := below_next hB8 hb9
      have hO9 := Blk.below hO.out hB9
      have hl32 := shaS_length (P2 ++ S)
      obtain ⟨T, HT2⟩ : ∃ T, Aside0 (shaS (P2 ++ S) = T) := ⟨_, ⟨rfl⟩⟩
      rw [HT2.out] at hl32
      rw [HT2.out]
      have HL := Aside0.mk hl32
      clear hl32
      go_wp2_with (first
        | (refine store_arr rfl 27 (.tmp 4) (.tmp 39) rfl w.heap.size .u8 T rfl rfl 27 32 _ hO9 size27 HL.out (by rw [nums_length]; rfl) ?_; intro w12 hO12 hg12; have HO12 := Aside0.mk hO12; clear hO12))
      have hbb : Below w.heap.size w w9 := hB0.trans (hB9.mono hB0.size)
      refine bodyPost_ret (v := .agg (nums .u8 T).toArray) ?_ rfl ⟨by rw [HT.out, HS.out, HT2.out], hbb.grown hg12 hbb.size (fun k hk => by cases hk; exact Nat.le_refl _)⟩
      refine results_arr (p := 4) (ty := 27) (h := ?_) (g := w.heap.size) (t := 27) (n := 32) (e := 5) (k := .u8) (l := T) (hp := ?_) (hg := HO12.out) (hu := Tryd.underlying27) (hi := size27) (hl := HL.out) ..
      · rfl
      · rfl
end Go.Proofs.YtmmbonlidcbkcaaDoor.MacNil
/- (*mac.Key).Many, walked. -/
namespace Go.Proofs.YtmmbonlidcbkcaaDoor.MacMany
open Go.RowKit Go.Proofs.YtmmbonlidcbkcaaDoorW.PrintWords Go.Proofs.YtmmbonlidcbkcaaDoor.Num Go.Proofs.YtmmbonlidcbkcaaDoor.Sha Go.Proofs.YtmmbonlidcbkcaaDoor.Hmac Go.Proofs.YtmmbonlidcbkcaaDoor.WordC Go.Proofs.YtmmbonlidcbkcaaDoor.Arr Go.Proofs.YtmmbonlidcbkcaaDoor.App Go.Proofs.YtmmbonlidcbkcaaDoor.DgC Go.Proofs.YtmmbonlidcbkcaaDoor.DgBlock Go.Proofs.YtmmbonlidcbkcaaDoor.DgState Go.Proofs.YtmmbonlidcbkcaaDoor.DgAdd Go.Proofs.YtmmbonlidcbkcaaDoor.DgSum Go.Proofs.YtmmbonlidcbkcaaDoor.DgOf Go.Proofs.YtmmbonlidcbkcaaDoor.DgLaw Go.Proofs.YtmmbonlidcbkcaaDoor.DgWords Go.Proofs.YtmmbonlidcbkcaaDoor.MacC Go.Proofs.YtmmbonlidcbkcaaDoor.DgCopy Go.Proofs.YtmmbonlidcbkcaaDoor.MacNew Go.Proofs.YtmmbonlidcbkcaaDoor.MacTag Go.Proofs.YtmmbonlidcbkcaaDoor.MacLaw Go.Proofs.YtmmbonlidcbkcaaDoor.RefOf Go.Proofs.YtmmbonlidcbkcaaDoor.MacNil Go.Proofs.YtmmbonlidcbkcaaDoor.MacHold
set_option linter.unusedVariables false
set_option linter.unusedSimpArgs false
theorem sz1 : 0 < (Kd.int .u8).sz := Nat.one_pos
/-- A slice of sums. -/
abbrev Tg (w : World) (base : Nat) (v : Value) (ts : List (List Int)) : Prop := (Kd.arr 32 (Kd.int .u8) sz1).R 27 w base (fun _ => True) v ts
theorem info27 : (Tryd.prog.info? 27).map (fun i => (i.zero, i.size, i.bytes)) = some (some (.agg (nums .u8 (List.replicate 32 0)).toArray), 32, 32) := by kernel_rfl
theorem one_sum (w : World) (T : List Int) (hT : T.length = 32) : (Kd.arr 32 (Kd.int .u8) sz1).C (w.alloc (.cells (nums .u8 T).toArray 27)) (some ⟨w.heap.size, 0, none⟩) 1 [T] := by
  refine ⟨rfl, by simp, fun _ => ⟨_, rfl, fun j p hj => ?_⟩⟩
  have hj0 : j = 0 := by
    have := (List.getElem?_eq_some_iff.1 hj).1
    simp at this; omega
  subst hj0
  simp at hj
  subst hj
  refine ⟨nums .u8 T, ?_, ⟨hT, ?_⟩, fun i u hu => ?_⟩
  · rw [nums_length, hT]; rfl
  · refine ⟨by rw [nums_length, hT]; rfl, fun i x hi => ?_⟩
    have hil : i < T.length := (List.getElem?_eq_some_iff.1 hi).1
    show List.take 1 (List.drop (i * 1) (nums .u8 T)) = [.int .u8 x]
    rw [Nat.mul_one]
    have hg := nums_get .u8 T i hil
    have hx : T.getD i 0 = x := by rw [List.getD_eq_getElem?_getD, hi]; rfl
    rw [hx] at hg
    obtain ⟨h1, h2⟩ := List.getElem?_eq_some_iff.1 hg
    rw [List.drop_eq_getElem_cons h1, h2]; rfl
  · rw [add_plain, Blk.cell (heap_alloc_new w (.cells (nums .u8 T).toArray 27))]
    have e : 0 * (Kd.arr 32 (Kd.int .u8) sz1).sz + i = i := by omega
    rw [e]; simpa using hu
theorem fold_set : ∀ (l : List Value) (acc : Array Value) (k : Nat), k + l.length = acc.size → (l.zipIdx k).foldl (fun cs x => cs.setIfInBounds x.2 x.1) acc = (acc.toList.take k ++ l).toArray
  | [], acc, k, h => by
    have hk : k = acc.toList.length := by simpa using h
    rw [List.zipIdx_nil, List.foldl_nil, List.append_nil, hk, List.take_length]
  | x :: l, acc, k, h => by
    have hk : k < acc.size := by simp at h; omega
    rw [List.zipIdx_cons, List.foldl_cons, fold_set l _ (k + 1) (by simp at h ⊢; omega)]
    congr 1
    rw [Array.toList_setIfInBounds, List.take_add_one, List.take_set_of_le (Nat.le_refl _), List.getElem?_set_self (by simpa using hk), List.append_assoc]
    rfl
theorem fold_nums (T : List Int) (hT : T.length = 32) (Z : Array Value) (hZ : Z.size = 32) : List.foldl (fun (cs : Array Value) (x : Value × Nat) => cs.setIfInBounds x.snd x.fst) Z (nums .u8 T).zipIdx = (nums .u8 T).toArray := by
  rw [fold_set (nums .u8 T) Z 0 (by rw [nums_length, hT, hZ])]; rfl
set_option maxHeartbeats 8000000 in
set_option maxRecDepth 100000 in
theorem Many_c {kv : Value} {key : List Int} {A : Option Addr} {n c : Nat} {ll : List (List Int)} {w : World}
    (hTag : ∀ (W : World) (B : Option Addr) (m d k : Nat) (l : List Int), Below w.heap.size w W → k = W.heap.size → Rd W B m d l → IsB l → m ≤ 140737488350000 →
      Calls Tryd.prog 40 #[kv, .slice (some ⟨k, 0, none⟩) 1 1] (W.alloc (.cells #[.slice B m d] 22)) fun e w' => e = .returned (.agg (nums .u8 (tagS key l)).toArray) ∧ Below W.heap.size W w')
    (hP : Pt w A n c ll) (hB : ∀ l ∈ ll, IsB l) (hn : n ≤ 1000) (hl : ll.flatten.length ≤ 140737488350000) :
    Calls Tryd.prog 41 #[kv, .slice A n c] w fun e w' => ∃ v, e = .returned v ∧ Tg w' w.heap.size v (ll.map (tagS key)) ∧ Below w.heap.size w w' := by
  have hln := hP.len
  have hn63 : n ≤ 9223372036854775807 := Kd.C_max hP.rows
  have HLN := Aside0.mk hln
  have HTAG := Aside0.mk hTag
  have HP := Aside0.mk hP
  have HB := Aside0.mk hB
  clear hln hTag hP hB
  have hmf : ∀ (fn : Fn) (first cap : Array Value) (w : World), (Instr.makeFunc fn first cap).run Tryd.prog w = .ok (.func fn first cap) w := fun _ _ _ _ => rfl
  go_enter Tryd.func41, Tryd.ntmps41
  go_wp2_with fail
  have T0 : Aside0 (Tg w w.heap.size (.slice none 0 0) ((ll.take 0).map (tagS key))) := ⟨Kd.R_nil _ _ _ _ _⟩
  go_loopw [13, 5] (fun i v wr => ∃ (j : Nat) (u : Value), j ≤ n ∧ i = .int .i64 j ∧ u = v ∧ Aside0 (Tg wr w.heap.size u ((ll.take j).map (tagS key))) ∧ Below w.heap.size w wr) (fun i _ _ => n - (intOf i).toNat)
  case atStart => exact ⟨0, _, by omega, rfl, rfl, T0, Below.refl _ w⟩
  case round =>
    clear T0
    obtain ⟨j, u, hj, rfl, rfl, hU, hb⟩ := hrel
    by_cases hlt : j < n
    · have hlt' : (j : Int) < (n : Int) := by omega
      obtain ⟨ad, Ai, ci, rfl, hcell, hrd⟩ := (HP.out.below hb).at_ j hlt
      have hle := flat_le ll (j + 1)
      rw [flat_take ll j (by have := HLN.out; omega), List.length_append] at hle
      have hIB := part_isB HB.out j
      have hnext : (ll.take j).map (tagS key) ++ [tagS key (ll.getD j [])] = (ll.take (j + 1)).map (tagS key) := by
        rw [List.take_add_one, List.map_append]
        congr 1
        rw [List.getD_eq_getElem?_getD, List.getElem?_eq_getElem (by have := HLN.out; omega)]; rfl
      have hlj : ((ll.take j).map (tagS key)).length = j := by rw [List.length_map, List.length_take]; have := HLN.out; omega
      obtain ⟨p, HPP⟩ : ∃ p, Aside0 (ll.getD j [] = p) := ⟨_, ⟨rfl⟩⟩
      rw [HPP.out] at hnext hle hIB hrd hcell
      have HNEXT := Aside0.mk hnext
      have HLJ := Aside0.mk hlj
      obtain ⟨q, HQ⟩ : ∃ q, Aside0 (p.length = q) := ⟨_, ⟨rfl⟩⟩
      rw [HQ.out] at hle hrd hcell
      clear hnext hlj
      go_wp2_with fail
      refine (HTAG.out wr Ai q ci wr.heap.size p hb rfl hrd hIB (by omega)).mono ?_
      rintro x w4 ⟨rfl, hb4⟩
      have hlT := tagS_length key p
      obtain ⟨T, HT⟩ : ∃ T, Aside0 (tagS key p = T) := ⟨_, ⟨rfl⟩⟩
      rw [HT.out] at hlT
      rw [HT.out]
      have HLT := Aside0.mk hlT
      clear hlT
      have hB4 := below_next hb hb4
      have hU4 : Aside0 (Tg w4 w.heap.size u ((ll.take j).map (tagS key))) := ⟨Kd.R_below hU.out hb4⟩
      have hz4 := hB4.size
      have hlen : (nums .u8 T).length = 32 := by rw [nums_length]; exact HLT.out
      have hfold := fold_nums T HLT.out #[.int .u8 0, .int .u8 0, .int .u8 0, .int .u8 0, .int .u8 0, .int .u8 0, .int .u8 0, .int .u8 0, .int .u8 0, .int .u8 0, .int .u8 0, .int .u8 0, .int .u8 0, .int .u8 0, .int .u8 0, .int .u8 0, .int .u8 0, .int .u8 0, .int .u8 0, .int .u8 0, .int .u8 0, .int .u8 0, .int .u8 0, .int .u8 0, .int .u8 0, .int .u8 0, .int .u8 0, .int .u8 0, .int .u8 0, .int .u8 0, .int .u8 0, .int .u8 0] rfl
      go_wp2_with (first
        | (at_builtin; refine Kd.R_append_rows (Kd.arr 32 (Kd.int .u8) sz1) (w0 := w) w.heap.size rfl (.tmp 17) (.tmp 22) 44 27 _ 32 rfl Tryd.underlying44 info27 rfl (by decide) (by omega) u ((ll.take j).map (tagS key)) [T] (some ⟨w4.heap.size, 0, none⟩) 1 1 (fun _ => True) (fun _ => False) rfl rfl (Kd.R_alloc hU4.out _) (one_sum w4 T HLT.out) (fun _ _ h => h) (fun _ h => h.elim) (fun _ _ => trivial) (hB4.alloc hz4 _) (Nat.le_trans hz4 (by simp)) (by rw [HLJ.out]; omega) ?_; intro v7 w7 ho7 hb7 hx7 hy7; clear hx7 hy7; rw [← HT.out, HNEXT.out] at ho7; have HO7 := Aside0.mk ho7; clear ho7))
      go_roundw
      case rel => exact ⟨j + 1, _, by omega, by go_num, rfl, HO7, hb7⟩
      case measure => simp [intOf]; omega
    · have hge : ¬ (j : Int) < (n : Int) := by omega
      have hjn : j = n := by omega
      have hU' := hU.out
      rw [hjn, List.take_of_length_le (by rw [HLN.out]; omega)] at hU'
      have HU' := Aside0.mk hU'
      clear hU' hU
      go_wp2_with fail
      go_ret
      exact ⟨_, rfl, HU'.out, hb⟩
set_option maxHeartbeats 2000000 in
set_option maxRecDepth 100000 in
theorem holds42_nil {s : List Int} {A B : Option Addr} {n c m d : Nat} {ll : List (List Int)} {w : World} (hr : Rd w A n c s) (hS : IsB s) (hP : Pt w B m d ll) (hB : ∀ l ∈ ll, IsB l) (hl : 64 + ll.flatten.length ≤ 140737488351232) (ht : Tb w) :
    Calls Tryd.prog 42 #[.pointer none, .slice A n c, .slice B m d] w fun e w' => e = .returned (.bool (eqB (tagS [] ll.flatten) s)) ∧ Below w.heap.size w w' := by
  have hl32 := tagS_length [] ll.flatten
  have hIT := tagS_isB [] ll.flatten
  have HTT : Aside0 (tagS [] ll.flatten = tagS [] ll.flatten) := ⟨rfl⟩
  obtain ⟨T, HT⟩ : ∃ T, Aside0 (tagS [] ll.flatten = T) := ⟨_, ⟨rfl⟩⟩
  rw [HT.out] at hl32 hIT
  have HL := Aside0.mk hl32
  clear hl32
  go_enter Tryd.func42, Tryd.ntmps42
  go_wp2_with fail
  refine (Tag_nil hP hB hl ht).mono ?_
  rintro x w2 ⟨rfl, hb2⟩
  rw [HT.out]
  go_wp2_with (first
    | (refine store_arr rfl 27 (.tmp 7) (.tmp 10) rfl w2.heap.size .u8 T rfl rfl 27 32 _ (heap_alloc_new _ _) size27 HL.out rfl ?_; intro w3 hO3 hg3; have hb3 := (hb2.alloc hb2.size _).grown hg3 (Nat.le_trans hb2.size (by simp)) (fun k hk => by cases hk; exact hb2.size); have hr3 := rd_blk32 hO3 HL.out; clear hO3 hg3))
  refine (same73_c hr3 (hr.below hb3) hIT hS (by omega)).mono ?_
  rintro x w4 ⟨rfl, rfl⟩
  go_wp2_with fail
  go_ret
  exact ⟨by rw [HT.out]; rfl, hb3⟩
theorem reps_nums {T : List Int} {cs : List Value} {w : World} (hl : cs.length = 32 * 1) (h : T.length = 32 ∧ Reps ((Kd.int .u8).K w) 1 T cs) : cs = nums .u8 T := by
  apply List.ext_getElem?
  intro i
  rcases Nat.lt_or_ge i 32 with hi | hi
  · have hT : T[i]? = some (T.getD i 0) := by rw [List.getD_eq_getElem?_getD, List.getElem?_eq_getElem (by omega)]; rfl
    have h2 : (cs.drop (i * 1)).take 1 = [.int .u8 (T.getD i 0)] := h.2.2 i _ hT
    rw [Nat.mul_one] at h2
    rw [nums_get .u8 T i (by omega)]
    have h3 := congrArg (fun l => l[0]?) h2
    simpa [List.getElem?_take, List.getElem?_drop] using h3
  · rw [List.getElem?_eq_none (by omega), List.getElem?_eq_none (by rw [nums_length]; omega)]
/-- One tag in a slice of its own: its bytes lie at the block's head. -/
theorem tg_range {w : World} {base : Nat} {v : Value} {T : List Int} (h : Tg w base v [T]) : ∃ g c, v = .slice (some ⟨g, 0, none⟩) 1 c ∧ w.rangeAt g 0 (nums .u8 T) := by
  obtain ⟨g, cap, rfl, _, _, _⟩ := Kd.R_form h (by simp)
  obtain ⟨A, c, hv, hc, hC⟩ := Kd.R_reads h
  injection hv with e1 e2 e3
  subst e1
  obtain ⟨ad, cs, e, hl, hK, hcell⟩ := Kd.C_get hC [] (0 : Int) (by omega) (by simp)
  injection e with e
  subst e
  have hcs := reps_nums hl hK
  subst hcs
  refine ⟨g, cap, rfl, fun j u hj => ?_⟩
  have := hcell j u hj
  rw [add_plain] at this
  simpa using this
end Go.Proofs.YtmmbonlidcbkcaaDoor.MacMany
