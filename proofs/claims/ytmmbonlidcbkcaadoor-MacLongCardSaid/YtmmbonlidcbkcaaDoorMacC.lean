/- mac.begun, mac.New: a key, both sums as they are behind its block. -/
import Derived.Test.YtmmbonlidcbkcaaDoorDgLaw
import Derived.Test.YtmmbonlidcbkcaaDoorHmac
import Derived.Deep.RegionHeld3
import Derived.Deep.Cut
namespace Go.Proofs.YtmmbonlidcbkcaaDoor.MacC
open Go.RowKit Go.Proofs.YtmmbonlidcbkcaaDoorW.PrintWords Go.Proofs.YtmmbonlidcbkcaaDoor.Num Go.Proofs.YtmmbonlidcbkcaaDoor.Sha Go.Proofs.YtmmbonlidcbkcaaDoor.Hmac Go.Proofs.YtmmbonlidcbkcaaDoor.WordC Go.Proofs.YtmmbonlidcbkcaaDoor.Arr Go.Proofs.YtmmbonlidcbkcaaDoor.App Go.Proofs.YtmmbonlidcbkcaaDoor.DgC Go.Proofs.YtmmbonlidcbkcaaDoor.DgBlock Go.Proofs.YtmmbonlidcbkcaaDoor.DgState Go.Proofs.YtmmbonlidcbkcaaDoor.DgAdd Go.Proofs.YtmmbonlidcbkcaaDoor.DgSum Go.Proofs.YtmmbonlidcbkcaaDoor.DgOf Go.Proofs.YtmmbonlidcbkcaaDoor.DgLaw Go.Proofs.YtmmbonlidcbkcaaDoor.DgWords
set_option linter.unusedVariables false
set_option linter.unusedSimpArgs false

/-- The block when so many of its bytes have been turned. -/
def mixT (K : List Int) (y : Int) (T : Nat) : List Int := (K.take T).map (fun x => xor8 x y) ++ K.drop T
theorem mixT_length (K : List Int) (y : Int) (T : Nat) : (mixT K y T).length = K.length := by simp [mixT]; omega
theorem mixT_zero (K : List Int) (y : Int) : mixT K y 0 = K := by simp [mixT]
theorem mixT_full (K : List Int) (y : Int) (h : K.length = 64) : mixT K y 64 = K.map (fun x => xor8 x y) := by
  unfold mixT; rw [List.take_of_length_le (by omega), List.drop_of_length_le (by omega), List.append_nil]
theorem mixT_getD (K : List Int) (y : Int) (T : Nat) (h : T < K.length) : (mixT K y T).getD T 0 = K.getD T 0 := by
  have hl : ((K.take T).map (fun x => xor8 x y)).length = T := by simp; omega
  simp only [mixT, List.getD_eq_getElem?_getD]
  rw [List.getElem?_append_right (by omega), hl, Nat.sub_self, List.getElem?_drop]; rfl
theorem mixT_set (K : List Int) (y : Int) (T : Nat) (h : T < K.length) : (mixT K y T).set T (xor8 (K.getD T 0) y) = mixT K y (T + 1) := by
  have hl : ((K.take T).map (fun x => xor8 x y)).length = T := by simp; omega
  have e1 : K.take (T + 1) = K.take T ++ [K[T]] := by rw [List.take_add_one, List.getElem?_eq_getElem h]; rfl
  have e2 : K.getD T 0 = K[T] := by rw [List.getD_eq_getElem?_getD, List.getElem?_eq_getElem h]; rfl
  unfold mixT
  rw [List.set_append_right _ _ (by omega), hl, Nat.sub_self, List.drop_eq_getElem_cons h, List.set_cons_zero, e1, e2, List.map_append, List.append_assoc]; rfl
theorem size94 : (Tryd.prog.info? 94).map (·.size) = some 64 := by kernel_rfl
theorem rd_blk64 {w : World} {g t : Nat} {S : List Int} (h : Blk w g t (nums .u8 S)) (hl : S.length = 64) : Rd w (some ⟨g, 0, none⟩) 64 64 S := by
  have := rd_of_blk (t := t) (cs := nums .u8 S) h 0 S 64 (by omega) (by omega) (fun j hj => by rw [Nat.zero_add]; exact nums_get .u8 S j hj)
  rw [hl] at this; exact this
set_option maxHeartbeats 4000000 in
set_option maxRecDepth 100000 in
theorem begun_c {K : List Int} {y : Int} {w : World} (hK : K.length = 64) (hKB : IsB K) (hy : 0 ≤ y ∧ y < 256) (ht : Tb w) :
    Calls Tryd.prog 72 #[.agg (nums .u8 K).toArray, .int .u8 y] w fun e w' => ∃ g v, e = .returned (.pointer (some ⟨g, 0, none⟩)) ∧ St w' w.heap.size g v (K.map (fun x => xor8 x y)) ∧ Below w.heap.size w w' := by
  have ht0 := ht.lt
  have HK := Aside0.mk hK
  clear hK
  go_enter Tryd.func72, Tryd.ntmps72
  go_wp2_with fail
  have hB0 : Below w.heap.size w (w.alloc (.cells (nums .u8 K).toArray 94)) := (Below.refl _ w).alloc (Nat.le_refl _) _
  have hX0 : Aside0 (Blk (w.alloc (.cells (nums .u8 K).toArray 94)) w.heap.size 94 (nums .u8 (mixT K y 0))) := ⟨by rw [mixT_zero]; exact heap_alloc_new _ _⟩
  go_loopw [7] (fun i wr => ∃ T : Nat, T ≤ 64 ∧ i = .int .i64 T ∧ Aside0 (Blk wr w.heap.size 94 (nums .u8 (mixT K y T))) ∧ Below w.heap.size w wr) (fun i _ => 64 - (intOf i).toNat)
  case atStart => exact ⟨0, by omega, rfl, hX0, hB0⟩
  case round =>
    clear hX0 hB0
    obtain ⟨T, hT, rfl, hX, hb⟩ := hrel
    by_cases hlt : T < 64
    · have hlt' : (T : Int) < 64 := by omega
      have hnext := mixT_set K y T (by rw [HK.out]; exact hlt)
      have cX : wr.cell? ⟨w.heap.size, T, none⟩ = some (.int .u8 (K.getD T 0)) := by rw [← mixT_getD K y T (by rw [HK.out]; exact hlt)]; exact blk_num hX.out T (by rw [mixT_length, HK.out]; exact hlt)
      have fX := Blk.frozen hX.out T
      generalize K.getD T 0 = x1 at *
      have hX' : Aside0 (Blk (wr.setCell ⟨w.heap.size, T, none⟩ (.int .u8 (bits BinOp.xor IntKind.u8 x1 y))) w.heap.size 94 (nums .u8 (mixT K y (T + 1)))) := ⟨by
        rw [← hnext]; exact blk_put hX.out T _⟩
      have hb' : Below w.heap.size w (wr.setCell ⟨w.heap.size, T, none⟩ (.int .u8 (bits BinOp.xor IntKind.u8 x1 y))) := hb.setCell (by show w.heap.size ≤ w.heap.size; omega) _
      clear hnext
      go_wp2_with fail
      go_roundw
      case rel => exact ⟨T + 1, by omega, by go_num, hX', hb'⟩
      case measure => simp [intOf]; omega
    · have hge : ¬ (T : Int) < 64 := by omega
      have h64 : T = 64 := by omega
      have hX' := hX.out
      rw [h64, mixT_full K y HK.out] at hX'
      have hl64 : (K.map (fun x => xor8 x y)).length = 64 := by rw [List.length_map]; exact HK.out
      have hIB : IsB (K.map (fun x => xor8 x y)) := fun x hx => by
        obtain ⟨z, hz, rfl⟩ := List.mem_map.1 hx
        exact xor8_range (hKB z hz) hy
      obtain ⟨P, HP⟩ : ∃ P, Aside0 (K.map (fun x => xor8 x y) = P) := ⟨_, ⟨rfl⟩⟩
      rw [HP.out] at hX' hl64 hIB
      have HX' := Aside0.mk hX'
      have HL := Aside0.mk hl64
      clear h64 hX' hX hl64
      go_wp2_with fail
      refine New_c.mono ?_
      rintro x w1 ⟨g, rfl, hS1, hb1⟩
      have hB1 := below_next hb hb1
      have hX1 := Blk.below HX'.out hb1
      go_wp2_with fail
      refine (Add_c hS1 (rd_blk64 hX1 HL.out) hIB (ht.below hB1) (by have := hb.size; omega) hb1.size (by simp)).mono ?_
      rintro x w2 ⟨rfl, v2, hS2, hf2, hat2⟩
      have hB2 := hf2.below hb1 hb1.size hS1.ge hS1.row_ge
      rw [List.nil_append] at hS2
      have HS2 := Aside0.mk (hS2.lower hb.size)
      have hB3 := below_next hb hB2
      clear hS1 hS2 hf2 hat2
      go_wp2_with fail
      go_ret
      exact ⟨g, v2, rfl, by rw [HP.out]; exact HS2.out, hB3⟩
theorem other {v v' : Value} {N : Nat} (h : ∀ k, v.ownBlock = some k → k < N) (h' : ∀ k, v'.ownBlock = some k → N ≤ k) : v'.ownBlock = none ∨ v'.ownBlock ≠ v.ownBlock := by
  cases hv : v'.ownBlock with
  | none => exact .inl rfl
  | some k => exact .inr (fun e => by have := h k e.symm; have := h' k hv; omega)
theorem other' {v v1 v' : Value} {N : Nat} (h : v1.ownBlock = v.ownBlock ∨ ∃ k, v1.ownBlock = some k ∧ N ≤ k) (h' : v'.ownBlock = none ∨ v'.ownBlock ≠ v.ownBlock) (hl : ∀ k, v'.ownBlock = some k → k < N) : v1.ownBlock = none ∨ v1.ownBlock ≠ v'.ownBlock := by
  rcases h with e | ⟨k, e, hk⟩
  · rcases h' with e' | e'
    · cases hv : v1.ownBlock with
      | none => exact .inl rfl
      | some q => exact .inr (fun x => by rw [e'] at x; cases x)
    · exact .inr (fun x => e' (by rw [← x, e]))
  · exact .inr (fun x => by have := hl k (by rw [← x, e]); omega)
theorem far_state {w : World} {base base' g g' : Nat} {v v' : Value} {b b' : List Int} (h : St w base g v b) (h' : St w base' g' v' b') : some g ≠ v'.ownBlock := Qw.ne h'.tail h.blk (by decide)
theorem ow_lt {w : World} {base : Nat} {u : Value} {xs : List Int} (h : Ow w base u xs) : ∀ k, u.ownBlock = some k → k < w.heap.size := fun k hk => by
  obtain ⟨inner, hi⟩ := Kd.R_own h
  exact own_lt hi k hk
/-- A key, as it lies. -/
structure Ky (w : World) (base kb : Nat) (key : List Int) : Prop where
  isB : IsB key
  st : ∃ gi vi go vo, Blk w kb 97 [.pointer (some ⟨gi, 0, none⟩), .pointer (some ⟨go, 0, none⟩)] ∧ St w base gi vi (padS key 54) ∧ St w base go vo (padS key 92)
theorem Ky.below {w w1 : World} {base kb : Nat} {key : List Int} (h : Ky w base kb key) (hb : Below w.heap.size w w1) : Ky w1 base kb key := by
  obtain ⟨hB, gi, vi, go, vo, h1, h2, h3⟩ := h
  exact ⟨hB, gi, vi, go, vo, Blk.below h1 hb, h2.below hb, h3.below hb⟩
theorem copy_blk {P : Program} {ops : Array Oper} {rest : List Oper} {o : Oper} {a : Act} {w : World} {Q : Exit → Act → World → Prop} (hgd : o.guard = none) (d s : Operand) (dT sT : TypeId)
    (ho : o.op = .call { callee := .builtin .copy, args := #[d, s], argTypes := #[dT, sT] }) (elem : TypeId) (hu : P.underlying dT = some (.slice elem)) (hsz : (P.info? elem).map (·.size) = some 1)
    (g off dLen dCap : Nat) (sp : Option Addr) (sLen sCap : Nat) (hd : a.eval d = .slice (some ⟨g, off, none⟩) dLen dCap) (hs : a.eval s = .slice sp sLen sCap)
    (cur : List Value) (t : Nat) (hg : Blk w g t cur) (l : List Int) (hr : Rd w sp sLen sCap l) (hn : sLen ≤ dLen) (hfit : off + sLen ≤ cur.length)
    (h : ∀ w', Blk w' g t (cur.take off ++ nums .u8 l ++ cur.drop (off + sLen)) → w.grownBy w' (some g) → wpList P ops Q rest (a.put o.dst (.int .i64 sLen)) w') : wpList P ops Q (o :: rest) a w := by
  refine wpList_plain hgd fun K hK => ?_
  have hw : Region.wanted o (yielded ops a.tmps) = true := by simp [Region.wanted, hgd]
  have := step_copy_blk (P := P) (ops := ops) (K := K) (Q := Q) (E := False) hgd d s dT sT ho elem hu hsz g off dLen dCap sp sLen sCap hd hs cur t hg l hr hn hfit (fun w' h1 h2 => hK _ _ (h w' h1 h2))
  rwa [if_pos hw] at this
theorem range_blk {w : World} {g t : Nat} {cs : List Value} (h : Blk w g t cs) : w.rangeAt g 0 cs := fun j v hj => by
  rw [Nat.zero_add, Blk.cell h j]; exact hj
/-- Behind the copy: the key's bytes, and noughts. -/
theorem key_cells (k : List Int) (h : k.length ≤ 64) : (nums .u8 (List.replicate 64 0)).take 0 ++ nums .u8 k ++ (nums .u8 (List.replicate 64 0)).drop (0 + k.length) = nums .u8 (k ++ List.replicate (64 - k.length) 0) := by
  rw [List.take_zero, List.nil_append, Nat.zero_add]
  unfold nums
  rw [← List.map_drop, ← List.map_append, List.drop_replicate]
end Go.Proofs.YtmmbonlidcbkcaaDoor.MacC
