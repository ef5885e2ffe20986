/- digest.block, walked: one block. -/
import Derived.Test.YtmmbonlidcbkcaaDoorDgWords
import Derived.Lib.LaidTab
namespace Go.Proofs.YtmmbonlidcbkcaaDoor.DgBlock
open Go.RowKit Go.Proofs.YtmmbonlidcbkcaaDoorW.PrintWords Go.Proofs.YtmmbonlidcbkcaaDoor.Num Go.Proofs.YtmmbonlidcbkcaaDoor.Sha Go.Proofs.YtmmbonlidcbkcaaDoor.WordC Go.Proofs.YtmmbonlidcbkcaaDoor.Arr Go.Proofs.YtmmbonlidcbkcaaDoor.App Go.Proofs.YtmmbonlidcbkcaaDoor.DgC Go.Proofs.YtmmbonlidcbkcaaDoor.DgWords
set_option linter.unusedVariables false
set_option linter.unusedSimpArgs false

/-- The program's table of keys, as it lies. -/
def Tb (w : World) : Prop := ∃ t fr, w.heap[0]? = some (.cells (nums .u32 keysS).toArray t fr)
theorem Tb.lt {w : World} (h : Tb w) : 0 < w.heap.size := by
  obtain ⟨t, fr, h⟩ := h
  exact (Array.getElem?_eq_some_iff.1 h).1
theorem Tb.below {w w1 : World} (h : Tb w) (hb : Below w.heap.size w w1) : Tb w1 := by
  have hl := h.lt
  obtain ⟨t, fr, h⟩ := h
  exact ⟨t, fr, (hb.block 0 hl).trans h⟩
theorem load_tb {P : Program} {ops : Array Oper} {rest : List Oper} {o : Oper} {a : Act} {w : World} {Q : Exit → Act → World → Prop} (hgd : o.guard = none) (ty : TypeId) (ho : o.op = .load ty (.global 0))
    (hg : Tb w) (e : Nat) (hu : P.underlying ty = some (.array 64 e)) (hi : (P.info? ty).map (·.size) = some 64)
    (h : wpList P ops Q rest (a.put o.dst (.agg (nums .u32 keysS).toArray)) w) : wpList P ops Q (o :: rest) a w := by
  obtain ⟨t, fr, hg⟩ := hg
  exact wpList_load_row hgd ty (.global 0) ho 0 rfl t _ fr _ hg hu rfl (by rw [size_nums]; exact hi) h
theorem Blk.grown {w w' : World} {g p t : Nat} {cs : List Value} (h : Blk w g t cs) (hg : w.grownBy w' (some p)) (hne : g ≠ p) : Blk w' g t cs :=
  (hg.block g (Blk.lt h) (by intro e; cases e; exact hne rfl)).trans h
/-- A copy of cells into a block. -/
theorem step_copy_row {P : Program} {ops : Array Oper} {o : Oper} {a : Act} {w : World} {K : Act → World → Prop} {Q : Exit → Act → World → Prop} {E : Prop} (hgd : o.guard = none) (d s : Operand) (dT sT : TypeId)
    (ho : o.op = .call { callee := .builtin .copy, args := #[d, s], argTypes := #[dT, sT] }) (elem : TypeId) (hu : P.underlying dT = some (.slice elem)) (hsz : (P.info? elem).map (·.size) = some 1)
    (g off dLen dCap : Nat) (ad : Addr) (sLen sCap : Nat) (hd : a.eval d = .slice (some ⟨g, off, none⟩) dLen dCap) (hs : a.eval s = .slice (some ad) sLen sCap)
    (cur : List Value) (t : Nat) (hg : Blk w g t cur) (xs : List Value) (hx : xs.length = Nat.min sLen dLen) (hsrc : ∀ j v, xs[j]? = some v → w.cell? (ad.add j) = some v) (hfit : off + xs.length ≤ cur.length) (hone : ∀ v ∈ xs, v.oneCell' = true)
    (h : ∀ w', Blk w' g t (cur.take off ++ xs ++ cur.drop (off + xs.length)) → w.grownBy w' (some g) → K (a.put o.dst (.int .i64 xs.length)) w') :
    if Region.wanted o (yielded ops a.tmps) = true then Oper.wp P o a w K Q else E := by
  have hw : Region.wanted o (yielded ops a.tmps) = true := by simp [Region.wanted, hgd]
  rw [if_pos hw]
  have hrun := run_copy_row (P := P) w dT sT o.type elem g off dLen dCap ad sLen sCap cur.toArray t xs hu hsz hg hx hsrc (by simpa using hfit) hone
  unfold Oper.wp
  simp [execOp, ho, resolve, invoke, builtin, hd, hs, hrun, Result.andThen]
  have h1 := h (w.setRow g (cur.take off ++ xs ++ cur.drop (off + xs.length)).toArray) (setRow_heap w g _ _ t _ hg)
    ⟨rfl, rfl, rfl, by simp [World.setRow], fun k hk hne => setRow_other w g k _ (fun e => hne (by rw [e]))⟩
  simp only [goInt]
  simp only [List.append_assoc] at h1 ⊢
  exact h1
theorem size88 : (Tryd.prog.info? 88).map (·.size) = some 1 := by kernel_rfl
/-- The words as they stand when so many have been added. -/
def mixS (s r : H8) (i : Nat) : List Int := [if 0 < i then (s.a + r.a) % 4294967296 else s.a, if 1 < i then (s.b + r.b) % 4294967296 else s.b, if 2 < i then (s.c + r.c) % 4294967296 else s.c, if 3 < i then (s.d + r.d) % 4294967296 else s.d, if 4 < i then (s.e + r.e) % 4294967296 else s.e, if 5 < i then (s.f + r.f) % 4294967296 else s.f, if 6 < i then (s.g + r.g) % 4294967296 else s.g, if 7 < i then (s.h + r.h) % 4294967296 else s.h]
theorem mixS_length (s r : H8) (i : Nat) : (mixS s r i).length = 8 := rfl
theorem mixS_zero (s r : H8) : mixS s r 0 = s.list := rfl
theorem mixS_full (s r : H8) : mixS s r 8 = (addS s r).list := rfl
theorem mixS_getD (s r : H8) (i : Nat) (h : i < 8) : (mixS s r i).getD i 0 = s.list.getD i 0 := by
  have hc : i = 0 ∨ i = 1 ∨ i = 2 ∨ i = 3 ∨ i = 4 ∨ i = 5 ∨ i = 6 ∨ i = 7 := by omega
  rcases hc with rfl | rfl | rfl | rfl | rfl | rfl | rfl | rfl <;> rfl
theorem mixS_set (s r : H8) (i : Nat) (h : i < 8) : (mixS s r i).set i ((s.list.getD i 0 + r.list.getD i 0) % 4294967296) = mixS s r (i + 1) := by
  have hc : i = 0 ∨ i = 1 ∨ i = 2 ∨ i = 3 ∨ i = 4 ∨ i = 5 ∨ i = 6 ∨ i = 7 := by omega
  rcases hc with rfl | rfl | rfl | rfl | rfl | rfl | rfl | rfl <;> rfl
theorem size89 : (Tryd.prog.info? 89).map (·.size) = some 8 := by kernel_rfl
theorem info88 : (Tryd.prog.info? 88).map (·.size) = some 1 := by kernel_rfl
theorem index_nums (l : List Int) (hl : l.length = 64) (t : Nat) (ht : t < 64) (w : World) : (Instr.index 110 (.agg (nums .u32 l).toArray) (.int .i64 t)).run Tryd.prog w = .ok (.int .u32 (l.getD t 0)) w := by
  obtain ⟨i, hi, hz⟩ := Option.map_eq_some_iff.1 info88
  have hn : (0 : Int) ≤ (t : Int) ∧ (t : Int) < 64 := by omega
  have hk := nums_get .u32 l t (by omega)
  have hg : (isAgg 88).run Tryd.prog w = .ok false w := by
    unfold isAgg
    rw [Sem.run_bind, run_underlying Tryd.underlying88]
    rfl
  simp [Instr.index, run_underlying Tryd.underlying110, asIntOf, hn, go_sem, Go.sizeOf, typeInfo, hi, hz, ht, hg, hk]
theorem list8_length (s : H8) : s.list.length = 8 := rfl
set_option maxHeartbeats 8000000 in
set_option maxRecDepth 100000 in
theorem block_c {A : Option Addr} {c : Nat} {l : List Int} {s : H8} {w : World} (hs : s.ok) (hr : Rd w A 64 c l) (hb : IsB l) (ht : Tb w) :
    Calls Tryd.prog 69 #[.agg (nums .u32 s.list).toArray, .slice A 64 c] w fun e w' => e = .returned (.agg (nums .u32 (blockS s l).list).toArray) ∧ Below w.heap.size w w' := by
  go_enter Tryd.func69, Tryd.ntmps69
  go_wp2_with fail
  generalize hW : (w.alloc _).alloc _ = W0
  have hX : Blk W0 w.heap.size 89 (nums .u32 s.list) := by rw [← hW]; exact heap_alloc2_old _ _ _
  have hY : Blk W0 (w.heap.size + 1) 89 (nums .u32 (List.replicate 8 0)) := by rw [← hW]; exact heap_alloc2_new _ _ _
  have hB0 : Below w.heap.size w W0 := by rw [← hW]; exact ((Below.refl _ w).alloc (Nat.le_refl _) _).alloc (by simp) _
  have hz0 : W0.heap.size = w.heap.size + 2 := by rw [← hW]; simp
  clear hW
  refine (words_c (hr.below hB0) hb).mono ?_
  rintro x w1 ⟨rfl, hb1⟩
  have hX1 := hX.below hb1
  have hY1 := hY.below hb1
  have hz1 := hb1.size
  have hB1 := below_next hB0 hb1
  clear hX hY
  have hS := schedS_isW hb
  obtain ⟨S, HSE⟩ : ∃ S, Aside0 (schedS l = S) := ⟨_, ⟨rfl⟩⟩
  rw [HSE.out] at hS
  have HSL : Aside0 (S.length = 64) := ⟨by rw [← HSE.out]; exact schedS_length l⟩
  rw [HSE.out]
  have hz : w.heap.size + 2 ≤ w1.heap.size := by omega
  clear hz0 hz1
  go_wp2_with (first
    | (refine store_arr rfl 110 (.tmp 5) (.tmp 13) rfl w1.heap.size .u32 S rfl rfl 110 64 _ (heap_alloc_new _ _) size110 HSL.out rfl ?_; intro w2 hW2 hg2; have hX2 := Blk.grown (hX1.alloc _) hg2 (by omega); have hY2 := Blk.grown (hY1.alloc _) hg2 (by omega); have hB2 := (hB1.alloc (by omega) _).grown hg2 (by simp; omega) (fun k hk => by cases hk; omega); have hz2 : w1.heap.size + 1 ≤ w2.heap.size := by have := hg2.size; simpa using this)
    | (refine load_arr rfl 89 (.tmp 2) rfl w.heap.size rfl 89 .u32 s.list 8 88 hX2 Tryd.underlying89 size89 (list8_length s) ?_)
    | (refine store_arr rfl 89 (.tmp 6) (.tmp 14) rfl w2.heap.size .u32 s.list rfl rfl 89 8 _ (heap_alloc_new _ _) size89 (list8_length s) rfl ?_; intro w3 hV3 hg3; have hX3 := Blk.grown (hX2.alloc _) hg3 (by omega); have hY3 := Blk.grown (hY2.alloc _) hg3 (by omega); have hW3 := Blk.grown (hW2.alloc _) hg3 (by omega); have hB3 := (hB2.alloc (by omega) _).grown hg3 (by simp; omega) (fun k hk => by cases hk; omega))
    | (refine load_tb rfl 110 rfl (ht.below hB3) 88 Tryd.underlying110 size110 ?_))
  have g12 : w1.heap.size < w2.heap.size := by omega
  have HX3 := Aside0.mk hX3
  have HY3 := Aside0.mk hY3
  have HW3 := Aside0.mk hW3
  have HV3 : Aside0 (Blk w3 w2.heap.size 89 (nums .u32 (roundsS s S 0).list)) := ⟨hV3⟩
  clear hX3 hY3 hW3 hV3 hX2 hY2 hW2 hX1 hY1 hg2 hg3 hB1 hB2 hb1 hz2
  generalize w1.heap.size = g5 at *
  generalize w2.heap.size = g6 at *
  go_loopw [16] (fun i wr => ∃ t : Nat, t ≤ 64 ∧ i = .int .i64 t ∧ Aside0 (Blk wr g6 89 (nums .u32 (roundsS s S t).list)) ∧ Aside0 (Blk wr g5 110 (nums .u32 S)) ∧ Aside0 (Blk wr w.heap.size 89 (nums .u32 s.list)) ∧ Aside0 (Blk wr (w.heap.size + 1) 89 (nums .u32 (List.replicate 8 0))) ∧ Below w.heap.size w wr) (fun i _ => 64 - (intOf i).toNat)
  case atStart => exact ⟨0, by omega, rfl, HV3, HW3, HX3, HY3, hB3⟩
  case round =>
    obtain ⟨t, ht64, rfl, hV, hW, hX, hY, hB⟩ := hrel
    by_cases hlt : t < 64
    · have hlt' : (t : Int) < 64 := by omega
      have hR := roundsS_ok hs S t
      obtain ⟨R, HRE⟩ : ∃ R, Aside0 (roundsS s S t = R) := ⟨_, ⟨rfl⟩⟩
      rw [HRE.out] at hV hR
      obtain ⟨a1, a2, a3, a4, a5, a6, a7, a8⟩ := R
      rw [H8.ok_iff] at hR
      have hix : ∀ W : World, (Instr.index 110 (.agg (nums .u32 keysS).toArray) (.int .i64 (t : Int))).run Tryd.prog W = .ok (.int .u32 (keysS.getD t 0)) W := index_nums keysS rfl t hlt
      have c1 : wr.cell? ⟨g6, 0, none⟩ = some (.int .u32 a1) := Blk.cell hV.out 0
      have c2 : wr.cell? ⟨g6, 1, none⟩ = some (.int .u32 a2) := Blk.cell hV.out 1
      have c3 : wr.cell? ⟨g6, 2, none⟩ = some (.int .u32 a3) := Blk.cell hV.out 2
      have c5 : wr.cell? ⟨g6, 4, none⟩ = some (.int .u32 a5) := Blk.cell hV.out 4
      have c6 : wr.cell? ⟨g6, 5, none⟩ = some (.int .u32 a6) := Blk.cell hV.out 5
      have c7 : wr.cell? ⟨g6, 6, none⟩ = some (.int .u32 a7) := Blk.cell hV.out 6
      have c8 : wr.cell? ⟨g6, 7, none⟩ = some (.int .u32 a8) := Blk.cell hV.out 7
      have cW : wr.cell? ⟨g5, t, none⟩ = some (.int .u32 (S.getD t 0)) := blk_num hW.out t (by rw [HSL.out]; exact hlt)
      generalize hkx : keysS.getD t 0 = kx at *
      generalize hwx : S.getD t 0 = wx at *
      have HKX := Aside0.mk hkx
      have HWX := Aside0.mk hwx
      clear hkx hwx
      go_wp2_with fail
      go_region_held3 (fun w' => w'.cell? ⟨g6, 0, none⟩ = some (.int .u32 a1) ∧ w'.cell? ⟨g6, 1, none⟩ = some (.int .u32 a2) ∧ w'.cell? ⟨g6, 2, none⟩ = some (.int .u32 a3) ∧ w'.cell? ⟨g6, 4, none⟩ = some (.int .u32 a5) ∧ w'.cell? ⟨g6, 5, none⟩ = some (.int .u32 a6) ∧ w'.cell? ⟨g6, 6, none⟩ = some (.int .u32 a7) ∧ w'.cell? ⟨g6, 7, none⟩ = some (.int .u32 a8) ∧ w'.cell? ⟨g5, t, none⟩ = some (.int .u32 wx))
        (first | exact ⟨c1, c2, c3, c5, c6, c7, c8, cW⟩ | go_keep)
        (first | (go_at_call 85; (with_reducible refine (high_c hR.2.2.2.2.1.1 hR.2.2.2.2.1.2).mono ?_); rintro x w4 ⟨rfl, ⟨n4, rfl⟩⟩))
      generalize hU : IntKind.u32.wrap (IntKind.u32.wrap _ + wx) = U
      have HU := Aside0.mk hU
      clear hU
      go_wp2_with fail
      go_region_held3 (fun w' => w'.cell? ⟨g6, 0, none⟩ = some (.int .u32 a1) ∧ w'.cell? ⟨g6, 1, none⟩ = some (.int .u32 a2) ∧ w'.cell? ⟨g6, 2, none⟩ = some (.int .u32 a3))
        (first | exact ⟨c1, c2, c3⟩ | go_keep)
        (first | (go_at_call 86; (with_reducible refine (low_c hR.1.1 hR.1.2).mono ?_); rintro x w5 ⟨rfl, ⟨n5, rfl⟩⟩))
      generalize hV' : IntKind.u32.wrap (lowS a1 + _) = V
      have HV' := Aside0.mk hV'
      clear hV'
      generalize hX9 : wr.drewN _ = w9
      have hV9 : Blk w9 g6 89 (nums .u32 (H8.list ⟨a1, a2, a3, a4, a5, a6, a7, a8⟩)) := by rw [← hX9]; exact hV.out
      have hb9 : Below w.heap.size w w9 := by rw [← hX9]; exact pw_below_drewN hB _
      have hW9 : Aside0 (Blk w9 g5 110 (nums .u32 S)) := by rw [← hX9]; exact ⟨hW.out⟩
      have hXX9 : Aside0 (Blk w9 w.heap.size 89 (nums .u32 s.list)) := by rw [← hX9]; exact ⟨hX.out⟩
      have hY9 : Aside0 (Blk w9 (w.heap.size + 1) 89 (nums .u32 (List.replicate 8 0))) := by rw [← hX9]; exact ⟨hY.out⟩
      clear hX9 c1 c2 c3 c5 c6 c7 c8 cW hV hW hX hY hB
      obtain ⟨xs, hxs⟩ : ∃ xs : List Value, xs = [.int .u32 a1, .int .u32 a2, .int .u32 a3, .int .u32 a4, .int .u32 a5, .int .u32 a6, .int .u32 a7] := ⟨_, rfl⟩
      have hcs : nums .u32 (H8.list ⟨a1, a2, a3, a4, a5, a6, a7, a8⟩) = xs ++ [.int .u32 a8] := by rw [hxs]; rfl
      have hxl : xs.length = Nat.min 7 7 := by rw [hxs]; rfl
      have hxf : 1 + xs.length ≤ (nums .u32 (H8.list ⟨a1, a2, a3, a4, a5, a6, a7, a8⟩)).length := by rw [hxs]; exact Nat.le_refl _
      have hxo : ∀ v ∈ xs, v.oneCell' = true := by
        intro v hv
        exact nums_one .u32 (H8.list ⟨a1, a2, a3, a4, a5, a6, a7, a8⟩) v (by rw [hcs]; simp [hv])
      have hsrc : ∀ j v, xs[j]? = some v → w9.drew.cell? ((⟨g6, 0, none⟩ : Addr).add j) = some v := by
        intro j v hj
        have e : (⟨g6, 0, none⟩ : Addr).add j = ⟨g6, j, none⟩ := by unfold Addr.add; split <;> simp_all
        rw [e]
        refine (Blk.cell hV9 j).trans ?_
        rw [hcs, List.getElem?_append_left (List.getElem?_eq_some_iff.1 hj).1]
        exact hj
      have HXL := Aside0.mk hxl
      have HXS := Aside0.mk hxs
      clear hxl hxs hcs
      have hV9' : Blk w9.drew g6 89 (nums .u32 (H8.list ⟨a1, a2, a3, a4, a5, a6, a7, a8⟩)) := hV9
      go_wp2_with fail
      go_region_held3 (fun _ => True) (exact trivial)
        (first
         | (refine step_copy_row rfl (.tmp 66) (.tmp 67) 84 84 rfl 88 Tryd.underlying84 size88 g6 1 7 7 ⟨g6, 0, none⟩ 7 8 rfl rfl (nums .u32 (H8.list ⟨a1, a2, a3, a4, a5, a6, a7, a8⟩)) 89 hV9' xs HXL.out hsrc hxf hxo ?_; intro w10 hV10 hg10))
      have hK : Blk w10 g6 89 (nums .u32 [a1, a1, a2, a3, a4, a5, a6, a7]) := by have := hV10; rw [HXS.out] at this; exact this
      have d0 : w10.cell? ⟨g6, 0, none⟩ = some (.int .u32 a1) := Blk.cell hK 0
      have d5 : w10.cell? ⟨g6, 4, none⟩ = some (.int .u32 a4) := Blk.cell hK 4
      have hK2 : Blk (w10.setCell ⟨g6, 0, none⟩ (.int .u32 (IntKind.u32.wrap (U + V)))) g6 89 (nums .u32 [IntKind.u32.wrap (U + V), a1, a2, a3, a4, a5, a6, a7]) := blk_put hK 0 _
      have d6 : (w10.setCell ⟨g6, 0, none⟩ (.int .u32 (IntKind.u32.wrap (U + V)))).cell? ⟨g6, 4, none⟩ = some (.int .u32 a4) := Blk.cell hK2 4
      have f6 : (w10.setCell ⟨g6, 0, none⟩ (.int .u32 (IntKind.u32.wrap (U + V)))).frozen? ⟨g6, 4, none⟩ = false := Blk.frozen hK2 4
      have f0 : w10.frozen? ⟨g6, 0, none⟩ = false := Blk.frozen hK 0
      have f4 : w10.frozen? ⟨g6, 4, none⟩ = false := Blk.frozen hK 4
      have hU' : U = uS ⟨a1, a2, a3, a4, a5, a6, a7, a8⟩ kx wx := by rw [← HU.out]; simp only [IntKind.wrap_u32']; rfl
      have hV' : V = vS ⟨a1, a2, a3, a4, a5, a6, a7, a8⟩ := by rw [← HV'.out]; simp only [IntKind.wrap_u32']; rfl
      have hroll : roundsS s S (t + 1) = ⟨IntKind.u32.wrap (U + V), a1, a2, a3, IntKind.u32.wrap (a4 + U), a5, a6, a7⟩ := by
        show roundS (roundsS s S t) (keysS.getD t 0) (S.getD t 0) = _
        rw [HRE.out, HKX.out, HWX.out, hU', hV', IntKind.wrap_u32', IntKind.wrap_u32']
        rfl
      have hV11 : Aside0 (Blk ((w10.setCell ⟨g6, 0, none⟩ (.int .u32 (IntKind.u32.wrap (U + V)))).setCell ⟨g6, 4, none⟩ (.int .u32 (IntKind.u32.wrap (a4 + U)))) g6 89 (nums .u32 (roundsS s S (t + 1)).list)) := ⟨by
        rw [hroll]
        exact blk_put (blk_put hK 0 _) 4 _⟩
      have hW11 : Aside0 (Blk ((w10.setCell ⟨g6, 0, none⟩ (.int .u32 (IntKind.u32.wrap (U + V)))).setCell ⟨g6, 4, none⟩ (.int .u32 (IntKind.u32.wrap (a4 + U)))) g5 110 (nums .u32 S)) := ⟨Blk.far (Blk.far (Blk.grown (w := w9.drew) hW9.out hg10 (by omega)) (by show g5 ≠ g6; omega) _) (by show g5 ≠ g6; omega) _⟩
      have hX11 : Aside0 (Blk ((w10.setCell ⟨g6, 0, none⟩ (.int .u32 (IntKind.u32.wrap (U + V)))).setCell ⟨g6, 4, none⟩ (.int .u32 (IntKind.u32.wrap (a4 + U)))) w.heap.size 89 (nums .u32 s.list)) := ⟨Blk.far (Blk.far (Blk.grown (w := w9.drew) hXX9.out hg10 (by omega)) (by show w.heap.size ≠ g6; omega) _) (by show w.heap.size ≠ g6; omega) _⟩
      have hY11 : Aside0 (Blk ((w10.setCell ⟨g6, 0, none⟩ (.int .u32 (IntKind.u32.wrap (U + V)))).setCell ⟨g6, 4, none⟩ (.int .u32 (IntKind.u32.wrap (a4 + U)))) (w.heap.size + 1) 89 (nums .u32 (List.replicate 8 0))) := ⟨Blk.far (Blk.far (Blk.grown (w := w9.drew) hY9.out hg10 (by omega)) (by show w.heap.size + 1 ≠ g6; omega) _) (by show w.heap.size + 1 ≠ g6; omega) _⟩
      have hB11 : Below w.heap.size w ((w10.setCell ⟨g6, 0, none⟩ (.int .u32 (IntKind.u32.wrap (U + V)))).setCell ⟨g6, 4, none⟩ (.int .u32 (IntKind.u32.wrap (a4 + U)))) := ((hb9.drew.grown hg10 hb9.drew.size (fun k hk => by cases hk; omega)).setCell (by show w.heap.size ≤ g6; omega) _).setCell (by show w.heap.size ≤ g6; omega) _
      clear hroll hU' hV' hK hV10 hK2
      go_wp2_with fail
      go_roundw
      case rel => exact ⟨t + 1, by omega, by go_num, hV11, hW11, hX11, hY11, hB11⟩
      case measure => simp [intOf]; omega
    · have hge : ¬ (t : Int) < 64 := by omega
      have h64 : t = 64 := by omega
      rw [h64] at hV
      have hR := roundsS_ok hs S 64
      obtain ⟨R, HRE⟩ : ∃ R, Aside0 (roundsS s S 64 = R) := ⟨_, ⟨rfl⟩⟩
      rw [HRE.out] at hV hR
      clear h64
      go_wp2_with fail
      have hX0 : Aside0 (Blk wr w.heap.size 89 (nums .u32 (mixS s R 0))) := ⟨hX.out⟩
      go_loopw [79] (fun i wq => ∃ T : Nat, T ≤ 8 ∧ i = .int .i64 T ∧ Aside0 (Blk wq w.heap.size 89 (nums .u32 (mixS s R T))) ∧ Aside0 (Blk wq g6 89 (nums .u32 R.list)) ∧ Aside0 (Blk wq (w.heap.size + 1) 89 (nums .u32 (List.replicate 8 0))) ∧ Below w.heap.size w wq) (fun i _ => 8 - (intOf i).toNat)
      case atStart => exact ⟨0, by omega, rfl, hX0, hV, hY, hB⟩
      case round =>
        clear hX hY hV hW hX0 hB
        obtain ⟨T, hT8, rfl, hX, hV, hY, hB⟩ := hrel
        by_cases hlt : T < 8
        · have hlt' : (T : Int) < 8 := by omega
          have cX : wr.cell? ⟨w.heap.size, T, none⟩ = some (.int .u32 (s.list.getD T 0)) := by rw [← mixS_getD s R T hlt]; exact blk_num hX.out T hlt
          have cV : wr.cell? ⟨g6, T, none⟩ = some (.int .u32 (R.list.getD T 0)) := blk_num hV.out T hlt
          have fX : wr.frozen? ⟨w.heap.size, T, none⟩ = false := Blk.frozen hX.out T
          have hset := mixS_set s R T hlt
          have HSET := Aside0.mk hset
          clear hset
          generalize s.list.getD T 0 = x1 at *
          generalize R.list.getD T 0 = x2 at *
          go_wp2_with fail
          go_region
          have hX' : Aside0 (Blk (wr.setCell ⟨w.heap.size, T, none⟩ (.int .u32 (IntKind.u32.wrap (x1 + x2)))) w.heap.size 89 (nums .u32 (mixS s R (T + 1)))) := ⟨by rw [← HSET.out, IntKind.wrap_u32']; exact blk_put hX.out T _⟩
          have hV' : Aside0 (Blk (wr.setCell ⟨w.heap.size, T, none⟩ (.int .u32 (IntKind.u32.wrap (x1 + x2)))) g6 89 (nums .u32 R.list)) := ⟨Blk.far hV.out (by show g6 ≠ w.heap.size; omega) _⟩
          have hY' : Aside0 (Blk (wr.setCell ⟨w.heap.size, T, none⟩ (.int .u32 (IntKind.u32.wrap (x1 + x2)))) (w.heap.size + 1) 89 (nums .u32 (List.replicate 8 0))) := ⟨Blk.far hY.out (by show w.heap.size + 1 ≠ w.heap.size; omega) _⟩
          have hB' : Below w.heap.size w (wr.setCell ⟨w.heap.size, T, none⟩ (.int .u32 (IntKind.u32.wrap (x1 + x2)))) := hB.setCell (by show w.heap.size ≤ w.heap.size; omega) _
          go_wp2_with fail
          go_roundw
          case rel => exact ⟨T + 1, by omega, by go_num, ⟨hX'.out⟩, ⟨hV'.out⟩, ⟨hY'.out⟩, hB'.drew⟩
          case measure => simp [intOf]; omega
        · have hge : ¬ (T : Int) < 8 := by omega
          have h8 : T = 8 := by omega
          rw [h8, mixS_full] at hX
          have hend : addS s R = blockS s l := by unfold blockS; rw [← HRE.out, HSE.out]
          rw [hend] at hX
          clear hend h8
          obtain ⟨O, HO⟩ : ∃ O, Aside0 (blockS s l = O) := ⟨_, ⟨rfl⟩⟩
          rw [HO.out] at hX
          go_wp2_with (first
            | (refine load_arr rfl 89 (.tmp 2) rfl w.heap.size rfl 89 .u32 O.list 8 88 hX.out Tryd.underlying89 size89 (list8_length O) ?_)
            | (refine store_arr rfl 89 (.tmp 4) (.tmp 91) rfl (w.heap.size + 1) .u32 O.list rfl rfl 89 8 _ hY.out size89 (list8_length O) rfl ?_; intro w12 hO hg12; have HOO := Aside0.mk hO; clear hO))
          refine bodyPost_ret (v := .agg (nums .u32 O.list).toArray) ?_ rfl ⟨?_, hB.grown hg12 hB.size (fun k hk => by cases hk; omega)⟩
          · refine results_arr (p := 4) (ty := 89) (h := ?_) (g := w.heap.size + 1) (t := 89) (n := 8) (e := 88) (k := .u32) (l := O.list) (hp := ?_) (hg := HOO.out) (hu := Tryd.underlying89) (hi := size89) (hl := list8_length O) ..
            · rfl
            · rfl
          · rw [HO.out]
end Go.Proofs.YtmmbonlidcbkcaaDoor.DgBlock
