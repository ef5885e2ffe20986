/- cipher.Blocks: the iterator, walked. -/
import Derived.Test.YtkjmjgiklelpiaaApp
import Derived.Test.YtkjmjgiklelpiaaQuart
import Derived.Test.YtkjmjgiklelpiaaPlainCipherBlocks
import Derived.Deep.RegionHeld3
import Derived.Deep.Cut
import Derived.Deep.CutRange
import Derived.Test.YtkjmjgiklelpiaaRz
import Derived.Test.YtkjmjgiklelpiaaCiK
import Derived.Test.YtkjmjgiklelpiaaCiB
import Derived.Test.YtkjmjgiklelpiaaCiL
import Derived.OrdersIn
import Derived.Deep.MidRow
namespace Go.Proofs.Ytkjmjgiklelpiaa.ItA
open Go.RowKit Go.Proofs.YtkjmjgiklelpiaaW.PrintWords Go.Proofs.Ytkjmjgiklelpiaa.Num Go.Proofs.Ytkjmjgiklelpiaa.WordC Go.Proofs.Ytkjmjgiklelpiaa.Arr Go.Proofs.Ytkjmjgiklelpiaa.App Go.Proofs.Ytkjmjgiklelpiaa.CiC Go.Proofs.Ytkjmjgiklelpiaa.CiD Go.Proofs.Ytkjmjgiklelpiaa.CiB Go.Proofs.Ytkjmjgiklelpiaa.CiK Go.Proofs.Ytkjmjgiklelpiaa.CiL Go.Proofs.Ytkjmjgiklelpiaa.Rz
set_option linter.unusedVariables false
set_option linter.unusedSimpArgs false

theorem round_n {P : Program} {l : Nat} {f : FuncId} {tmps : Array Value} {assign body : Code} {w : World} {R : Ending → World → Prop} (n m : Nat) (h : RoundIn Fence.wide n P l f tmps assign body w R) : RoundIn Fence.wide m P l f tmps assign body w R :=
  ⟨trivial, fun c cs _ => h.2 c cs (room_wide _)⟩
theorem in_val {P : Program} {n : Nat} {ops : Array Oper} {o : Oper} {a : Act} {w w' : World} {K : Act → World → Prop} {Q : Exit → Act → World → Prop} {v : Value} (hw : Region.wanted o (yielded ops a.tmps) = true)
    (hrun : (execOp a.eval o).run P w = .ok (.value v) w') (h : K (a.put o.dst v) w') : if Region.wanted o (yielded ops a.tmps) = true then Oper.wpIn Fence.wide n P o a w K Q else (∀ f, o.about P w a.eval = some f → Fence.wide.fn f) ∧ K (a.put o.dst undef) w := by
  rw [if_pos hw]
  refine ⟨fun _ _ => trivial, ?_⟩
  show o.uponIn Fence.wide n P a K Q ((execOp a.eval o).run P w)
  rw [hrun]; exact h
theorem in_call {P : Program} {n : Nat} {ops : Array Oper} {o : Oper} {a : Act} {w w' : World} {K : Act → World → Prop} {Q : Exit → Act → World → Prop} {f : FuncId} {args : Array Value} {R : Ending → World → Prop} (hw : Region.wanted o (yielded ops a.tmps) = true)
    (hrun : (execOp a.eval o).run P w = .ok (.enter f args) w') (h : Calls P f args w' R) (hR : ∀ e w'', R e w'' → ∃ v, e = .returned v ∧ K (a.put o.dst v) w'') : if Region.wanted o (yielded ops a.tmps) = true then Oper.wpIn Fence.wide n P o a w K Q else (∀ f, o.about P w a.eval = some f → Fence.wide.fn f) ∧ K (a.put o.dst undef) w := by
  rw [if_pos hw]
  refine ⟨fun _ _ => trivial, ?_⟩
  show o.uponIn Fence.wide n P a K Q ((execOp a.eval o).run P w)
  rw [hrun]
  refine ⟨(fun h => by cases h), callsIn_wide.2 (h.mono ?_)⟩
  rintro e w'' he
  obtain ⟨v, rfl, hk⟩ := hR e w'' he
  exact hk
theorem in_round {P : Program} {n m : Nat} {ops : Array Oper} {o : Oper} {a : Act} {w w' : World} {K : Act → World → Prop} {Q : Exit → Act → World → Prop} {l : Nat} {fn : FuncId} {tmps : Array Value} {assign body : Code} {R : Ending → World → Prop} (hw : Region.wanted o (yielded ops a.tmps) = true)
    (hrun : (execOp a.eval o).run P w = .ok (.round l fn tmps assign body) w') (h : RoundIn Fence.wide m P l fn tmps assign body w' R) (hR : ∀ e w'', R e w'' → ∃ v, e = .returned v ∧ K (a.put o.dst v) w'') : if Region.wanted o (yielded ops a.tmps) = true then Oper.wpIn Fence.wide n P o a w K Q else (∀ f, o.about P w a.eval = some f → Fence.wide.fn f) ∧ K (a.put o.dst undef) w := by
  rw [if_pos hw]
  refine ⟨fun _ _ => trivial, ?_⟩
  show o.uponIn Fence.wide n P a K Q ((execOp a.eval o).run P w)
  rw [hrun]
  refine ⟨(fun h => by cases h), (round_n m (n - 1) h).mono ?_⟩
  rintro e w'' he
  obtain ⟨v, rfl, hk⟩ := hR e w'' he
  exact hk
theorem run_load_arr {P : Program} {o : Oper} {ρ : Operand → Value} {w : World} (ty : TypeId) (x : Operand) (ho : o.op = .load ty x) (g : Nat) (hx : ρ x = .pointer (some ⟨g, 0, none⟩)) (t : TypeId) (k : IntKind) (l : List Int) (n e : Nat) (hg : Blk w g t (nums k l))
    (hu : P.underlying ty = some (.array n e)) (hi : (P.info? ty).map (·.size) = some n) (hl : l.length = n) : (execOp ρ o).run P w = .ok (.value (.agg (nums k l).toArray)) w := by
  have h := run_loadVar_mid (P := P) w g 0 ty (nums k l) (.array n e) (fun j v hj => by rw [Nat.zero_add, Blk.cell hg]; exact hj) hu rfl (by rw [nums_length, hl]; exact hi)
  unfold execOp
  simp only [ho, hx, Instr.loadAt, Instr.sureAddr, Sem.run_bind, Sem.run_pure, Result.andThen_ok, h]
/-- What an iterator gives: the counter, and its block. -/
def encB (G : List Int) (n : Int) (j : Nat) : Array Value := #[.int .u32 (n + j), .agg (nums .u8 (blkS (G.set 12 (n + j)))).toArray]
theorem set12_isW {G : List Int} (h : IsW G) {x : Int} (h0 : 0 ≤ x) (h1 : x < 4294967296) : IsW (G.set 12 x) := by
  intro y hy
  rcases List.mem_or_eq_of_mem_set hy with hy | rfl
  · exact h y hy
  · exact ⟨h0, h1⟩
theorem Blk.below' {A B : World} {N g t : Nat} {cs : List Value} (h : Blk A g t cs) (hb : Below N A B) (hg : g < N) : Blk B g t cs := (hb.block g hg).trans h
set_option maxHeartbeats 8000000 in
set_option maxRecDepth 100000 in
theorem blocks_seq {n gw gf go : Nat} {G : List Int} {m : Int} {ok : Bool} {w : World} (hg : Blk w gw 65 (nums .u32 G)) (hf : Blk w gf 23 [.int .u32 m]) (ho : Blk w go 4 [.bool ok]) (hl : G.length = 16) (hG : IsW G) (h0 : 0 ≤ m) (h1 : m < 4294967296) :
    SeqZ n Try.prog 46 #[.pointer (some ⟨gw, 0, none⟩), .pointer (some ⟨gf, 0, none⟩), .pointer (some ⟨go, 0, none⟩)] (encB G m) go (if ok then (4294967296 - m).toNat else 0) w := by
  intro l J Jx W hW hJ hJx hY hJ0
  refine callsIn_wide.2 ?_
  have HG0 := Aside0.mk (Blk.below hg hW)
  have HO0 := Aside0.mk (Blk.below ho hW)
  have HL := Aside0.mk hl
  have HGW := Aside0.mk hG
  have HY := Aside0.mk hY
  have HJ := Aside0.mk hJ
  have HJX := Aside0.mk hJx
  have HJ0 := Aside0.mk hJ0
  have hgo : Aside0 (go < W.heap.size) := ⟨Nat.lt_of_lt_of_le (Blk.lt ho) hW.size⟩
  have HX0 : Aside0 (Blk (W.alloc (.cells (nums .u32 (List.replicate 16 0)).toArray 65)) W.heap.size 65 (nums .u32 (List.replicate 16 0))) := ⟨heap_alloc_new _ _⟩
  have HB0 := Aside0.mk ((Below.refl W.heap.size W).alloc (Nat.le_refl _) (.cells (nums .u32 (List.replicate 16 0)).toArray 65))
  have HF0 := Aside0.mk (Blk.below hf hW)
  clear hg hf ho hl hG hW hY hJ hJx hJ0
  show Calls Try.prog 46 #[.func (.yield l) #[] #[], .pointer (some ⟨gw, 0, none⟩), .pointer (some ⟨gf, 0, none⟩), .pointer (some ⟨go, 0, none⟩)] W _
  go_enter Try.func46, Try.ntmps46
  go_wp2_with (first
    | (refine load_arr rfl 65 (.tmp 1) rfl gw rfl 65 .u32 G 16 23 HG0.out Try.underlying65 size65 HL.out ?_)
    | (refine store_arr rfl 65 (.tmp 5) (.tmp 6) rfl W.heap.size .u32 G rfl rfl 65 16 _ HX0.out size65 HL.out (by rw [nums_length]; rfl) ?_; intro w1 hX1 hg1
       have HB1 := Aside0.mk (HB0.out.grown hg1 HB0.out.size (fun k hk => by cases hk; exact Nat.le_refl _))
       have kf : w1.cell? ⟨gf, 0, none⟩ = some (.int .u32 m) := Blk.cell (HF0.out.below HB1.out) 0
       have k12 := blk_num hX1 12 (by rw [HL.out]; decide)
       have f12 := Blk.frozen hX1 12
       have HX1 := Aside0.mk hX1
       clear hX1 hg1))
  obtain ⟨N, HN⟩ : ∃ N : Nat, Aside0 ((4294967296 - m).toNat = N) := ⟨_, ⟨rfl⟩⟩
  have hNm : (N : Int) = 4294967296 - m := by have := HN.out; omega
  have HS : Aside0 (Blk (w1.setCell ⟨W.heap.size, 12, none⟩ (.int .u32 m)) W.heap.size 65 (nums .u32 (G.set 12 (m + (0 : Nat))))) := ⟨by
    have h1 := CiC.blk_put HX1.out 12 m
    rw [show m + ((0 : Nat) : Int) = m by omega]; exact h1⟩
  have HB2 := Aside0.mk (HB1.out.setCell (p := ⟨W.heap.size, 12, none⟩) (Nat.le_refl _) (.int .u32 m))
  have HJ2 : Aside0 (J 0 (w1.setCell ⟨W.heap.size, 12, none⟩ (.int .u32 m))) := ⟨HJ.out _ _ _ HJ0.out HB2.out⟩
  have HO2 : Aside0 (Blk (w1.setCell ⟨W.heap.size, 12, none⟩ (.int .u32 m)) go 4 [.bool ok]) := ⟨ItA.Blk.below' HO0.out HB2.out hgo.out⟩
  have hsz := HB2.out.size
  clear kf k12 f12
  go_loopg [9] N (fun k v wr => ∃ j : Nat, k + j = N ∧ Aside0 (Blk wr W.heap.size 65 (nums .u32 (G.set 12 (m + (j : Nat))))) ∧ Aside0 (J j wr) ∧ Aside0 (Blk wr go 4 [.bool ok]) ∧ W.heap.size < wr.heap.size ∧ (ok = true → j < N) ∧ (ok = false → j = 0))
  case atStart => exact ⟨0, by omega, HS, HJ2, HO2, Blk.lt HS.out, fun _ => by omega, fun _ => rfl⟩
  case round =>
    clear HS HJ2 HO2 hsz HB2
    obtain ⟨j, hkj, hS, hJj, hO, hlt, hjN, hj0⟩ := hrel
    have ko : wr.cell? ⟨go, 0, none⟩ = some (.bool ok) := Blk.cell hO.out 0
    cases ok with
    | false =>
      obtain rfl : j = 0 := hj0 rfl
      go_wp2_with fail
      go_end0
      first
        | exact ⟨⟨_, rfl⟩, hJj.out⟩
        | exact ⟨⟨_, rfl⟩, Or.inl hJj.out⟩
    | true =>
      have hjN' := hjN rfl
      go_wp2_with fail
      have k12 : wr.cell? ⟨W.heap.size, 12, none⟩ = some (.int .u32 (m + (j : Nat))) := by
        have h1 := blk_num hS.out 12 (by rw [List.length_set, HL.out]; decide)
        have h2 : (G.set 12 (m + (j : Nat))).getD 12 0 = m + (j : Nat) := by rw [List.getD_eq_getElem?_getD, List.getElem?_set_self (by rw [HL.out]; decide)]; rfl
        rwa [h2] at h1
      refine (wpIn_wide (n := 1)).1 ?_
      refine wpIn_region_any (by kernel_rfl) ?_
      (try (change wpAnyIn _ _ _ _ _ _ _ _ _ (World.drew _)))
      refine wpAnyIn_take (i := 0) (v := ?_) rfl (List.getElem?_toArray.trans rfl) (by kernel_rfl) (by kernel_rfl) (by kernel_rfl) (fun _ _ _ h => h) ⟨Or.inl ⟨by rfl, ?_⟩, fun _ => rfl⟩ ?_
      rotate_left
      · (intro w; go_simp; try with_reducible rfl)
      (try simp only [Act.put, List.setIfInBounds_toArray, List.set_cons_zero, List.set_cons_succ])
      refine wpAnyIn_take (i := 1) (v := ?_) rfl (List.getElem?_toArray.trans rfl) (by kernel_rfl) (by kernel_rfl) (by kernel_rfl) (fun _ _ _ h => h) ⟨Or.inl ⟨by rfl, ?_⟩, fun _ => rfl⟩ ?_
      rotate_left
      · (intro w; go_simp; try with_reducible rfl)
      (try simp only [Act.put, List.setIfInBounds_toArray, List.set_cons_zero, List.set_cons_succ])
      refine wpAnyIn_ready (rs := [2, 3]) (by kernel_rfl) (by simp) (AllReadyIn.cons (List.getElem?_toArray.trans rfl) (fun K hK => ?_) (AllReadyIn.cons (List.getElem?_toArray.trans rfl) (fun K hK => ?_) AllReadyIn.nil))
      · go_simp
        refine hK _ _ ?_
        clear hK K
        (try simp only [Act.put, List.setIfInBounds_toArray, List.set_cons_zero, List.set_cons_succ])
        refine wpAnyIn_ready (rs := [3]) (by kernel_rfl) (by simp) (AllReadyIn.cons (List.getElem?_toArray.trans rfl) (fun K hK => ?_) AllReadyIn.nil)
        refine in_val (by rfl) (run_load_arr 65 (.tmp 5) rfl W.heap.size rfl 65 .u32 (G.set 12 (m + (j : Nat))) 16 23 hS.out Try.underlying65 size65 (by rw [List.length_set]; exact HL.out)) ?_
        refine hK _ _ ?_
        clear hK K
        (try simp only [Act.put, List.setIfInBounds_toArray, List.set_cons_zero, List.set_cons_succ])
        refine wpAnyIn_ready (rs := [4]) (by kernel_rfl) (by simp) (AllReadyIn.cons (List.getElem?_toArray.trans rfl) (fun K hK => ?_) AllReadyIn.nil)
        go_simp
        refine ⟨trivial, callsIn_wide.2 ((block_c (by rw [List.length_set]; exact HL.out) (set12_isW HGW.out (by omega) (by omega))).mono ?_)⟩
        rintro x w4 ⟨rfl, hb4⟩
        have hb4' : Below W.heap.size wr w4 := (Below.refl _ wr).drew.trans (hb4.mono (Nat.le_of_lt hlt))
        have S4 := Aside0.mk (Blk.below (w := wr.drew) hS.out hb4)
        have O4 := Aside0.mk (Blk.below (w := wr.drew) hO.out hb4)
        have hz4 : wr.heap.size ≤ w4.heap.size := hb4.size
        have k12' : w4.cell? ⟨W.heap.size, 12, none⟩ = some (.int .u32 (m + (j : Nat))) := by
          have h1 := blk_num S4.out 12 (by rw [List.length_set, HL.out]; decide)
          have h2 : (G.set 12 (m + (j : Nat))).getD 12 0 = m + (j : Nat) := by rw [List.getD_eq_getElem?_getD, List.getElem?_set_self (by rw [HL.out]; decide)]; rfl
          rwa [h2] at h1
        refine hK _ _ ?_
        clear hK K
        (try simp only [Act.put, List.setIfInBounds_toArray, List.set_cons_zero, List.set_cons_succ])
        refine wpAnyIn_ready (rs := [5]) (by kernel_rfl) (by simp) (AllReadyIn.cons (List.getElem?_toArray.trans rfl) (fun K hK => ?_) AllReadyIn.nil)
        obtain ⟨fn, tmps, assign, body, hy, hR⟩ := HY.out j w4 (HJ.out _ _ _ hJj.out hb4') (by simpa [HN.out] using hjN')
        have hy' : (Instr.yield l #[.int .u32 (m + (j : Nat)), .agg (nums .u8 (blkS (G.set 12 (m + (j : Nat))))).toArray]).run Try.prog w4 = .ok (.round l fn tmps assign body) w4 := hy
        clear hy
        go_simp
        refine (round_n _ _ hR).mono ?_
        rintro x w5 (⟨rfl, hJ5, hK5⟩ | ⟨rfl, hX5⟩)
        · refine hK _ _ ?_
          clear hK K
          (try simp only [Act.put, List.setIfInBounds_toArray, List.set_cons_zero, List.set_cons_succ])
          refine wpAnyIn_ready (rs := [6]) (by kernel_rfl) (by simp) (AllReadyIn.cons (List.getElem?_toArray.trans rfl) (fun K hK => ?_) AllReadyIn.nil)
          go_simp
          refine hK _ _ ?_
          clear hK K
          (try simp only [Act.put, List.setIfInBounds_toArray, List.set_cons_zero, List.set_cons_succ])
          refine wpAnyIn_done (by kernel_rfl) ?_ _
          have S5 : Blk w5 W.heap.size 65 (nums .u32 (G.set 12 (m + (j : Nat)))) := (hK5.same _ (by omega) (.inl (Nat.le_refl _))).trans S4.out
          have O5 : Aside0 (Blk w5 go 4 [.bool true]) := ⟨(hK5.same _ (Blk.lt O4.out) (.inr rfl)).trans O4.out⟩
          have k5 : w5.cell? ⟨W.heap.size, 12, none⟩ = some (.int .u32 (m + (j : Nat))) := by
            have h1 := blk_num S5 12 (by rw [List.length_set, HL.out]; decide)
            have h2 : (G.set 12 (m + (j : Nat))).getD 12 0 = m + (j : Nat) := by rw [List.getD_eq_getElem?_getD, List.getElem?_set_self (by rw [HL.out]; decide)]; rfl
            rwa [h2] at h1
          have f5 := Blk.frozen S5 12
          have hz5 := hK5.size
          have HJ5 := Aside0.mk hJ5
          have S5' := Aside0.mk S5
          clear hJ5 S5
          by_cases hend : j + 1 < N
          · have e1 : (m + (j : Nat) + 1) % 4294967296 = m + (j : Nat) + 1 := by omega
            have e2 : ¬ (m + (j : Nat) + 1 = 0) := by omega
            have S6 : Aside0 (Blk (w5.setCell ⟨W.heap.size, 12, none⟩ (.int .u32 (m + (j : Nat) + 1))) W.heap.size 65 (nums .u32 (G.set 12 (m + ((j + 1 : Nat) : Int))))) := ⟨by have h1 := CiC.blk_put S5'.out 12 (m + (j : Nat) + 1); rw [List.set_set] at h1; rw [show m + ((j + 1 : Nat) : Int) = m + (j : Nat) + 1 by omega]; exact h1⟩
            have B6 : Below W.heap.size w5 (w5.setCell ⟨W.heap.size, 12, none⟩ (.int .u32 (m + (j : Nat) + 1))) := (Below.refl _ _).setCell (p := ⟨W.heap.size, 12, none⟩) (Nat.le_refl _) _
            have J6 : Aside0 (J (j + 1) (w5.setCell ⟨W.heap.size, 12, none⟩ (.int .u32 (m + (j : Nat) + 1)))) := ⟨HJ.out _ _ _ HJ5.out B6⟩
            have O6 : Aside0 (Blk (w5.setCell ⟨W.heap.size, 12, none⟩ (.int .u32 (m + (j : Nat) + 1))) go 4 [.bool true]) := ⟨ItA.Blk.below' O5.out B6 hgo.out⟩
            have L6 := Blk.lt S6.out
            (go_wp2_with fail; go_roundg (gk - 1); (case measure => omega); (case rel => exact ⟨j + 1, by omega, S6, J6, O6, L6, (fun _ => hend), (fun h => by cases h)⟩))
          · have e1 : (m + (j : Nat) + 1) % 4294967296 = 0 := by omega
            have B6 : Below W.heap.size w5 (w5.setCell ⟨W.heap.size, 12, none⟩ (.int .u32 0)) := (Below.refl _ _).setCell (p := ⟨W.heap.size, 12, none⟩) (Nat.le_refl _) _
            have J6 : Aside0 (J (j + 1) (w5.setCell ⟨W.heap.size, 12, none⟩ (.int .u32 0))) := ⟨HJ.out _ _ _ HJ5.out B6⟩
            have hjn : Aside0 ((4294967296 - m).toNat = j + 1) := ⟨by rw [HN.out]; omega⟩
            (go_wp2_with fail; exact bodyPost_ret (v := .tuple #[]) (by simp [results, Try.results46, go_sem]) rfl ⟨⟨_, rfl⟩, Or.inl (by rw [hjn.out]; exact J6.out)⟩)
        · refine hK _ _ ?_
          clear hK K
          (try simp only [Act.put, List.setIfInBounds_toArray, List.set_cons_zero, List.set_cons_succ])
          refine wpAnyIn_ready (rs := [6]) (by kernel_rfl) (by simp) (AllReadyIn.cons (List.getElem?_toArray.trans rfl) (fun K hK => ?_) AllReadyIn.nil)
          go_simp
          refine hK _ _ ?_
          clear hK K
          (try simp only [Act.put, List.setIfInBounds_toArray, List.set_cons_zero, List.set_cons_succ])
          refine wpAnyIn_done (by kernel_rfl) ?_ _
          (go_wp2_with fail; exact bodyPost_ret (v := .tuple #[]) (by simp [results, Try.results46, go_sem]) rfl ⟨⟨_, rfl⟩, Or.inr ⟨j, by omega, hX5⟩⟩)
      · refine in_val (by rfl) (run_load_arr 65 (.tmp 5) rfl W.heap.size rfl 65 .u32 (G.set 12 (m + (j : Nat))) 16 23 hS.out Try.underlying65 size65 (by rw [List.length_set]; exact HL.out)) ?_
        refine hK _ _ ?_
        clear hK K
        (try simp only [Act.put, List.setIfInBounds_toArray, List.set_cons_zero, List.set_cons_succ])
        refine wpAnyIn_ready (rs := [2, 4]) (by kernel_rfl) (by simp) (AllReadyIn.cons (List.getElem?_toArray.trans rfl) (fun K hK => ?_) (AllReadyIn.cons (List.getElem?_toArray.trans rfl) (fun K hK => ?_) AllReadyIn.nil))
        · go_simp
          refine hK _ _ ?_
          clear hK K
          (try simp only [Act.put, List.setIfInBounds_toArray, List.set_cons_zero, List.set_cons_succ])
          refine wpAnyIn_ready (rs := [4]) (by kernel_rfl) (by simp) (AllReadyIn.cons (List.getElem?_toArray.trans rfl) (fun K hK => ?_) AllReadyIn.nil)
          go_simp
          refine ⟨trivial, callsIn_wide.2 ((block_c (by rw [List.length_set]; exact HL.out) (set12_isW HGW.out (by omega) (by omega))).mono ?_)⟩
          rintro x w4 ⟨rfl, hb4⟩
          have hb4' : Below W.heap.size wr w4 := (Below.refl _ wr).drew.trans (hb4.mono (Nat.le_of_lt hlt))
          have S4 := Aside0.mk (Blk.below (w := wr.drew) hS.out hb4)
          have O4 := Aside0.mk (Blk.below (w := wr.drew) hO.out hb4)
          have hz4 : wr.heap.size ≤ w4.heap.size := hb4.size
          have k12' : w4.cell? ⟨W.heap.size, 12, none⟩ = some (.int .u32 (m + (j : Nat))) := by
            have h1 := blk_num S4.out 12 (by rw [List.length_set, HL.out]; decide)
            have h2 : (G.set 12 (m + (j : Nat))).getD 12 0 = m + (j : Nat) := by rw [List.getD_eq_getElem?_getD, List.getElem?_set_self (by rw [HL.out]; decide)]; rfl
            rwa [h2] at h1
          refine hK _ _ ?_
          clear hK K
          (try simp only [Act.put, List.setIfInBounds_toArray, List.set_cons_zero, List.set_cons_succ])
          refine wpAnyIn_ready (rs := [5]) (by kernel_rfl) (by simp) (AllReadyIn.cons (List.getElem?_toArray.trans rfl) (fun K hK => ?_) AllReadyIn.nil)
          obtain ⟨fn, tmps, assign, body, hy, hR⟩ := HY.out j w4 (HJ.out _ _ _ hJj.out hb4') (by simpa [HN.out] using hjN')
          have hy' : (Instr.yield l #[.int .u32 (m + (j : Nat)), .agg (nums .u8 (blkS (G.set 12 (m + (j : Nat))))).toArray]).run Try.prog w4 = .ok (.round l fn tmps assign body) w4 := hy
          clear hy
          go_simp
          refine (round_n _ _ hR).mono ?_
          rintro x w5 (⟨rfl, hJ5, hK5⟩ | ⟨rfl, hX5⟩)
          · refine hK _ _ ?_
            clear hK K
            (try simp only [Act.put, List.setIfInBounds_toArray, List.set_cons_zero, List.set_cons_succ])
            refine wpAnyIn_ready (rs := [6]) (by kernel_rfl) (by simp) (AllReadyIn.cons (List.getElem?_toArray.trans rfl) (fun K hK => ?_) AllReadyIn.nil)
            go_simp
            refine hK _ _ ?_
            clear hK K
            (try simp only [Act.put, List.setIfInBounds_toArray, List.set_cons_zero, List.set_cons_succ])
            refine wpAnyIn_done (by kernel_rfl) ?_ _
            have S5 : Blk w5 W.heap.size 65 (nums .u32 (G.set 12 (m + (j : Nat)))) := (hK5.same _ (by omega) (.inl (Nat.le_refl _))).trans S4.out
            have O5 : Aside0 (Blk w5 go 4 [.bool true]) := ⟨(hK5.same _ (Blk.lt O4.out) (.inr rfl)).trans O4.out⟩
            have k5 : w5.cell? ⟨W.heap.size, 12, none⟩ = some (.int .u32 (m + (j : Nat))) := by
              have h1 := blk_num S5 12 (by rw [List.length_set, HL.out]; decide)
              have h2 : (G.set 12 (m + (j : Nat))).getD 12 0 = m + (j : Nat) := by rw [List.getD_eq_getElem?_getD, List.getElem?_set_self (by rw [HL.out]; decide)]; rfl
              rwa [h2] at h1
            have f5 := Blk.frozen S5 12
            have hz5 := hK5.size
            have HJ5 := Aside0.mk hJ5
            have S5' := Aside0.mk S5
            clear hJ5 S5
            by_cases hend : j + 1 < N
            · have e1 : (m + (j : Nat) + 1) % 4294967296 = m + (j : Nat) + 1 := by omega
              have e2 : ¬ (m + (j : Nat) + 1 = 0) := by omega
              have S6 : Aside0 (Blk (w5.setCell ⟨W.heap.size, 12, none⟩ (.int .u32 (m + (j : Nat) + 1))) W.heap.size 65 (nums .u32 (G.set 12 (m + ((j + 1 : Nat) : Int))))) := ⟨by have h1 := CiC.blk_put S5'.out 12 (m + (j : Nat) + 1); rw [List.set_set] at h1; rw [show m + ((j + 1 : Nat) : Int) = m + (j : Nat) + 1 by omega]; exact h1⟩
              have B6 : Below W.heap.size w5 (w5.setCell ⟨W.heap.size, 12, none⟩ (.int .u32 (m + (j : Nat) + 1))) := (Below.refl _ _).setCell (p := ⟨W.heap.size, 12, none⟩) (Nat.le_refl _) _
              have J6 : Aside0 (J (j + 1) (w5.setCell ⟨W.heap.size, 12, none⟩ (.int .u32 (m + (j : Nat) + 1)))) := ⟨HJ.out _ _ _ HJ5.out B6⟩
              have O6 : Aside0 (Blk (w5.setCell ⟨W.heap.size, 12, none⟩ (.int .u32 (m + (j : Nat) + 1))) go 4 [.bool true]) := ⟨ItA.Blk.below' O5.out B6 hgo.out⟩
              have L6 := Blk.lt S6.out
              (go_wp2_with fail; go_roundg (gk - 1); (case measure => omega); (case rel => exact ⟨j + 1, by omega, S6, J6, O6, L6, (fun _ => hend), (fun h => by cases h)⟩))
            · have e1 : (m + (j : Nat) + 1) % 4294967296 = 0 := by omega
              have B6 : Below W.heap.size w5 (w5.setCell ⟨W.heap.size, 12, none⟩ (.int .u32 0)) := (Below.refl _ _).setCell (p := ⟨W.heap.size, 12, none⟩) (Nat.le_refl _) _
              have J6 : Aside0 (J (j + 1) (w5.setCell ⟨W.heap.size, 12, none⟩ (.int .u32 0))) := ⟨HJ.out _ _ _ HJ5.out B6⟩
              have hjn : Aside0 ((4294967296 - m).toNat = j + 1) := ⟨by rw [HN.out]; omega⟩
              (go_wp2_with fail; exact bodyPost_ret (v := .tuple #[]) (by simp [results, Try.results46, go_sem]) rfl ⟨⟨_, rfl⟩, Or.inl (by rw [hjn.out]; exact J6.out)⟩)
          · refine hK _ _ ?_
            clear hK K
            (try simp only [Act.put, List.setIfInBounds_toArray, List.set_cons_zero, List.set_cons_succ])
            refine wpAnyIn_ready (rs := [6]) (by kernel_rfl) (by simp) (AllReadyIn.cons (List.getElem?_toArray.trans rfl) (fun K hK => ?_) AllReadyIn.nil)
            go_simp
            refine hK _ _ ?_
            clear hK K
            (try simp only [Act.put, List.setIfInBounds_toArray, List.set_cons_zero, List.set_cons_succ])
            refine wpAnyIn_done (by kernel_rfl) ?_ _
            (go_wp2_with fail; exact bodyPost_ret (v := .tuple #[]) (by simp [results, Try.results46, go_sem]) rfl ⟨⟨_, rfl⟩, Or.inr ⟨j, by omega, hX5⟩⟩)
        · go_simp
          refine ⟨trivial, callsIn_wide.2 ((block_c (by rw [List.length_set]; exact HL.out) (set12_isW HGW.out (by omega) (by omega))).mono ?_)⟩
          rintro x w4 ⟨rfl, hb4⟩
          have hb4' : Below W.heap.size wr w4 := (Below.refl _ wr).drew.trans (hb4.mono (Nat.le_of_lt hlt))
          have S4 := Aside0.mk (Blk.below (w := wr.drew) hS.out hb4)
          have O4 := Aside0.mk (Blk.below (w := wr.drew) hO.out hb4)
          have hz4 : wr.heap.size ≤ w4.heap.size := hb4.size
          have k12' : w4.cell? ⟨W.heap.size, 12, none⟩ = some (.int .u32 (m + (j : Nat))) := by
            have h1 := blk_num S4.out 12 (by rw [List.length_set, HL.out]; decide)
            have h2 : (G.set 12 (m + (j : Nat))).getD 12 0 = m + (j : Nat) := by rw [List.getD_eq_getElem?_getD, List.getElem?_set_self (by rw [HL.out]; decide)]; rfl
            rwa [h2] at h1
          refine hK _ _ ?_
          clear hK K
          (try simp only [Act.put, List.setIfInBounds_toArray, List.set_cons_zero, List.set_cons_succ])
          refine wpAnyIn_ready (rs := [2]) (by kernel_rfl) (by simp) (AllReadyIn.cons (List.getElem?_toArray.trans rfl) (fun K hK => ?_) AllReadyIn.nil)
          go_simp
          refine hK _ _ ?_
          clear hK K
          (try simp only [Act.put, List.setIfInBounds_toArray, List.set_cons_zero, List.set_cons_succ])
          refine wpAnyIn_ready (rs := [5]) (by kernel_rfl) (by simp) (AllReadyIn.cons (List.getElem?_toArray.trans rfl) (fun K hK => ?_) AllReadyIn.nil)
          obtain ⟨fn, tmps, assign, body, hy, hR⟩ := HY.out j w4 (HJ.out _ _ _ hJj.out hb4') (by simpa [HN.out] using hjN')
          have hy' : (Instr.yield l #[.int .u32 (m + (j : Nat)), .agg (nums .u8 (blkS (G.set 12 (m + (j : Nat))))).toArray]).run Try.prog w4 = .ok (.round l fn tmps assign body) w4 := hy
          clear hy
          go_simp
          refine (round_n _ _ hR).mono ?_
          rintro x w5 (⟨rfl, hJ5, hK5⟩ | ⟨rfl, hX5⟩)
          · refine hK _ _ ?_
            clear hK K
            (try simp only [Act.put, List.setIfInBounds_toArray, List.set_cons_zero, List.set_cons_succ])
            refine wpAnyIn_ready (rs := [6]) (by kernel_rfl) (by simp) (AllReadyIn.cons (List.getElem?_toArray.trans rfl) (fun K hK => ?_) AllReadyIn.nil)
            go_simp
            refine hK _ _ ?_
            clear hK K
            (try simp only [Act.put, List.setIfInBounds_toArray, List.set_cons_zero, List.set_cons_succ])
            refine wpAnyIn_done (by kernel_rfl) ?_ _
            have S5 : Blk w5 W.heap.size 65 (nums .u32 (G.set 12 (m + (j : Nat)))) := (hK5.same _ (by omega) (.inl (Nat.le_refl _))).trans S4.out
            have O5 : Aside0 (Blk w5 go 4 [.bool true]) := ⟨(hK5.same _ (Blk.lt O4.out) (.inr rfl)).trans O4.out⟩
            have k5 : w5.cell? ⟨W.heap.size, 12, none⟩ = some (.int .u32 (m + (j : Nat))) := by
              have h1 := blk_num S5 12 (by rw [List.length_set, HL.out]; decide)
              have h2 : (G.set 12 (m + (j : Nat))).getD 12 0 = m + (j : Nat) := by rw [List.getD_eq_getElem?_getD, List.getElem?_set_self (by rw [HL.out]; decide)]; rfl
              rwa [h2] at h1
            have f5 := Blk.frozen S5 12
            have hz5 := hK5.size
            have HJ5 := Aside0.mk hJ5
            have S5' := Aside0.mk S5
            clear hJ5 S5
            by_cases hend : j + 1 < N
            · have e1 : (m + (j : Nat) + 1) % 4294967296 = m + (j : Nat) + 1 := by omega
              have e2 : ¬ (m + (j : Nat) + 1 = 0) := by omega
              have S6 : Aside0 (Blk (w5.setCell ⟨W.heap.size, 12, none⟩ (.int .u32 (m + (j : Nat) + 1))) W.heap.size 65 (nums .u32 (G.set 12 (m + ((j + 1 : Nat) : Int))))) := ⟨by have h1 := CiC.blk_put S5'.out 12 (m + (j : Nat) + 1); rw [List.set_set] at h1; rw [show m + ((j + 1 : Nat) : Int) = m + (j : Nat) + 1 by omega]; exact h1⟩
              have B6 : Below W.heap.size w5 (w5.setCell ⟨W.heap.size, 12, none⟩ (.int .u32 (m + (j : Nat) + 1))) := (Below.refl _ _).setCell (p := ⟨W.heap.size, 12, none⟩) (Nat.le_refl _) _
              have J6 : Aside0 (J (j + 1) (w5.setCell ⟨W.heap.size, 12, none⟩ (.int .u32 (m + (j : Nat) + 1)))) := ⟨HJ.out _ _ _ HJ5.out B6⟩
              have O6 : Aside0 (Blk (w5.setCell ⟨W.heap.size, 12, none⟩ (.int .u32 (m + (j : Nat) + 1))) go 4 [.bool true]) := ⟨ItA.Blk.below' O5.out B6 hgo.out⟩
              have L6 := Blk.lt S6.out
              (go_wp2_with fail; go_roundg (gk - 1); (case measure => omega); (case rel => exact ⟨j + 1, by omega, S6, J6, O6, L6, (fun _ => hend), (fun h => by cases h)⟩))
            · have e1 : (m + (j : Nat) + 1) % 4294967296 = 0 := by omega
              have B6 : Below W.heap.size w5 (w5.setCell ⟨W.heap.size, 12, none⟩ (.int .u32 0)) := (Below.refl _ _).setCell (p := ⟨W.heap.size, 12, none⟩) (Nat.le_refl _) _
              have J6 : Aside0 (J (j + 1) (w5.setCell ⟨W.heap.size, 12, none⟩ (.int .u32 0))) := ⟨HJ.out _ _ _ HJ5.out B6⟩
              have hjn : Aside0 ((4294967296 - m).toNat = j + 1) := ⟨by rw [HN.out]; omega⟩
              (go_wp2_with fail; exact bodyPost_ret (v := .tuple #[]) (by simp [results, Try.results46, go_sem]) rfl ⟨⟨_, rfl⟩, Or.inl (by rw [hjn.out]; exact J6.out)⟩)
          · refine hK _ _ ?_
            clear hK K
            (try simp only [Act.put, List.setIfInBounds_toArray, List.set_cons_zero, List.set_cons_succ])
            refine wpAnyIn_ready (rs := [6]) (by kernel_rfl) (by simp) (AllReadyIn.cons (List.getElem?_toArray.trans rfl) (fun K hK => ?_) AllReadyIn.nil)
            go_simp
            refine hK _ _ ?_
            clear hK K
            (try simp only [Act.put, List.setIfInBounds_toArray, List.set_cons_zero, List.set_cons_succ])
            refine wpAnyIn_done (by kernel_rfl) ?_ _
            (go_wp2_with fail; exact bodyPost_ret (v := .tuple #[]) (by simp [results, Try.results46, go_sem]) rfl ⟨⟨_, rfl⟩, Or.inr ⟨j, by omega, hX5⟩⟩)
end Go.Proofs.Ytkjmjgiklelpiaa.ItA
