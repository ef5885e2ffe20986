/- CipherGives. -/
import Derived.Test.YtkjmjgiklelpiaaApp
import Derived.Test.YtkjmjgiklelpiaaQuart
import Derived.Test.YtkjmjgiklelpiaaPlainCipherBlocks
import Derived.Deep.RegionHeld3
import Derived.Deep.Cut
import Derived.Deep.CutRange
import Derived.Test.YtkjmjgiklelpiaaMxC
import Derived.Test.YtkjmjgiklelpiaaCiA
import Derived.Test.YtkjmjgiklelpiaaGvB
namespace Go.Proofs.Ytkjmjgiklelpiaa.WalkCipherGives
open Go.RowKit Go.Proofs.YtkjmjgiklelpiaaW.PrintWords Go.Proofs.Ytkjmjgiklelpiaa.Num Go.Proofs.Ytkjmjgiklelpiaa.WordC Go.Proofs.Ytkjmjgiklelpiaa.Arr Go.Proofs.Ytkjmjgiklelpiaa.App Go.Proofs.Ytkjmjgiklelpiaa.CiC Go.Proofs.Ytkjmjgiklelpiaa.CiD Go.Proofs.Ytkjmjgiklelpiaa.CiB Go.Proofs.Ytkjmjgiklelpiaa.CiK Go.Proofs.Ytkjmjgiklelpiaa.CiL Go.Proofs.Ytkjmjgiklelpiaa.CiM Go.Proofs.Ytkjmjgiklelpiaa.CiA Go.Proofs.Ytkjmjgiklelpiaa.Rz Go.Proofs.Ytkjmjgiklelpiaa.ItA Go.Proofs.Ytkjmjgiklelpiaa.MxA Go.Proofs.Ytkjmjgiklelpiaa.MxB Go.Proofs.Ytkjmjgiklelpiaa.MxC Go.Proofs.Ytkjmjgiklelpiaa.GvA Go.Proofs.Ytkjmjgiklelpiaa.GvB
set_option linter.unusedVariables false
set_option linter.unusedSimpArgs false

theorem isW_c4 : IsW (fillG c4) := by
  intro x hx
  simp [fillG, c4] at hx
  rcases hx with h | h | h | h | h
  all_goals (first | (subst h; omega) | (rcases h with ⟨_, rfl⟩; omega) | omega)
set_option maxHeartbeats 4000000 in
set_option maxRecDepth 100000 in
theorem Blocks_no {A B : Option Addr} {n n' c d : Nat} {m : Int} {w : World} (h : rightC n n' = false) :
    Calls Try.prog 21 #[.slice A n c, .slice B n' d, .int .u32 m] w fun e w' => ∃ gw gf go, e = .returned (.func (.func 46) #[] #[.pointer (some ⟨gw, 0, none⟩), .pointer (some ⟨gf, 0, none⟩), .pointer (some ⟨go, 0, none⟩)]) ∧
      Blk w' gw 65 (nums .u32 (fillG c4)) ∧ Blk w' gf 23 [.int .u32 m] ∧ Blk w' go 4 [.bool false] ∧ w.heap.size ≤ gw ∧ w.heap.size ≤ gf ∧ w.heap.size ≤ go ∧ Below w.heap.size w w' := by
  have HF : Aside0 (Blk (w.alloc (.cells #[.int .u32 m] 23)) w.heap.size 23 [.int .u32 m]) := ⟨heap_alloc_new _ _⟩
  have HB := Aside0.mk ((Below.refl w.heap.size w).alloc (Nat.le_refl _) (.cells #[.int .u32 m] 23))
  have hGl : Aside0 ((fillG c4).length = 16) := ⟨fillG_length _ (by decide)⟩
  have HR := Aside0.mk h
  clear h
  go_enter Try.func21, Try.ntmps21
  go_wp2_with fail
  refine (begun_no HR.out).mono ?_
  rintro x w1 ⟨rfl, hb1⟩
  have HB1 := Aside0.mk (below_next HB.out hb1)
  have HF1 := Aside0.mk (Blk.below HF.out hb1)
  obtain ⟨G, HGG⟩ : ∃ z, Aside0 (fillG c4 = z) := ⟨_, ⟨rfl⟩⟩
  rw [HGG.out] at hGl ⊢
  have hX : Aside0 (Blk ((w1.alloc (.cells (nums .u32 (List.replicate 16 0)).toArray 65)).alloc (.cells #[.bool false] 4)) w1.heap.size 65 (nums .u32 (List.replicate 16 0))) := ⟨heap_alloc2_old _ _ _⟩
  have hY : Aside0 (Blk ((w1.alloc (.cells (nums .u32 (List.replicate 16 0)).toArray 65)).alloc (.cells #[.bool false] 4)) (w1.heap.size + 1) 4 [.bool false]) := ⟨heap_alloc2_new _ _ _⟩
  have HB2 := Aside0.mk ((HB1.out.alloc HB1.out.size (.cells (nums .u32 (List.replicate 16 0)).toArray 65)).alloc (by simp; exact Nat.le_trans HB1.out.size (by omega)) (.cells #[.bool false] 4))
  have HF2 := Aside0.mk (Blk.below' HF1.out (((Below.refl w1.heap.size w1).alloc (Nat.le_refl _) (.cells (nums .u32 (List.replicate 16 0)).toArray 65)).alloc (by simp) (.cells #[.bool false] 4)) (Blk.lt HF1.out))
  have hs1 := HB1.out.size
  clear hb1
  go_wp2_with (first
    | (refine store_arr rfl 65 (.tmp 7) (.tmp 13) rfl w1.heap.size .u32 G rfl rfl 65 16 _ hX.out size65 hGl.out (by rw [nums_length]; rfl) ?_; intro w3 hV hg3
       have HV := Aside0.mk hV
       have HB3 := Aside0.mk (HB2.out.grown hg3 HB2.out.size (fun k hk => by cases hk; exact hs1))
       have HY3 := Aside0.mk ((hg3.block _ (Blk.lt hY.out) (by intro e; injection e with e; omega)).trans hY.out)
       have HF3 := Aside0.mk ((hg3.block _ (Blk.lt HF2.out) (by intro e; injection e with e; have := Blk.lt HF1.out; omega)).trans HF2.out)
       have k4 : w3.cell? ⟨w1.heap.size + 1, 0, none⟩ = some (.bool false) := Blk.cell HY3.out 0
       have f4 := Blk.frozen HY3.out 0
       clear hV hg3))
  go_ret
  have hlt1 := Blk.lt HF1.out
  refine ⟨_, _, _, rfl, ?_, ?_, ?_, hs1, Nat.le_refl _, by omega, ?_⟩
  · rw [HGG.out]; exact Blk.far HV.out (p := ⟨w1.heap.size + 1, 0, none⟩) (by simp) _
  · exact Blk.far HF3.out (p := ⟨w1.heap.size + 1, 0, none⟩) (by simp; omega) _
  · exact Blk.set_ HY3.out 0 (.bool false)
  · exact HB3.out.setCell (p := ⟨w1.heap.size + 1, 0, none⟩) (by simp; omega) _
theorem four_new (w : World) (a b c d : Value) (ta tb tc td : Nat) : ∀ W, (((w.alloc (.cells #[a] ta)).alloc (.cells #[b] tb)).alloc (.cells #[c] tc)).alloc (.cells #[d] td) = W →
    Blk W w.heap.size ta [a] ∧ Blk W (w.heap.size + 1) tb [b] ∧ Blk W (w.heap.size + 1 + 1) tc [c] ∧ Blk W (w.heap.size + 1 + 1 + 1) td [d] ∧ Below w.heap.size w W ∧ W.heap.size = w.heap.size + 4 := by
  rintro _ rfl
  have s1 : (w.alloc (.cells #[a] ta)).heap.size = w.heap.size + 1 := World.size_alloc _ _
  have s2 : ((w.alloc (.cells #[a] ta)).alloc (.cells #[b] tb)).heap.size = w.heap.size + 2 := by rw [World.size_alloc, s1]
  have s3 : (((w.alloc (.cells #[a] ta)).alloc (.cells #[b] tb)).alloc (.cells #[c] tc)).heap.size = w.heap.size + 3 := by rw [World.size_alloc, s2]
  refine ⟨?_, ?_, ?_, ?_, ?_, ?_⟩
  · exact Blk.alloc (Blk.alloc (Blk.alloc (heap_alloc_new _ _) _) _) _
  · have h := heap_alloc_new (w.alloc (.cells #[a] ta)) (.cells #[b] tb); rw [s1] at h; exact Blk.alloc (Blk.alloc h _) _
  · have h := heap_alloc_new ((w.alloc (.cells #[a] ta)).alloc (.cells #[b] tb)) (.cells #[c] tc); rw [s2] at h; exact Blk.alloc h _
  · have h := heap_alloc_new (((w.alloc (.cells #[a] ta)).alloc (.cells #[b] tb)).alloc (.cells #[c] tc)) (.cells #[d] td); rw [s3] at h; exact h
  · exact ((((Below.refl _ w).alloc (Nat.le_refl _) _).alloc (by rw [s1]; omega) _).alloc (by rw [s2]; omega) _).alloc (by rw [s3]; omega) _
  · rw [World.size_alloc, s3]
theorem Blocks_any {A B : Option Addr} {n n' c d : Nat} {k o : List Int} {m : Int} {w : World} (hk : Rd w A n c k) (ho : Rd w B n' d o) (bk : IsB k) (bo : IsB o) :
    Calls Try.prog 21 #[.slice A n c, .slice B n' d, .int .u32 m] w fun e w' => ∃ gw gf go G, e = .returned (.func (.func 46) #[] #[.pointer (some ⟨gw, 0, none⟩), .pointer (some ⟨gf, 0, none⟩), .pointer (some ⟨go, 0, none⟩)]) ∧
      Blk w' gw 65 (nums .u32 G) ∧ Blk w' gf 23 [.int .u32 m] ∧ Blk w' go 4 [.bool (rightC n n')] ∧ (w.heap.size ≤ gw ∧ w.heap.size ≤ gf ∧ w.heap.size ≤ go) ∧ (G.length = 16 ∧ IsW G ∧ (rightC n n' = true → ∀ i, blkS (G.set 12 i) = chaS k o i)) ∧ Below w.heap.size w w' := by
  cases hc : rightC n n' with
  | true =>
    have hnm : n = 32 ∧ n' = 12 := by simpa [rightC] using hc
    obtain ⟨rfl, rfl⟩ := hnm
    refine (Blocks_c hk ho bk bo).mono ?_
    rintro x w1 ⟨gw, gf, go, rfl, b1, b2, b3, s1, s2, s3, hb⟩
    exact ⟨gw, gf, go, _, rfl, b1, b2, b3, ⟨s1, s2, s3⟩, ⟨gS_length k o 0 hk.len ho.len, gS_isW (n := 0) hk.len ho.len bk bo (by omega) (by omega), fun _ i => by unfold chaS; rw [g0_set k o i (ws_length 8 k (by have := hk.len; omega))]⟩, hb⟩
  | false =>
    refine (Blocks_no hc).mono ?_
    rintro x w1 ⟨gw, gf, go, rfl, b1, b2, b3, s1, s2, s3, hb⟩
    exact ⟨gw, gf, go, _, rfl, b1, b2, b3, ⟨s1, s2, s3⟩, ⟨fillG_length _ (by decide), isW_c4, fun h => by cases h⟩, hb⟩
/-- The four parameters, boxed. -/
structure Quad (W : World) (gK gO gF gM : Nat) (A A' : Option Addr) (n n' c c' : Nat) (z q : Int) : Prop where
  bK : Blk W gK 22 [.slice A n c]
  bO : Blk W gO 22 [.slice A' n' c']
  bF : Blk W gF 23 [.int .u32 z]
  bM : Blk W gM 5 [.int .u8 q]
theorem Quad.below {W W1 : World} {gK gO gF gM : Nat} {A A' : Option Addr} {n n' c c' : Nat} {z q : Int} (h : Quad W gK gO gF gM A A' n n' c c' z q) (hb : Below W.heap.size W W1) : Quad W1 gK gO gF gM A A' n n' c c' z q :=
  ⟨Blk.below h.bK hb, Blk.below h.bO hb, Blk.below h.bF hb, Blk.below h.bM hb⟩
theorem nil34 (gw gf go : Nat) (W : World) : (binOp .eql 34 (.func (.func 46) #[] #[.pointer (some ⟨gw, 0, none⟩), .pointer (some ⟨gf, 0, none⟩), .pointer (some ⟨go, 0, none⟩)]) Value.nilFunc).run Try.prog W = .ok (.bool false) W := by
  kernel_rfl
theorem two_new (w : World) (a b : Value) (ta tb : Nat) : ∀ W, (w.alloc (.cells #[a] ta)).alloc (.cells #[b] tb) = W →
    Below w.heap.size w W ∧ W.heap.size = w.heap.size + 2 ∧ Blk W (w.heap.size + 1) tb [b] ∧ Blk W w.heap.size ta [a] := by
  rintro _ rfl
  have s1 : (w.alloc (.cells #[a] ta)).heap.size = w.heap.size + 1 := World.size_alloc _ _
  refine ⟨((Below.refl _ w).alloc (Nat.le_refl _) _).alloc (by rw [s1]; omega) _, by rw [World.size_alloc, s1], ?_, ?_⟩
  · have h := heap_alloc_new (w.alloc (.cells #[a] ta)) (.cells #[b] tb); rw [s1] at h; exact h
  · exact Blk.alloc (heap_alloc_new _ _) _
theorem gv_under {w0 X Y : World} {gk gc gw gF gK gO gM N : Nat} {A B : Option Addr} {cA cB : Nat} {m most want : Int} {j : Nat} (h : Gv w0 X gk gc gw gF gK gO gM A B cA cB m most want j) (hb : Below N X Y) (h0 : w0.heap.size ≤ N) (h1 : gk < N) (h2 : gc < N) (h3 : gw < N) (h4 : gF < N) (h5 : gK < N) (h6 : gO < N) (h7 : gM < N) : Gv w0 Y gk gc gw gF gK gO gM A B cA cB m most want j :=
  ⟨h.bel.trans (hb.mono h0), Blk.below' h.bk hb h1, Blk.below' h.bc hb h2, Blk.below' h.bw hb h3, Blk.below' h.bF hb h4, Blk.below' h.bK hb h5, Blk.below' h.bO hb h6, Blk.below' h.bM hb h7⟩
theorem hset (W : World) (g : Nat) (u : Value) : Below g W (W.setCell ⟨g, 0, none⟩ u) := (Below.refl _ W).setCell (p := ⟨g, 0, none⟩) (Nat.le_refl _) u
set_option maxHeartbeats 8000000 in
set_option maxRecDepth 100000 in
theorem walk (A : Option Addr) (n c : Nat) (k : List Int) {w : World} (hr : Rd w A n c k) (hB : IsB k) (hn : n ≤ 140737488351232) (A' : Option Addr) (n' c' : Nat) (o : List Int) (hr' : Rd w A' n' c' o) (hB' : IsB o) (hn' : n' ≤ 140737488351232) (z : Int) (hz : (Lit.int .u32 z).wf = true) (q : Int) (hq : (Lit.int .u8 q).wf = true) :
    Calls Try.prog 4 #[.slice A n c, .slice A' n' c', .int .u32 z, .int .u8 q] w fun e w' => e = .returned (.bool true) ∧ Below w.heap.size w w' := by
  obtain ⟨z0, z1⟩ := wf_u32 hz
  obtain ⟨q0, q1⟩ := wf_u8 hq
  have HL := Aside0.mk hr.len
  have HL' := Aside0.mk hr'.len
  have HR0 := Aside0.mk hr
  have HR0' := Aside0.mk hr'
  clear hr hr' hz hq
  go_enter Try.func4, Try.ntmps4
  go_upto_region 1 with (fail)
  generalize hW : (((w.alloc _).alloc _).alloc _).alloc _ = W0
  obtain ⟨bK, bO, bF, bM, hb0, hs0⟩ := four_new _ _ _ _ _ _ _ _ _ _ hW
  clear hW
  have a4 : W0.cell? ⟨w.heap.size, 0, none⟩ = some (.slice A n c) := Blk.cell bK 0
  go_wp2_with fail
  refine (own16_c (HR0.out.below hb0) hn).mono ?_
  rintro x w1 ⟨v1, rfl, ho1, hb1⟩
  obtain ⟨A1, c1, rfl, r1⟩ := rd_of_own ho1
  rw [HL.out] at r1 ⊢
  clear ho1
  go_wp2_with fail
  generalize eM : w.heap.size + 1 + 1 + 1 = gM at bM ⊢
  generalize eF : w.heap.size + 1 + 1 = gF at bF ⊢
  generalize eO : w.heap.size + 1 = gO at bO ⊢
  generalize eK : w.heap.size = gK at bK ⊢
  have HQ0 := Aside0.mk (Quad.mk bK bO bF bM)
  have HE := Aside0.mk (And.intro eK (And.intro eO (And.intro eF eM)))
  have HB0 := Aside0.mk hb0
  have HQ1 := Aside0.mk (HQ0.out.below hb1)
  have HB1 := Aside0.mk (below_next hb0 hb1)
  clear bK bO bF bM eM eF eO eK a4 hs0
  have HD : Below w1.heap.size w1 w1.drew := (Below.refl _ w1).drew
  have HC : Aside0 (∀ w', Below w1.heap.size w1 w' → w'.cell? ⟨gO, 0, none⟩ = some (.slice A' n' c') ∧ w'.cell? ⟨gF, 0, none⟩ = some (.int .u32 z)) := ⟨fun w' hb => ⟨Blk.cell (HQ1.out.below hb).bO 0, Blk.cell (HQ1.out.below hb).bF 0⟩⟩
  refine wp_region_held_drew (S := (fun w' => w'.cell? ⟨gO, 0, none⟩ = some (.slice A' n' c') ∧ w'.cell? ⟨gF, 0, none⟩ = some (.int .u32 z))) (by kernel_rfl) ?_ (fun hHeld => ?_)
  · exact HC.out _ HD
  refine wpAnyH_take (i := 0) (v := ?_) (List.getElem?_toArray.trans rfl) (by kernel_rfl) (by kernel_rfl) (by kernel_rfl) (fun _ _ _ h => h) (Or.inl ⟨by rfl, ?_⟩) (by assumption) ?_
  rotate_left
  · (intro w hSw; (try dsimp only at hSw); obtain ⟨s1, s2⟩ := hSw; go_simp; try with_reducible rfl)
  (try simp only [Act.put, List.setIfInBounds_toArray, List.set_cons_zero, List.set_cons_succ])
  refine wpAnyH_take (i := 1) (v := ?_) (List.getElem?_toArray.trans rfl) (by kernel_rfl) (by kernel_rfl) (by kernel_rfl) (fun _ _ _ h => h) (Or.inl ⟨by rfl, ?_⟩) (by assumption) ?_
  rotate_left
  · (intro w hSw; (try dsimp only at hSw); obtain ⟨s1, s2⟩ := hSw; go_simp; try with_reducible rfl)
  (try simp only [Act.put, List.setIfInBounds_toArray, List.set_cons_zero, List.set_cons_succ])
  refine wpAnyH_take (i := 3) (v := ?_) (List.getElem?_toArray.trans rfl) (by kernel_rfl) (by kernel_rfl) (by kernel_rfl) (fun _ _ _ h => h) (Or.inl ⟨by rfl, ?_⟩) (by assumption) ?_
  rotate_left
  · (intro w hSw; (try dsimp only at hSw); obtain ⟨s1, s2⟩ := hSw; go_simp; try with_reducible rfl)
  (try simp only [Act.put, List.setIfInBounds_toArray, List.set_cons_zero, List.set_cons_succ])
  refine wpAnyH_ready (rs := [2]) (by kernel_rfl) (by simp) (AllReadyH.cons (List.getElem?_toArray.trans rfl) (fun Kx hKx => ?_) AllReadyH.nil)
  go_simp
  go_at_call 16
  refine (own16_c ((HR0'.out.below HB1.out).below HD) hn').mono ?_
  rintro x w2 ⟨v2, rfl, ho2, hb2⟩
  obtain ⟨A2, c2, rfl, r2⟩ := rd_of_own ho2
  rw [HL'.out] at r2 ⊢
  have HB2 := below_next HD hb2
  have R1 := Aside0.mk (r1.below HB2)
  have R2 := Aside0.mk r2
  clear ho2 r1 r2
  go_wp2_with fail
  refine hKx.out _ _ ?_ (fun hHeld => ?_)
  · exact HC.out _ HB2
  clear hKx Kx
  (try simp only [Act.put, List.setIfInBounds_toArray, List.set_cons_zero, List.set_cons_succ])
  refine wpAnyH_ready (rs := [4]) (by kernel_rfl) (by simp) (AllReadyH.cons (List.getElem?_toArray.trans rfl) (fun Kx hKx => ?_) AllReadyH.nil)
  go_simp
  go_at_call 21
  refine (Blocks_any R1.out R2.out hB hB').mono ?_
  rintro x w3 ⟨gw, gf, go, G, rfl, bw, bf, bo, sz, hG, hb3⟩
  have HB3 := below_next HB2 hb3
  have HX := Aside0.mk (And.intro bw (And.intro bf (And.intro bo (And.intro sz hG))))
  clear bw bf bo sz hG
  go_wp2_with fail
  refine hKx.out _ _ ?_ (fun hHeld => ?_)
  · exact HC.out _ HB3
  clear hKx Kx
  (try simp only [Act.put, List.setIfInBounds_toArray, List.set_cons_zero, List.set_cons_succ])
  refine wpAnyH_take (i := 5) (v := ?_) (List.getElem?_toArray.trans rfl) (by kernel_rfl) (by kernel_rfl) (by kernel_rfl) (fun _ _ _ h => h) (Or.inl ⟨by rfl, ?_⟩) (by assumption) ?_
  rotate_left
  · (intro w hSw; (try dsimp only at hSw); obtain ⟨s1, s2⟩ := hSw; go_simp; try with_reducible rfl)
  (try simp only [Act.put, List.setIfInBounds_toArray, List.set_cons_zero, List.set_cons_succ])
  refine wpAnyH_done (by kernel_rfl) ?_ _
  have hnf := fun w => nil34 gw gf go w
  have HQ3 := Aside0.mk (HQ1.out.below HB3)
  have HB3' := Aside0.mk (below_next HB1.out HB3)
  have e5 : w3.cell? ⟨gM, 0, none⟩ = some (.int .u8 q) := Blk.cell HQ3.out.bM 0
  have e6 : w3.cell? ⟨gF, 0, none⟩ = some (.int .u32 z) := Blk.cell HQ3.out.bF 0
  clear HQ0 HQ1 HB1 HC hHeld HB2 HB3 hb2 hb3 HD
  go_upto_region 6 with (fail)
  obtain ⟨want, hw⟩ : ∃ v : Int, (if 4294967296 - z < q % 9 + 1 then 4294967296 - z else q % 9 + 1) = v := ⟨_, rfl⟩
  rw [hw]
  have HWT := Aside0.mk hw
  have hmf : ∀ (fn : Fn) (first cap : Array Value) (w : World), (Instr.makeFunc fn first cap).run Try.prog w = .ok (.func fn first cap) w := fun _ _ _ _ => rfl
  generalize hW4 : w3.alloc _ = W4
  have hb4 : Below w3.heap.size w3 W4 := by rw [← hW4]; exact (Below.refl _ w3).alloc (Nat.le_refl _) _
  have HW4 : Aside0 (Blk W4 w3.heap.size 36 [.int .u64 want]) := ⟨by rw [← hW4]; exact heap_alloc_new _ _⟩
  have HQ4 := Aside0.mk (HQ3.out.below hb4)
  have HX4 := Aside0.mk (And.intro (Blk.below HX.out.1 hb4) (And.intro (Blk.below HX.out.2.1 hb4) (Blk.below HX.out.2.2.1 hb4)))
  have HG := Aside0.mk HX.out.2.2.2.2
  have HB4 := Aside0.mk (below_next HB3'.out hb4)
  have HGO := Aside0.mk (Blk.lt HX.out.2.2.1)
  have HGL := Aside0.mk (And.intro (Blk.lt HX.out.1) (Blk.lt HX.out.2.1))
  have e7 : W4.cell? ⟨gK, 0, none⟩ = some (.slice A n c) := Blk.cell HQ4.out.bK 0
  have e8 : W4.cell? ⟨gO, 0, none⟩ = some (.slice A' n' c') := Blk.cell HQ4.out.bO 0
  clear hw hW4 HX HQ3 e5 e6 hb4
  go_wp2_with fail
  refine (refRight_c (HR0.out.below HB4.out) (HR0'.out.below HB4.out)).mono ?_
  rintro x w5 ⟨rfl, ⟨n5, rfl⟩⟩
  generalize hW5 : W4.drewN n5 = W5
  have hb5 : Below W4.heap.size W4 W5 := by rw [← hW5]; exact pw_below_drewN (Below.refl _ _) _
  have HQ5 := Aside0.mk (HQ4.out.below hb5)
  have HW5 := Aside0.mk (Blk.below HW4.out hb5)
  have HX5 := Aside0.mk (And.intro (Blk.below HX4.out.1 hb5) (And.intro (Blk.below HX4.out.2.1 hb5) (Blk.below HX4.out.2.2 hb5)))
  have HB5 := Aside0.mk (below_next HB4.out hb5)
  clear hW5 HQ4 HW4 HX4 HB4 hb5 e7 e8
  cases hc : rightC n n' with
  | true =>
    have hnm : n = 32 ∧ n' = 12 := by simpa [rightC] using hc
    obtain ⟨rfl, rfl⟩ := hnm
    rw [hc] at HG HX5
    clear hc
    go_wp2_with fail
    obtain ⟨H6, s6, bk6, bc6⟩ := two_new W5 (.int .u64 0) (.bool true) 36 4 _ rfl
    have hs5 := HB5.out.size
    have hgo : go < W5.heap.size := Blk.lt HX5.out.2.2
    have hgw := Blk.lt HW5.out
    have hgK := Blk.lt HQ5.out.bK
    have hgO := Blk.lt HQ5.out.bO
    have hgF := Blk.lt HQ5.out.bF
    have hgM := Blk.lt HQ5.out.bM
    have HQ6 := HQ5.out.below H6
    have HGV : Gv w ((W5.alloc (.cells #[.int .u64 0] 36)).alloc (.cells #[.bool true] 4)) (W5.heap.size + 1) W5.heap.size w3.heap.size gF gK gO gM A A' c c' z q want 0 := ⟨below_next HB5.out H6, bk6, bc6, Blk.below HW5.out H6, HQ6.bF, HQ6.bK, HQ6.bO, HQ6.bM⟩
    have hG16 := HG.out.1
    have hGW := HG.out.2.1
    have hGS := HG.out.2.2 trivial
    have hq9 : 0 ≤ q % 9 := by omega
    refine (blocks_f (G := G) (m := z) (ok := true) (Blk.below HX5.out.1 H6) (Blk.below HX5.out.2.1 H6) (Blk.below HX5.out.2.2 H6) hG16 hGW z0 z1
      (fun j W' => Gv w W' (W5.heap.size + 1) W5.heap.size w3.heap.size gF gK gO gM A A' c c' z q want j ∧ (j : Int) ≤ q % 9)
      (fun j W' => Gv w W' (W5.heap.size + 1) W5.heap.size w3.heap.size gF gK gO gM A A' c c' z q want j ∧ (j : Int) = q % 9 + 1)
      (fun j X Y hX hb => ⟨gv_under hX.1 hb (by rw [s6]; omega) (by rw [s6]; omega) (by rw [s6]; omega) (by rw [s6]; omega) (by rw [s6]; omega) (by rw [s6]; omega) (by rw [s6]; omega) (by rw [s6]; omega), hX.2⟩)
      (fun j X Y hX hb => ⟨gv_under hX.1 hb (by rw [s6]; omega) (by rw [s6]; omega) (by rw [s6]; omega) (by rw [s6]; omega) (by rw [s6]; omega) (by rw [s6]; omega) (by rw [s6]; omega) (by rw [s6]; omega), hX.2⟩)
      (fun j W1 hW1 hJ hzj _ => ?_) ⟨HGV, by omega⟩).mono ?_
    · obtain ⟨hJv, hJq⟩ := hJ
      rw [hGS]
      have hjw : (j : Int) < want := by have := HWT.out; split at this <;> omega
      have hw9 : want ≤ 9 := by have := HWT.out; split at this <;> omega
      refine (clos_c hJv HR0.out HR0'.out hB hB' z0 hzj hjw hw9 q0 q1 ⟨by omega, by omega⟩ ⟨by omega, by omega, by omega, by omega, by omega, by omega, by omega, by omega, by omega, by omega, by omega⟩).mono ?_
      rintro x W' ⟨rfl, hG', hK⟩
      exact ⟨_, rfl, hK _ _ (by rw [s6]; omega) (by rw [s6]; omega) (by omega) (by omega), fun h => ⟨hG', by have := of_decide_eq_true h; omega⟩, fun h => ⟨hG', by have := of_decide_eq_false h; omega⟩⟩
    · rintro x W7 ⟨⟨v, rfl⟩, hJ⟩
      have hT : Below w.heap.size w W7 ∧ Blk W7 (W5.heap.size + 1) 4 [.bool true] ∧ Blk W7 W5.heap.size 36 [.int .u64 want] ∧ Blk W7 w3.heap.size 36 [.int .u64 want] := by
        have : ∃ t : Nat, Gv w W7 (W5.heap.size + 1) W5.heap.size w3.heap.size gF gK gO gM A A' c c' z q want t ∧ (t : Int) = want := by
          rcases hJ with ⟨h1, h2⟩ | ⟨j, hj, _, h1, h2⟩
          · rw [if_pos rfl] at h1 h2
            exact ⟨_, h1, by have := HWT.out; split at this <;> omega⟩
          · exact ⟨_, h1, by have := HWT.out; split at this <;> omega⟩
        obtain ⟨t, hG7, rfl⟩ := this
        exact ⟨hG7.bel, hG7.bk, hG7.bc, hG7.bw⟩
      clear hJ HGV HQ6 hG16 hGW hGS hs5
      have HBT := Aside0.mk hT.1
      have t1 : W7.cell? ⟨W5.heap.size + 1, 0, none⟩ = some (.bool true) := Blk.cell hT.2.1 0
      have t2 : W7.cell? ⟨W5.heap.size, 0, none⟩ = some (.int .u64 want) := Blk.cell hT.2.2.1 0
      have t3 : W7.cell? ⟨w3.heap.size, 0, none⟩ = some (.int .u64 want) := Blk.cell hT.2.2.2 0
      clear hT
      go_wp2_with fail
      refine awake19_c.mono ?_
      rintro x w8 ⟨rfl, hb8⟩
      go_wp2_with fail
      go_ret
      exact ⟨rfl, below_next HBT.out hb8⟩
  | false =>
    rw [hc] at HG HX5
    clear hc
    have f3 := Blk.frozen HW5.out 0
    have k3 : W5.cell? ⟨w3.heap.size, 0, none⟩ = some (.int .u64 want) := Blk.cell HW5.out 0
    have HW6 : Blk (W5.setCell ⟨w3.heap.size, 0, none⟩ (.int .u64 0)) w3.heap.size 36 [.int .u64 0] := Blk.set_ HW5.out 0 _
    have hgw := Blk.lt HW5.out
    have hgo : go < w3.heap.size := HGO.out
    have HX6 := Aside0.mk (And.intro (Blk.below' HX5.out.1 (hset W5 w3.heap.size (.int .u64 0)) HGL.out.1) (And.intro (Blk.below' HX5.out.2.1 (hset W5 w3.heap.size (.int .u64 0)) HGL.out.2) (Blk.below' HX5.out.2.2 (hset W5 w3.heap.size (.int .u64 0)) HGO.out)))
    have HB6 : Below w.heap.size w (W5.setCell ⟨w3.heap.size, 0, none⟩ (.int .u64 0)) := HB5.out.setCell (p := ⟨w3.heap.size, 0, none⟩) HB3'.out.size _
    have hG16 := HG.out.1
    have hGW := HG.out.2.1
    go_wp2_with fail
    obtain ⟨H6, s6, bk6, bc6⟩ := two_new (W5.setCell ⟨w3.heap.size, 0, none⟩ (.int .u64 0)) (.int .u64 0) (.bool true) 36 4 _ rfl
    have s5 : (W5.setCell ⟨w3.heap.size, 0, none⟩ (.int .u64 0)).heap.size = W5.heap.size := by simp [World.setCell]
    have hs5 := HB5.out.size
    rw [s5] at bk6 bc6 s6
    have HJ0 : Below w.heap.size w (((W5.setCell ⟨w3.heap.size, 0, none⟩ (.int .u64 0)).alloc (.cells #[.int .u64 0] 36)).alloc (.cells #[.bool true] 4)) ∧ Blk (((W5.setCell ⟨w3.heap.size, 0, none⟩ (.int .u64 0)).alloc (.cells #[.int .u64 0] 36)).alloc (.cells #[.bool true] 4)) (W5.heap.size + 1) 4 [.bool true] ∧ Blk (((W5.setCell ⟨w3.heap.size, 0, none⟩ (.int .u64 0)).alloc (.cells #[.int .u64 0] 36)).alloc (.cells #[.bool true] 4)) W5.heap.size 36 [.int .u64 0] ∧ Blk (((W5.setCell ⟨w3.heap.size, 0, none⟩ (.int .u64 0)).alloc (.cells #[.int .u64 0] 36)).alloc (.cells #[.bool true] 4)) w3.heap.size 36 [.int .u64 0] := ⟨below_next HB6 H6, bk6, bc6, Blk.below HW6 H6⟩
    refine (blocks_f (G := G) (m := z) (ok := false) (Blk.below HX6.out.1 H6) (Blk.below HX6.out.2.1 H6) (Blk.below HX6.out.2.2 H6) hG16 hGW z0 z1
      (fun j W' => Below w.heap.size w W' ∧ Blk W' (W5.heap.size + 1) 4 [.bool true] ∧ Blk W' W5.heap.size 36 [.int .u64 0] ∧ Blk W' w3.heap.size 36 [.int .u64 0]) (fun _ _ => False)
      (fun j X Y hX hb => ⟨hX.1.trans (hb.mono (by rw [s6]; omega)), Blk.below' hX.2.1 hb (by rw [s6]; omega), Blk.below' hX.2.2.1 hb (by rw [s6]; omega), Blk.below' hX.2.2.2 hb (by rw [s6]; omega)⟩)
      (fun j X Y hX hb => hX)
      (fun j W1 hW1 hJ hzj hbad => by cases hbad) HJ0).mono ?_
    rintro x W7 ⟨⟨v, rfl⟩, hJ⟩
    have hT := hJ.resolve_right (by rintro ⟨_, _, h, _⟩; cases h)
    clear hJ HJ0 hG16 hGW hs5 hgo hgw s6 s5 H6 bk6 bc6 HB6 HX6 HW6
    have HBT := Aside0.mk hT.1
    have t1 : W7.cell? ⟨W5.heap.size + 1, 0, none⟩ = some (.bool true) := Blk.cell hT.2.1 0
    have t2 : W7.cell? ⟨W5.heap.size, 0, none⟩ = some (.int .u64 0) := Blk.cell hT.2.2.1 0
    have t3 : W7.cell? ⟨w3.heap.size, 0, none⟩ = some (.int .u64 0) := Blk.cell hT.2.2.2 0
    clear hT
    go_wp2_with fail
    refine awake19_c.mono ?_
    rintro x w8 ⟨rfl, hb8⟩
    go_wp2_with fail
    go_ret
    exact ⟨rfl, below_next HBT.out hb8⟩
end Go.Proofs.Ytkjmjgiklelpiaa.WalkCipherGives
