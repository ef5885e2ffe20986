/- LabelRings, walked. -/
import Derived.Test.YtmmbonlidcbkcaaDoorMacA
import Derived.Deep.RegionHeld3
import Derived.Deep.MidRow
import Derived.Deep.Cut
import Derived.Test.YtmmbonlidcbkcaaDoorLbQ
namespace Go.Proofs.YtmmbonlidcbkcaaDoor.WalkLabelRings
open Go.RowKit Go.Proofs.YtmmbonlidcbkcaaDoorW.PrintWords Go.Proofs.YtmmbonlidcbkcaaDoor.Num Go.Proofs.YtmmbonlidcbkcaaDoor.Sha Go.Proofs.YtmmbonlidcbkcaaDoor.Hmac Go.Proofs.YtmmbonlidcbkcaaDoor.WordC Go.Proofs.YtmmbonlidcbkcaaDoor.Arr Go.Proofs.YtmmbonlidcbkcaaDoor.App Go.Proofs.YtmmbonlidcbkcaaDoor.DgC Go.Proofs.YtmmbonlidcbkcaaDoor.DgBlock Go.Proofs.YtmmbonlidcbkcaaDoor.DgState Go.Proofs.YtmmbonlidcbkcaaDoor.DgAdd Go.Proofs.YtmmbonlidcbkcaaDoor.DgSum Go.Proofs.YtmmbonlidcbkcaaDoor.DgOf Go.Proofs.YtmmbonlidcbkcaaDoor.DgCopy Go.Proofs.YtmmbonlidcbkcaaDoor.DgLaw Go.Proofs.YtmmbonlidcbkcaaDoor.DgWords Go.Proofs.YtmmbonlidcbkcaaDoor.DgParts Go.Proofs.YtmmbonlidcbkcaaDoor.RefOf Go.Proofs.YtmmbonlidcbkcaaDoor.MacC Go.Proofs.YtmmbonlidcbkcaaDoor.MacTag Go.Proofs.YtmmbonlidcbkcaaDoor.MacLaw Go.Proofs.YtmmbonlidcbkcaaDoor.MacAwake Go.Proofs.YtmmbonlidcbkcaaDoor.MacHold Go.Proofs.YtmmbonlidcbkcaaDoor.MacNew Go.Proofs.YtmmbonlidcbkcaaDoor.MacRef Go.Proofs.YtmmbonlidcbkcaaDoor.MacNil Go.Proofs.YtmmbonlidcbkcaaDoor.MacMany Go.Proofs.YtmmbonlidcbkcaaDoor.LbC Go.Proofs.YtmmbonlidcbkcaaDoor.LbR Go.Proofs.YtmmbonlidcbkcaaDoor.LbA Go.Proofs.YtmmbonlidcbkcaaDoor.LbQ
set_option linter.unusedVariables false
set_option linter.unusedSimpArgs false

open Go.Proofs.YtmmbonlidcbkcaaDoor.PLabelRings (S107 z107)
/-- A step, as it lies. -/
structure Dos4 (w : World) (A : Option Addr) (n : Nat) : Prop where
  max : n ≤ 9223372036854775807
  at_ : ∀ i, i < n → ∃ ad b e B m d s, A = some ad ∧ w.cell? (ad.add (i * 4)) = some (.bool b) ∧ w.cell? ⟨(ad.add (i * 4)).block, (ad.add (i * 4)).off + 1, none⟩ = some (.int .i64 e) ∧ w.cell? ⟨(ad.add (i * 4)).block, (ad.add (i * 4)).off + 2, none⟩ = some (.slice B m d) ∧ w.cell? ⟨(ad.add (i * 4)).block, (ad.add (i * 4)).off + 3, none⟩ = some (.string s) ∧
    (Lit.int .i64 e).wf = true ∧ s.size ≤ maxLen ∧ ∃ l, Rd w B m d l ∧ IsB l ∧ m ≤ 140737488351232
theorem Dos4.below {w w1 : World} {A : Option Addr} {n : Nat} (h : Dos4 w A n) (hb : Below w.heap.size w w1) : Dos4 w1 A n := ⟨h.max, fun i hi => by
  obtain ⟨ad, b, e, B, m, d, s, e0, h0, h1, h2, h3, h4, h5, l, h6, h7, h8⟩ := h.at_ i hi
  exact ⟨ad, b, e, B, m, d, s, e0, pw_cell_below hb h0, pw_cell_below hb h1, pw_cell_below hb h2, pw_cell_below hb h3, h4, h5, l, h6.below hb, h7, h8⟩⟩
theorem rd_nilT (w : World) : Rd w none 0 0 [] := ⟨rfl, Nat.le_refl _, Kd.C_nil _ w⟩
/-- The master that is told, or no bytes. -/
def mstL (M : List S107) (e : Int) : List Int := (findM M e).getD []
theorem mstL_le {M : List S107} (h : OkM M) (e : Int) : (mstL M e).length ≤ 32 := by
  unfold mstL
  cases hf : findM M e with
  | none => simp
  | some key =>
    obtain ⟨x, hx, rfl, _⟩ := findM_mem hf
    simp [(h x hx).1]
theorem Master63_any {rb base : Nat} {ok : Nat → Prop} {M : List S107} {e : Int} {w : World} (hR : Rg w base ok rb M) (hM : OkM M) (h0 : -9223372036854775808 ≤ e) (h1 : e ≤ 9223372036854775807) :
    Calls Tryd.prog 63 #[.pointer (some ⟨rb, 0, none⟩), .int .i64 e] w fun x w' => ∃ A c, x = .returned (.slice A (mstL M e).length c) ∧ Rd w' A (mstL M e).length c (mstL M e) ∧ Below w.heap.size w w' := by
  unfold mstL
  cases hf : findM M e with
  | none =>
    refine (Master63_none hR h0 h1 hf).mono ?_
    rintro x w1 ⟨rfl, rfl⟩
    exact ⟨none, 0, rfl, rd_nilT _, Below.refl _ _⟩
  | some key =>
    have hk : key.length = 32 := by
      obtain ⟨x, hx, rfl, _⟩ := findM_mem hf
      exact (hM x hx).1
    refine (Master63_some hR h0 h1 hf).mono ?_
    rintro x w1 ⟨A, c, rfl, hr, hb⟩
    exact ⟨A, c, by simp [hk], by simpa [hk] using hr, hb⟩
theorem Master64_any {w0 : World} {A : Option Addr} {c n : Nat} {M : List S107} {e : Int} {w : World} (hC : Kd.C (kq w0) w A n M) (hM : OkM M) (hb0 : Below w0.heap.size w0 w) :
    Calls Tryd.prog 64 #[.agg #[.slice A n c], .int .i64 e] w fun x w' => ∃ A' c', x = .returned (.slice A' (mstL M e).length c') ∧ Rd w' A' (mstL M e).length c' (mstL M e) ∧ Below w.heap.size w w' := by
  unfold mstL
  refine (Master64_c hC).mono ?_
  rintro x w1 ⟨v, rfl, hv, hb⟩
  cases hf : findM M e with
  | none =>
    rw [hf] at hv
    obtain rfl : v = .slice none 0 0 := hv
    exact ⟨none, 0, rfl, rd_nilT _, hb⟩
  | some key =>
    have hk : key.length = 32 := by
      obtain ⟨x, hx, rfl, _⟩ := findM_mem hf
      exact (hM x hx).1
    rw [hf] at hv
    obtain ⟨B, d, rfl, hr⟩ := hv
    exact ⟨B, d, by simp [hk], by simpa [hk] using hr.below (below_next hb0 hb), hb⟩
theorem results_int (w : World) : True := trivial
theorem okM_nil : OkM [] := fun x hx => by cases hx
theorem okM_snoc {M : List S107} (h : OkM M) {e : Int} {l : List Int} (hl : l.length = 32) (hB : IsB l) (h1 : 1 ≤ e) (h2 : e ≤ 64) : OkM (M ++ [⟨e, l⟩]) := fun x hx => by
  rcases List.mem_append.1 hx with hx | hx
  · exact h x hx
  · rw [List.mem_singleton.1 hx]; exact ⟨hl, hB, h1, h2⟩
/-- What lies behind a round. -/
structure Rn (w w1 : World) (P : Nat → Prop) (gq rb : Nat) (Aq : Option Addr) (nq cq : Nat) (M : List S107) : Prop where
  bel : Below w.heap.size w w1
  okM : OkM M
  len : M.length = nq
  rg : Rg w1 w.heap.size P rb M
  mo : Mo w w1 w.heap.size (.slice Aq nq cq) M
  bq : Blk w1 gq 70 [.slice Aq nq cq]
  ge : w.heap.size ≤ gq
theorem Rn.below {w w1 w2 : World} {P : Nat → Prop} {gq rb : Nat} {Aq : Option Addr} {nq cq : Nat} {M : List S107} (h : Rn w w1 P gq rb Aq nq cq M) (hb : Below w1.heap.size w1 w2) : Rn w w2 P gq rb Aq nq cq M :=
  ⟨below_next h.bel hb, h.okM, h.len, h.rg.move hb, Kd.R_below h.mo hb, Blk.below h.bq hb, h.ge⟩
theorem Rn.imp {w w1 : World} {P P' : Nat → Prop} {gq rb : Nat} {Aq : Option Addr} {nq cq : Nat} {M : List S107} (h : Rn w w1 P gq rb Aq nq cq M) (hP : ∀ k, k < w1.heap.size → P k → P' k) : Rn w w1 P' gq rb Aq nq cq M :=
  ⟨h.bel, h.okM, h.len, h.rg.imp hP, h.mo, h.bq, h.ge⟩
theorem grown_set (W : World) (b i : Nat) (v : Value) : W.grownBy (W.setCell ⟨b, i, none⟩ v) (some b) := ⟨rfl, rfl, rfl, by simp [World.setCell], fun k _ hne => Below.heap_setCell W _ v k (fun e => hne (by rw [show k = b from e]))⟩
/-- The ring is another one. -/
theorem rn_put {w W : World} {P : Nat → Prop} {gq rb : Nat} {Aq Aq' : Option Addr} {nq cq nq' cq' : Nat} {M' : List S107} (hbel : Below w.heap.size w W) (hM : OkM M') (hl : M'.length = nq') (hR : Rg W w.heap.size P rb M') (hmo : Mo w W w.heap.size (.slice Aq' nq' cq') M') (hb : Blk W gq 70 [.slice Aq nq cq]) (hge : w.heap.size ≤ gq) (hP : ∀ k, P k → k ≠ gq) :
    Rn w (W.setCell ⟨gq, 0, none⟩ (.slice Aq' nq' cq')) P gq rb Aq' nq' cq' M' := by
  refine ⟨hbel.setCell (p := ⟨gq, 0, none⟩) hge _, hM, hl, ?_, ?_, Blk.set_ hb 0 _, hge⟩
  · refine hR.over (row := some gq) (t0 := 70) (by decide) (fun k hk => ?_) (fun k hk e => hP k hk (by injection e)) (grown_set W gq 0 _)
    injection hk with hk
    subst hk
    exact ⟨_, hb⟩
  · exact Kd.R_mono (Kd.R_set hmo hb (fun q hq => by simp [kq] at hq; rcases hq with rfl | hq; decide) 0 _) (fun _ h => h)
theorem mo_cells {w0 W W1 : World} {base : Nat} {v : Value} {M : List S107} (h : Mo w0 W base v M) (hc : ∀ (k : Nat) (cells : Array Value) (t : Nat) (fr : Nat × Nat), W.heap[k]? = some (.cells cells t fr) → W1.heap[k]? = some (.cells cells t fr)) : Mo w0 W1 base v M :=
  Kd.R_mono (Kd.R_step (Kd.R_bound h) (fun k hk hlt => by
    obtain ⟨_, _, _, q, _, cells, hk'⟩ := hk
    rw [hc k cells q (0, 0) hk', hk'])) (fun _ _ => trivial)
theorem int_at {W : World} {A : Option Addr} {N : Nat} {L : List Int} (h : Kd.C (Kd.int .i64) W A N L) (T : Nat) (hT : T < N) : ∃ ad, A = some ad ∧ W.cell? (ad.add T) = some (.int .i64 (L.getD T 0)) := by
  obtain ⟨ad, cs, e, hl, hK, hc⟩ := Kd.C_get h 0 (T : Int) (by omega) (by omega)
  have h0 := hc 0 (.int .i64 (L.getD T 0)) (by
    have : cs = [.int .i64 (L.getD T 0)] := hK
    rw [this]; rfl)
  exact ⟨ad, e, by simpa [Kd.int, Kd.scalar] using h0⟩
/-- A row of bytes, none of the ring's, was written. -/
theorem Rn.over {w w1 w2 : World} {P : Nat → Prop} {gq rb b : Nat} {Aq : Option Addr} {nq cq : Nat} {M : List S107} {u : Value} {xs : List Int} (h : Rn w w1 P gq rb Aq nq cq M) (hx : Ow w1 b u xs) (hb : w.heap.size ≤ b) (hP : ∀ k, P k → some k ≠ u.ownBlock) (hg : w1.grownBy w2 u.ownBlock) : Rn w w2 P gq rb Aq nq cq M := by
  have hty := Kd.R_typed hx
  refine ⟨h.bel.grown hg h.bel.size (fun k hk => Nat.le_trans hb (ow_ge hx k hk)), h.okM, h.len, h.rg.over (t0 := 5) (by decide) hty hP hg, Kd.R_over' h.mo hty (fun q hq => by simp [kq] at hq; rcases hq with rfl | hq; decide) hg, blk_grow h.bq hg (fun e => ?_), h.ge⟩
  obtain ⟨cells, hc⟩ := hty gq e.symm
  have hg' := hc.symm.trans h.bq
  injection hg' with hg'; injection hg' with _ hg'
  exact absurd hg' (by decide)
theorem ow_setq {W : World} {b gq : Nat} {u v y : Value} {xs : List Int} (h : Ow W b u xs) (hb : Blk W gq 70 [y]) : Ow (W.setCell ⟨gq, 0, none⟩ v) b u xs :=
  Kd.R_mono (Kd.R_set h hb (fun q hq => by simp [Kd.int, Kd.scalar] at hq; subst hq; decide) 0 _) (fun _ h => h)
/-- What comes of a master that is put, the error too. -/
def putM (M : List S107) (e : Int) (l : List Int) : List S107 × Int :=
  if e < 1 ∨ 64 < e ∨ l.length ≠ 32 then (M, 1) else match findM M e with
    | some _ => (M, 19)
    | none => (M ++ [⟨e, l⟩], 0)
theorem putM_len (M : List S107) (e : Int) (l : List Int) : (putM M e l).1.length ≤ M.length + 1 := by
  unfold putM
  split
  · simp
  · split <;> simp
theorem putM_ok {M : List S107} (h : OkM M) (e : Int) {l : List Int} (hB : IsB l) : OkM (putM M e l).1 := by
  unfold putM
  split
  · exact h
  · rename_i hn
    split
    · exact h
    · exact okM_snoc h (by omega) hB (by omega) (by omega)
theorem Put57_any {A : Option Addr} {c m rb base : Nat} {ok : Nat → Prop} {M : List S107} {e : Int} {l : List Int} {w : World} (hR : Rg w base ok rb M) (hr : Rd w A m c l) (hB : IsB l) (hm : M.length ≤ 1000) (hbase : base ≤ w.heap.size) :
    Calls Tryd.prog 57 #[.pointer (some ⟨rb, 0, none⟩), .int .i64 e, .slice A m c] w fun x w' => x = .returned (.int .i64 (putM M e l).2) ∧ Rg w' base (fun k => ok k ∨ w.heap.size ≤ k) rb (putM M e l).1 ∧ (∀ w0 B, Below B w0 w → B ≤ base → Below B w0 w') ∧ ∀ (k : Nat) (cells : Array Value) (t : Nat) (fr : Nat × Nat), w.heap[k]? = some (.cells cells t fr) → w'.heap[k]? = some (.cells cells t fr) := by
  have hl := hr.len
  unfold putM
  by_cases hbad : e < 1 ∨ 64 < e ∨ m ≠ 32
  · rw [if_pos (by rw [hl]; exact hbad)]
    refine (Put57_bad hbad).mono ?_
    rintro x w1 ⟨rfl, rfl⟩
    exact ⟨rfl, hR.imp (fun k _ h => .inl h), fun _ _ h _ => h, fun _ _ _ _ h => h⟩
  · rw [if_neg (by rw [hl]; exact hbad)]
    obtain rfl : m = 32 := by omega
    cases hf : findM M e with
    | some key =>
      refine (Put57_there hR (by omega) (by omega) hf).mono ?_
      rintro x w1 ⟨rfl, rfl⟩
      exact ⟨rfl, hR.imp (fun k _ h => .inl h), fun _ _ h _ => h, fun _ _ _ _ h => h⟩
    | none =>
      refine (Put57_new hR (by omega) (by omega) hf hr hB hm hbase).mono ?_
      rintro x w1 ⟨rfl, h1, h2, h3⟩
      exact ⟨rfl, h1, h2, h3⟩
theorem Put58_any {w0 : World} {A B : Option Addr} {c d n m base : Nat} {M : List S107} {e : Int} {l : List Int} {w : World} (hmo : Mo w0 w base (.slice A n c) M) (hr : Rd w0 B m d l) (hn : n ≤ 1000) (hbase : base ≤ w.heap.size) :
    Calls Tryd.prog 58 #[.agg #[.slice A n c], .int .i64 e, .slice B m d] w fun x w' => ∃ A' n' c', x = .returned (.tuple #[.agg #[.slice A' n' c'], .int .i64 (putM M e l).2]) ∧ (putM M e l).1.length = n' ∧ Mo w0 w' base (.slice A' n' c') (putM M e l).1 ∧ Below w.heap.size w w' := by
  have hl := hr.len
  have hln := (Kd.R_reads' hmo).1
  have hC : Kd.C (kq w0) w A n M := by have h := (Kd.R_reads' hmo).2.2; rwa [← hln] at h
  unfold putM
  by_cases hbad : e < 1 ∨ 64 < e ∨ m ≠ 32
  · rw [if_pos (by rw [hl]; exact hbad)]
    refine (Put58_bad (w0 := w0) hbad).mono ?_
    rintro x w1 ⟨rfl, hb⟩
    exact ⟨A, n, c, rfl, hln.symm, Kd.R_below hmo hb, hb⟩
  · rw [if_neg (by rw [hl]; exact hbad)]
    obtain rfl : m = 32 := by omega
    cases hf : findM M e with
    | some key =>
      refine (Put58_there hC (by omega) (by omega) hf).mono ?_
      rintro x w1 ⟨rfl, hb⟩
      exact ⟨A, n, c, rfl, hln.symm, Kd.R_below hmo hb, hb⟩
    | none =>
      refine (Put58_new hC (by omega) (by omega) hf hr hn).mono ?_
      rintro x w1 ⟨A', c', rfl, hm1, hb⟩
      exact ⟨A', n + 1, c', rfl, by rw [List.length_append, hln]; rfl, Kd.R_lower hm1 hbase, hb⟩
set_option maxHeartbeats 8000000 in
set_option maxRecDepth 100000 in
theorem walk (A : Option Addr) (n c : Nat) {w : World} (hd : Dos4 w A n) (ht : Tb w) :
    Calls Tryd.prog 21 #[.slice A n c] w fun x w' => x = .returned (.bool true) ∧ Below w.heap.size w w' := by
  have hmax := hd.max
  by_cases h40 : n ≤ 40
  · have b40 : ¬ (40 : Int) < (n : Int) := by omega
    have HD := Aside0.mk hd
    have HT := Aside0.mk ht
    clear hd hmax ht
    go_enter Tryd.func21, Tryd.ntmps21
    go_wp2_with fail
    refine New54_c.mono ?_
    rintro x w1 ⟨rb, rfl, hR1, hb1⟩
    obtain ⟨gq, hgq⟩ : ∃ g, w1.heap.size = g := ⟨_, rfl⟩
    have hR0 : Aside0 (Rn w (w1.alloc (.cells #[.slice none 0 0] 70)) (fun k => k ≠ w1.heap.size) w1.heap.size rb none 0 0 []) := by
      have hba : Below w1.heap.size w1 (w1.alloc (.cells #[.slice none 0 0] 70)) := (Below.refl _ w1).alloc (Nat.le_refl _) _
      exact ⟨below_next hb1 hba, okM_nil, rfl, (hR1.imp (ok' := fun k => k ≠ w1.heap.size) (fun k hk _ => by omega)).move hba, Kd.R_nil _ _ _ _ _, heap_alloc_new _ _, hb1.size⟩
    clear hR1 hb1
    go_upto_region 4 with (fail)
    generalize hW : w1.alloc _ = W1
    rw [hW] at hR0
    clear hW
    rw [hgq] at hR0
    clear hgq
    go_wp2_with fail
    go_loopw [28] (fun i wr => ∃ (j nq cq : Nat) (Aq : Option Addr) (M : List S107), j ≤ n ∧ i = .int .i64 j ∧ nq ≤ j ∧ Aside0 (Rn w wr (fun k => k ≠ gq) gq rb Aq nq cq M)) (fun i _ => n - (intOf i).toNat)
    case atStart => exact ⟨0, 0, 0, none, [], by omega, rfl, by omega, hR0⟩
    case round =>
      clear hR0
      obtain ⟨j, nq, cq, Aq, M, hj, rfl, hnq, hRn⟩ := hrel
      by_cases hlt : j < n
      · have hlt' : (j : Int) < (n : Int) := by omega
        obtain ⟨ad, b, e, B, m, d, s, rfl, k0, k1, k2, k3, hwe, hss, l, hrl, hIl, hm⟩ := HD.out.at_ j hlt
        have k0 := pw_cell_below hRn.out.bel k0
        have k1 := pw_cell_below hRn.out.bel k1
        have k2 := pw_cell_below hRn.out.bel k2
        have k3 := pw_cell_below hRn.out.bel k3
        obtain ⟨he0, he1⟩ := wf_i64 hwe
        have hlm := hrl.len
        have HL := Aside0.mk hlm
        have HRW0 := Aside0.mk hrl
        have HRL := Aside0.mk (hrl.below hRn.out.bel)
        have HIL := Aside0.mk hIl
        have HSS := Aside0.mk hss
        clear hwe hlm hrl hIl hss
        go_upto_region 7 with (fail)
        generalize hW0 : wr.alloc _ = W0
        have hbA : Below wr.heap.size wr W0 := by rw [← hW0]; exact (Below.refl _ wr).alloc (Nat.le_refl _) _
        have HX0 : Aside0 (Blk W0 wr.heap.size 72 [.bool b, .int .i64 e, .slice B m d, .string s]) := ⟨by rw [← hW0]; exact heap_alloc_new _ _⟩
        have HR0 := Aside0.mk (hRn.out.below hbA)
        have a0 : W0.cell? ⟨wr.heap.size, 0, none⟩ = some (.bool b) := Blk.cell HX0.out 0
        have hgd : wr.heap.size < W0.heap.size := Blk.lt HX0.out
        have HGN : Aside0 (wr.heap.size ≠ gq) := ⟨by have := Blk.lt hRn.out.bq; omega⟩
        clear hW0 k0 k1 k2 k3
        cases b with
        | true =>
          go_upto_region 8 with (fail)
          clear a0
          have a1 : W0.cell? ⟨wr.heap.size, 1, none⟩ = some (.int .i64 e) := Blk.cell HX0.out 1
          have a3 : W0.cell? ⟨wr.heap.size, 3, none⟩ = some (.string s) := Blk.cell HX0.out 3
          have HMC := Aside0.mk (Kd.R_reads' HR0.out.mo).2.2
          have HNQ := Aside0.mk HR0.out.len
          have htb := HT.out.below HR0.out.bel
          have HI := Aside0.mk (fun x hx => (HR0.out.okM x hx).2.1 : ∀ x ∈ M, IsB x.f1)
          cases hf : rightL s e with
          | false =>
            have HF := Aside0.mk hf
            clear hf
            go_wp2_with fail
            refine (Key55_arg HF.out).mono ?_
            rintro x w2 ⟨rfl, hBb⟩
            have b1 : w2.cell? ⟨wr.heap.size, 1, none⟩ = some (.int .i64 e) := Blk.cell (Blk.below HX0.out hBb) 1
            have b3 : w2.cell? ⟨wr.heap.size, 3, none⟩ = some (.string s) := Blk.cell (Blk.below HX0.out hBb) 3
            have bq : w2.cell? ⟨gq, 0, none⟩ = some (.slice Aq nq cq) := Blk.cell (Blk.below HR0.out.bq hBb) 0
            clear a1 a3
            go_wp2_with fail
            refine (Key56_c (w0 := w) (A := Aq) (n := nq) (c := cq) (M := M) (by have h := Kd.C_below HMC.out hBb; rwa [HNQ.out] at h) (below_next HR0.out.bel hBb) HSS.out HI.out).mono ?_
            rintro x w3 ⟨v, rfl, hv, hb3⟩
            rw [HF.out] at hv
            obtain rfl : v = .tuple #[.slice none 0 0, .int .i64 1] := hv
            have hB3 := below_next hBb hb3
            have s1 := rd_string (rd_nilT w3)
            have g1 := str_self []
            clear b1 b3 bq
            go_wp2_with fail
            go_loopw [64] (fun i wq => i = .int .i64 0 ∧ wq = w3) (fun i _ => 0)
            case atStart => exact ⟨rfl, rfl⟩
            case round =>
              obtain ⟨rfl, rfl⟩ := hrel
              go_wp2_with fail
              go_roundw
              case rel => exact ⟨j + 1, nq, cq, Aq, M, by omega, by go_num, by omega, ⟨HR0.out.below hB3⟩⟩
              case measure => simp [intOf]; omega
          | true =>
            have HF := Aside0.mk hf
            clear hf
            cases hm : findM M e with
            | none =>
              have HFM := Aside0.mk hm
              clear hm
              go_wp2_with fail
              refine (Key55_none HR0.out.rg HF.out HFM.out).mono ?_
              rintro x w2 ⟨rfl, hBb⟩
              have b1 : w2.cell? ⟨wr.heap.size, 1, none⟩ = some (.int .i64 e) := Blk.cell (Blk.below HX0.out hBb) 1
              have b3 : w2.cell? ⟨wr.heap.size, 3, none⟩ = some (.string s) := Blk.cell (Blk.below HX0.out hBb) 3
              have bq : w2.cell? ⟨gq, 0, none⟩ = some (.slice Aq nq cq) := Blk.cell (Blk.below HR0.out.bq hBb) 0
              clear a1 a3
              go_wp2_with fail
              refine (Key56_c (w0 := w) (A := Aq) (n := nq) (c := cq) (M := M) (by have h := Kd.C_below HMC.out hBb; rwa [HNQ.out] at h) (below_next HR0.out.bel hBb) HSS.out HI.out).mono ?_
              rintro x w3 ⟨v, rfl, hv, hb3⟩
              rw [HF.out, HFM.out] at hv
              obtain rfl : v = .tuple #[.slice none 0 0, .int .i64 24] := hv
              have hB3 := below_next hBb hb3
              have s1 := rd_string (rd_nilT w3)
              have g1 := str_self []
              clear b1 b3 bq
              go_wp2_with fail
              go_loopw [64] (fun i wq => i = .int .i64 0 ∧ wq = w3) (fun i _ => 0)
              case atStart => exact ⟨rfl, rfl⟩
              case round =>
                obtain ⟨rfl, rfl⟩ := hrel
                go_wp2_with fail
                go_roundw
                case rel => exact ⟨j + 1, nq, cq, Aq, M, by omega, by go_num, by omega, ⟨HR0.out.below hB3⟩⟩
                case measure => simp [intOf]; omega
            | some key =>
              have HFM := Aside0.mk hm
              clear hm
              go_wp2_with fail
              refine (Key55_some HR0.out.rg HF.out HFM.out htb).mono ?_
              rintro x w2 ⟨g, rfl, hO, hg, hBb⟩
              have b1 : w2.cell? ⟨wr.heap.size, 1, none⟩ = some (.int .i64 e) := Blk.cell (Blk.below HX0.out hBb) 1
              have b3 : w2.cell? ⟨wr.heap.size, 3, none⟩ = some (.string s) := Blk.cell (Blk.below HX0.out hBb) 3
              have bq : w2.cell? ⟨gq, 0, none⟩ = some (.slice Aq nq cq) := Blk.cell (Blk.below HR0.out.bq hBb) 0
              have HO := Aside0.mk hO
              clear a1 a3 hO
              go_wp2_with fail
              refine (Key56_c (w0 := w) (A := Aq) (n := nq) (c := cq) (M := M) (by have h := Kd.C_below HMC.out hBb; rwa [HNQ.out] at h) (below_next HR0.out.bel hBb) HSS.out HI.out).mono ?_
              rintro x w3 ⟨v, rfl, hv, hb3⟩
              rw [HF.out, HFM.out] at hv
              obtain ⟨B3, d3, rfl, r3⟩ := hv
              have hB3 := below_next hBb hb3
              obtain ⟨T, HTT⟩ : ∃ T, Aside0 (tagS key (textS s e) = T) := ⟨_, ⟨rfl⟩⟩
              have HTL : Aside0 (T.length = 32) := ⟨by rw [← HTT.out]; exact tagS_length _ _⟩
              rw [HTT.out] at HO r3
              have HO3 := Aside0.mk (Blk.below HO.out hb3)
              have s1 := rd_string (rd_blk32 HO3.out HTL.out)
              have s2 := rd_string r3
              have g1 := str_self T
              clear b1 b3 bq r3 HO
              go_wp2_with fail
              clear s1 s2 g1
              go_loopw [64] (fun i wq => ∃ (t : Nat) (xs : List Int), t ≤ 32 ∧ i = .int .i64 t ∧ Aside0 (xs.length = 32) ∧ Aside0 (Blk wq g 27 (nums .u8 xs)) ∧ Below W0.heap.size W0 wq) (fun i _ => 32 - (intOf i).toNat)
              case atStart => exact ⟨0, T, by omega, rfl, HTL, HO3, hB3⟩
              case round =>
                clear HO3 hB3
                obtain ⟨t, xs, ht, rfl, hxl, hX, hb⟩ := hrel
                by_cases hlt3 : t < 32
                · have hlt3' : (t : Int) < 32 := by omega
                  obtain ⟨y, cX⟩ : ∃ y, wr.cell? ⟨g, t, none⟩ = some (.int .u8 y) := ⟨_, blk_num hX.out t (by rw [hxl.out]; exact hlt3)⟩
                  have fX := Blk.frozen hX.out t
                  have hX' : ∀ z : Int, Aside0 (Blk (wr.setCell ⟨g, t, none⟩ (.int .u8 z)) g 27 (nums .u8 (xs.set t z))) := fun z => ⟨blk_put hX.out t z⟩
                  have hxl' : ∀ z : Int, Aside0 ((xs.set t z).length = 32) := fun z => ⟨by rw [List.length_set]; exact hxl.out⟩
                  have hb' : ∀ z : Int, Below W0.heap.size W0 (wr.setCell ⟨g, t, none⟩ (.int .u8 z)) := fun z => hb.setCell (p := ⟨g, t, none⟩) hg _
                  go_wp2_with fail
                  go_roundw
                  case rel => exact ⟨t + 1, _, by omega, by go_num, hxl' _, hX' _, hb' _⟩
                  case measure => simp [intOf]; omega
                · have hge3 : ¬ (t : Int) < 32 := by omega
                  obtain rfl : t = 32 := by omega
                  go_wp2_with fail
                  go_roundw
                  case rel => exact ⟨j + 1, nq, cq, Aq, M, by omega, by go_num, by omega, ⟨HR0.out.below hb⟩⟩
                  case measure => simp [intOf]; omega
        | false =>
          go_upto_region 17 with (fail)
          clear a0
          have a2 : W0.cell? ⟨wr.heap.size, 2, none⟩ = some (.slice B m d) := Blk.cell HX0.out 2
          go_wp2_with fail
          refine (own48_c (HRL.out.below hbA) hm).mono ?_
          rintro x w2 ⟨v3, rfl, ho3, hBb⟩
          obtain ⟨A3, c3, rfl, r3⟩ := rd_of_own ho3
          rw [HL.out] at ho3 r3 ⊢
          obtain ⟨gd, hgd2⟩ : ∃ g, Aside0 (wr.heap.size = g) := ⟨_, ⟨rfl⟩⟩
          have HXb := Aside0.mk (Blk.below HX0.out hBb)
          have HRb := Aside0.mk ((HR0.out.imp (P' := fun k => k ≠ gq ∧ k < W0.heap.size) (fun k hk h => ⟨h, hk⟩)).below hBb)
          have HO3 := Aside0.mk ho3
          have HR3 := Aside0.mk r3
          have HPb : Aside0 (∀ k, (k ≠ gq ∧ k < W0.heap.size) ∨ w2.heap.size ≤ k → k ≠ gq ∧ some k ≠ (Value.slice A3 m c3).ownBlock) := ⟨fun k hk => by
            have hgq2 := Blk.lt HRb.out.bq
            refine ⟨by omega, fun e0 => ?_⟩
            have h1 := ow_ge HO3.out k e0.symm
            have h2 := ow_lt HO3.out k e0.symm
            omega⟩
          have b1 : w2.cell? ⟨wr.heap.size, 1, none⟩ = some (.int .i64 e) := Blk.cell HXb.out 1
          have b2 : w2.cell? ⟨wr.heap.size, 2, none⟩ = some (.slice B m d) := Blk.cell HXb.out 2
          have bq : w2.cell? ⟨gq, 0, none⟩ = some (.slice Aq nq cq) := Blk.cell HRb.out.bq 0
          have HMb := Aside0.mk (Kd.R_reads' HRb.out.mo).2.2
          have HNQ := Aside0.mk HRb.out.len
          have HWB : Aside0 (Below w.heap.size w W0) := ⟨HR0.out.bel⟩
          have HRW : Aside0 (Rd w B m d l) := ⟨HRW0.out⟩
          clear a2 ho3 r3 HX0 HR0 hBb HRL hRn
          go_upto_region 18 with (fail)
          obtain ⟨pm, HPM⟩ : ∃ pm, Aside0 (putM M e l = pm) := ⟨_, ⟨rfl⟩⟩
          obtain ⟨M', er⟩ := pm
          have HOK := Aside0.mk (putM_ok HRb.out.okM e HIL.out)
          have HLN := Aside0.mk (putM_len M e l)
          rw [HPM.out] at HOK HLN
          go_wp2_with fail
          refine (Put57_any HRb.out.rg HR3.out HIL.out (by have := HNQ.out; omega) HRb.out.bel.size).mono ?_
          rintro x w3 ⟨rfl, hR3, hbe3, hcl3⟩
          rw [HPM.out] at hR3 ⊢
          have hB3 := hbe3 w w.heap.size HRb.out.bel (Nat.le_refl _)
          have HR3' := Aside0.mk (hR3.imp (ok' := fun k => k ≠ gq ∧ some k ≠ (Value.slice A3 m c3).ownBlock) (fun k _ hk => HPb.out k hk))
          have HM3 := Aside0.mk (mo_cells HRb.out.mo hcl3)
          have HO3' := Aside0.mk (ow_cells HO3.out hcl3)
          have HX3 := Aside0.mk (show Blk w3 wr.heap.size 72 [.bool false, .int .i64 e, .slice B m d, .string s] from hcl3 _ _ _ _ HXb.out)
          have HQ3 := Aside0.mk (show Blk w3 gq 70 [.slice Aq nq cq] from hcl3 _ _ _ _ HRb.out.bq)
          have d1 : w3.cell? ⟨wr.heap.size, 1, none⟩ = some (.int .i64 e) := Blk.cell HX3.out 1
          have d2 : w3.cell? ⟨wr.heap.size, 2, none⟩ = some (.slice B m d) := Blk.cell HX3.out 2
          have dq : w3.cell? ⟨gq, 0, none⟩ = some (.slice Aq nq cq) := Blk.cell HQ3.out 0
          clear bq b1 b2 hR3 hbe3 hcl3
          go_wp2_with fail
          refine (Put58_any HM3.out HRW.out (by omega) hB3.size).mono ?_
          rintro x w4 ⟨Aq', nq', cq', rfl, hln4, hM4, hb4⟩
          rw [HPM.out] at hln4 hM4 ⊢
          have hb5 : Below w3.heap.size w3 (w4.alloc (.cells #[.slice Aq' nq' cq'] 70)) := hb4.alloc hb4.size _
          have HQ5 := Aside0.mk (Blk.below HQ3.out hb5)
          have fq := Blk.frozen HQ5.out 0
          have cq5 : (w4.alloc (.cells #[.slice Aq' nq' cq'] 70)).cell? ⟨gq, 0, none⟩ = some (.slice Aq nq cq) := Blk.cell HQ5.out 0
          have cp5 : (w4.alloc (.cells #[.slice Aq' nq' cq'] 70)).cell? ⟨w4.heap.size, 0, none⟩ = some (.slice Aq' nq' cq') := Blk.cell (heap_alloc_new _ _) 0
          have HO5 := Aside0.mk (Kd.R_below HO3'.out hb5)
          have HX5 := Aside0.mk (Blk.below HX3.out hb5)
          have HM5 : Aside0 (Mo w (w4.alloc (.cells #[.slice Aq' nq' cq'] 70)) w.heap.size (.slice Aq' nq' cq') M') := ⟨Kd.R_alloc hM4 _⟩
          have HR5 := Aside0.mk (HR3'.out.move hb5)
          have HB5 := Aside0.mk (below_next hB3 hb5)
          have hge := HRb.out.ge
          have hnq' : nq' ≤ j + 1 := by have h1 := HLN.out; have h2 := HNQ.out; simp only at h1 hln4; omega
          have HRc : Aside0 (Rn w ((w4.alloc (.cells #[.slice Aq' nq' cq'] 70)).setCell ⟨gq, 0, none⟩ (.slice Aq' nq' cq')) (fun k => k ≠ gq ∧ some k ≠ (Value.slice A3 m c3).ownBlock) gq rb Aq' nq' cq' M') := ⟨rn_put HB5.out HOK.out hln4 HR5.out HM5.out HQ5.out hge (fun k hk => hk.1)⟩
          have HOc : Aside0 (Ow ((w4.alloc (.cells #[.slice Aq' nq' cq'] 70)).setCell ⟨gq, 0, none⟩ (.slice Aq' nq' cq')) W0.heap.size (.slice A3 m c3) l) := ⟨ow_setq HO5.out HQ5.out⟩
          have HXc : Aside0 (Blk ((w4.alloc (.cells #[.slice Aq' nq' cq'] 70)).setCell ⟨gq, 0, none⟩ (.slice Aq' nq' cq')) wr.heap.size 72 [.bool false, .int .i64 e, .slice B m d, .string s]) := ⟨Blk.far HX5.out (by show wr.heap.size ≠ gq; exact HGN.out) _⟩
          clear d1 d2 dq hM4 hln4 HPM
          go_upto_region 21 with (fail)
          generalize hWC : World.setCell _ _ _ = wc
          rw [hWC] at HRc HOc HXc
          clear hWC HR5 HB5 HM5 HX5 HO5 HQ5 cq5 fq cp5 HM3 HO3' HX3 HQ3 HR3'
          have HXg : Aside0 (Blk wc gd 72 [.bool false, .int .i64 e, .slice B m d, .string s]) := ⟨by rw [← hgd2.out]; exact HXc.out⟩
          rw [hgd2.out]
          clear HXc
          have hgr : Aside0 (wc.grownBy wc (Value.slice A3 m c3).ownBlock) := ⟨World.grownBy.refl _ _⟩
          have HXX := HOc
          have hszw : w.heap.size ≤ W0.heap.size := HWB.out.size
          go_wp2_with fail
          go_loopw [94] (fun i wq => ∃ (T : Nat) (xs : List Int), T ≤ m ∧ i = .int .i64 T ∧ Aside0 (xs.length = m) ∧ Aside0 (Ow wq W0.heap.size (.slice A3 m c3) xs) ∧ Aside0 (wc.grownBy wq (Value.slice A3 m c3).ownBlock)) (fun i _ => m - (intOf i).toNat)
          case atStart => exact ⟨0, l, by omega, rfl, HL, HOc, hgr⟩
          case round =>
            clear HOc hgr
            obtain ⟨T, xs, hT, rfl, hxl, hX, hG⟩ := hrel
            by_cases hlt4 : T < m
            · have hlt4' : (T : Int) < (m : Int) := by omega
              have hxo := Kd.own_of_R hX.out
              rw [hxl.out] at hxo
              obtain ⟨gx, rfl⟩ : ∃ gx, A3 = some ⟨gx, 0, none⟩ := by
                rcases hxo.2 with ⟨_, h0⟩ | ⟨g', cap', cur, hv, _⟩
                · omega
                · injection hv with hv; exact ⟨g', hv⟩
              have hat := own_at (k := .u8) (xs := xs) hxo (T : Int) (by omega) (by omega)
              simp only [Int.toNat_natCast] at hat
              obtain ⟨hc1, hf1⟩ := hat
              have hst := own_store (k := .u8) (xs := xs) hxo (T : Int) (IntKind.u8.wrap (rd xs T + 1))
              simp only [Int.toNat_natCast] at hst
              have HX' : Aside0 (Ow (wr.setCell ⟨gx, T, none⟩ (.int .u8 (IntKind.u8.wrap (rd xs T + 1)))) W0.heap.size (.slice (some ⟨gx, 0, none⟩) m c3) (xs.set T (IntKind.u8.wrap (rd xs T + 1)))) := ⟨Kd.R_of_own (by rw [List.length_set, hxl.out]; exact hst.1) (fun _ _ => trivial)⟩
              have HG' : Aside0 (wc.grownBy (wr.setCell ⟨gx, T, none⟩ (.int .u8 (IntKind.u8.wrap (rd xs T + 1)))) (Value.slice (some ⟨gx, 0, none⟩) m c3).ownBlock) := ⟨World.grownBy.trans hG.out hst.2⟩
              have HXL' : Aside0 ((xs.set T (IntKind.u8.wrap (rd xs T + 1))).length = m) := ⟨by rw [List.length_set]; exact hxl.out⟩
              clear hxo hst
              generalize rd xs T = y at *
              go_wp2_with fail
              go_roundw
              case rel => exact ⟨T + 1, _, by omega, by go_num, HXL', HX', HG'⟩
              case measure => simp [intOf]; omega
            · have hge4 : ¬ (T : Int) < (m : Int) := by omega
              have HRq := Aside0.mk ((HRc.out.over HXX.out hszw (fun k hk => hk.2) hG.out).imp (P' := fun k => k ≠ gq) (fun k _ h => h.1))
              have HXq := Aside0.mk (blk_grow HXg.out hG.out (fun e0 => by
                obtain ⟨cells, hc⟩ := Kd.R_typed HXX.out gd e0.symm
                have hg' := hc.symm.trans HXg.out
                injection hg' with hg'; injection hg' with _ hg'
                exact absurd hg' (by decide)))
              have HCq : Aside0 (Kd.C (kq w) wr Aq' nq' M') := ⟨by have h := (Kd.R_reads' HRq.out.mo).2.2; rwa [HRq.out.len] at h⟩
              have HF0 : Aside0 (findM M' 0 = none) := ⟨findM_out HRq.out.okM (.inl (by omega))⟩
              obtain ⟨L, HEL⟩ : ∃ L, Aside0 (epochsS M' = L) := ⟨_, ⟨rfl⟩⟩
              have hN65 : (epochsS M').length ≤ 65 := epochsTo_le M' 65
              rw [HEL.out] at hN65
              obtain ⟨N, HNN⟩ : ∃ N, Aside0 (L.length = N) := ⟨_, ⟨rfl⟩⟩
              rw [HNN.out] at hN65
              have HSA : Aside0 (∀ w', Below wr.heap.size wr w' → w'.cell? ⟨gq, 0, none⟩ = some (.slice Aq' nq' cq') ∧ w'.cell? ⟨gd, 1, none⟩ = some (.int .i64 e)) := ⟨fun w' hb => ⟨Blk.cell (Blk.below HRq.out.bq hb) 0, Blk.cell (Blk.below HXq.out hb) 1⟩⟩
              have hD0 : Below wr.heap.size wr wr.drew := (Below.refl _ wr).drew
              clear hG hX hxl HXX HRc HXg
              go_upto_region 26 with (fail)
              go_cut [17, 18] from 104 to 107 (fun v17 v18 wx => ∃ (A1 : Option Addr) (c1 : Nat) (A2 : Option Addr) (c2 : Nat), v17 = .slice A1 N c1 ∧ v18 = .slice A2 N c2 ∧ Aside0 (Kd.C (Kd.int .i64) wx A1 N L) ∧ Aside0 (Kd.C (Kd.int .i64) wx A2 N L) ∧ Below wr.heap.size wr wx)
              case first =>
                refine wp_region_held_drew (S := (fun w' => w'.cell? ⟨gq, 0, none⟩ = some (.slice Aq' nq' cq') ∧ w'.cell? ⟨gd, 1, none⟩ = some (.int .i64 e))) (by kernel_rfl) ?_ (fun hHeld => ?_)
                · exact HSA.out _ hD0
                refine wpAnyH_take (i := 0) (v := ?_) (List.getElem?_toArray.trans rfl) (by kernel_rfl) (by kernel_rfl) (by kernel_rfl) (fun _ _ _ h => h) (Or.inl ⟨by rfl, ?_⟩) (by assumption) ?_
                rotate_left
                · (intro w hSw; (try dsimp only at hSw); obtain ⟨s1, s2⟩ := hSw; go_simp; try with_reducible rfl)
                (try simp only [Act.put, List.setIfInBounds_toArray, List.set_cons_zero, List.set_cons_succ])
                refine wpAnyH_take (i := 2) (v := ?_) (List.getElem?_toArray.trans rfl) (by kernel_rfl) (by kernel_rfl) (by kernel_rfl) (fun _ _ _ h => h) (Or.inl ⟨by rfl, ?_⟩) (by assumption) ?_
                rotate_left
                · (intro w hSw; (try dsimp only at hSw); obtain ⟨s1, s2⟩ := hSw; go_simp; try with_reducible rfl)
                (try simp only [Act.put, List.setIfInBounds_toArray, List.set_cons_zero, List.set_cons_succ])
                refine wpAnyH_ready (rs := [1]) (by kernel_rfl) (by simp) (AllReadyH.cons (List.getElem?_toArray.trans rfl) (fun Kx hKx => ?_) AllReadyH.nil)
                · go_simp
                  go_at_call 59
                  refine (Epochs59_c (HRq.out.rg.move hD0)).mono ?_
                  rintro x v1 ⟨_, rfl, ho1, hb1⟩
                  rw [HEL.out] at ho1
                  obtain ⟨A1, c1, rfl, _, hC1⟩ := Kd.R_reads ho1
                  rw [HNN.out] at hC1 ⊢
                  have hB1 := below_next hD0 hb1
                  go_wp2_with fail
                  refine hKx.out _ _ ?_ (fun hHeld => ?_)
                  · exact HSA.out _ hB1
                  clear hKx Kx
                  (try simp only [Act.put, List.setIfInBounds_toArray, List.set_cons_zero, List.set_cons_succ])
                  refine wpAnyH_ready (rs := [3]) (by kernel_rfl) (by simp) (AllReadyH.cons (List.getElem?_toArray.trans rfl) (fun Kx hKx => ?_) AllReadyH.nil)
                  · go_simp
                    go_at_call 60
                    refine (Epochs60_c (w0 := w) (Kd.C_below HCq.out hB1) HF0.out).mono ?_
                    rintro x v2 ⟨_, rfl, ho2, hb2⟩
                    rw [HEL.out] at ho2
                    obtain ⟨A2, c2, rfl, _, hC2⟩ := Kd.R_reads ho2
                    rw [HNN.out] at hC2 ⊢
                    have hC1 := Kd.C_below hC1 hb2
                    have hB2 := below_next hB1 hb2
                    go_wp2_with fail
                    refine hKx.out _ _ ?_ (fun hHeld => ?_)
                    · exact HSA.out _ hB2
                    clear hKx Kx
                    (try simp only [Act.put, List.setIfInBounds_toArray, List.set_cons_zero, List.set_cons_succ])
                    refine wpAnyH_take (i := 4) (v := ?_) (List.getElem?_toArray.trans rfl) (by kernel_rfl) (by kernel_rfl) (by kernel_rfl) (fun _ _ _ h => h) (Or.inl ⟨by rfl, ?_⟩) (by assumption) ?_
                    rotate_left
                    · (intro w hSw; (try dsimp only at hSw); obtain ⟨s1, s2⟩ := hSw; go_simp; try with_reducible rfl)
                    (try simp only [Act.put, List.setIfInBounds_toArray, List.set_cons_zero, List.set_cons_succ])
                    refine wpAnyH_take (i := 5) (v := ?_) (List.getElem?_toArray.trans rfl) (by kernel_rfl) (by kernel_rfl) (by kernel_rfl) (fun _ _ _ h => h) (Or.inl ⟨by rfl, ?_⟩) (by assumption) ?_
                    rotate_left
                    · (intro w hSw; (try dsimp only at hSw); obtain ⟨s1, s2⟩ := hSw; go_simp; try with_reducible rfl)
                    (try simp only [Act.put, List.setIfInBounds_toArray, List.set_cons_zero, List.set_cons_succ])
                    refine wpAnyH_done (by kernel_rfl) ?_ _
                    go_wp2_with fail
                    go_meet
                    exact ⟨_, _, _, _, rfl, rfl, ⟨hC1⟩, ⟨hC2⟩, hB2⟩
              case' rest => obtain ⟨A1, c1, A2, c2, rfl, rfl, HC1, HC2, hbx⟩ := hcut
              have HRx := Aside0.mk (HRq.out.below hbx)
              have HXx := Aside0.mk (Blk.below HXq.out hbx)
              have HCx := Aside0.mk (Kd.C_below HCq.out hbx)
              have HSX : Aside0 (∀ w', Below wc.heap.size wc w' → w'.cell? ⟨gq, 0, none⟩ = some (.slice Aq' nq' cq') ∧ w'.cell? ⟨gd, 1, none⟩ = some (.int .i64 e)) := ⟨fun w' hb => ⟨Blk.cell (Blk.below HRx.out.bq hb) 0, Blk.cell (Blk.below HXx.out hb) 1⟩⟩
              clear HSA hD0 HCq HRq HXq hbx
              have hD0 : Below wc.heap.size wc wc.drew := (Below.refl _ wc).drew
              obtain ⟨la, HLA⟩ : ∃ z, Aside0 (lastS M' = z) := ⟨_, ⟨rfl⟩⟩
              obtain ⟨X, HXX⟩ : ∃ z, Aside0 (mstL M' e = z) := ⟨_, ⟨rfl⟩⟩
              obtain ⟨Nx, HNX⟩ : ∃ z, Aside0 (X.length = z) := ⟨_, ⟨rfl⟩⟩
              have g1 := str_self X
              go_upto_region 27 with (fail)
              go_cut [137] from 108 to 136 (fun v wx => v = .bool false ∧ Below wc.heap.size wc wx)
              case first =>
                refine wp_region_held_drew (S := (fun w' => w'.cell? ⟨gq, 0, none⟩ = some (.slice Aq' nq' cq') ∧ w'.cell? ⟨gd, 1, none⟩ = some (.int .i64 e))) (by kernel_rfl) ?_ (fun hHeld => ?_)
                · exact HSX.out _ hD0
                refine wpAnyH_take (i := 0) (v := ?_) (List.getElem?_toArray.trans rfl) (by kernel_rfl) (by kernel_rfl) (by kernel_rfl) (fun _ _ _ h => h) (Or.inl ⟨by rfl, ?_⟩) (by assumption) ?_
                rotate_left
                · (intro w hSw; (try dsimp only at hSw); obtain ⟨s1, s2⟩ := hSw; go_simp; try with_reducible rfl)
                (try simp only [Act.put, List.setIfInBounds_toArray, List.set_cons_zero, List.set_cons_succ])
                refine wpAnyH_take (i := 1) (v := ?_) (List.getElem?_toArray.trans rfl) (by kernel_rfl) (by kernel_rfl) (by kernel_rfl) (fun _ _ _ h => h) (Or.inl ⟨by rfl, ?_⟩) (by assumption) ?_
                rotate_left
                · (intro w hSw; (try dsimp only at hSw); obtain ⟨s1, s2⟩ := hSw; go_simp; try with_reducible rfl)
                (try simp only [Act.put, List.setIfInBounds_toArray, List.set_cons_zero, List.set_cons_succ])
                refine wpAnyH_take (i := 2) (v := ?_) (List.getElem?_toArray.trans rfl) (by kernel_rfl) (by kernel_rfl) (by kernel_rfl) (fun _ _ _ h => h) (Or.inl ⟨by rfl, ?_⟩) (by assumption) ?_
                rotate_left
                · (intro w hSw; (try dsimp only at hSw); obtain ⟨s1, s2⟩ := hSw; go_simp; try with_reducible rfl)
                (try simp only [Act.put, List.setIfInBounds_toArray, List.set_cons_zero, List.set_cons_succ])
                refine wpAnyH_take (i := 3) (v := ?_) (List.getElem?_toArray.trans rfl) (by kernel_rfl) (by kernel_rfl) (by kernel_rfl) (fun _ _ _ h => h) (Or.inl ⟨by rfl, ?_⟩) (by assumption) ?_
                rotate_left
                · (intro w hSw; (try dsimp only at hSw); obtain ⟨s1, s2⟩ := hSw; go_simp; try with_reducible rfl)
                (try simp only [Act.put, List.setIfInBounds_toArray, List.set_cons_zero, List.set_cons_succ])
                refine wpAnyH_take (i := 4) (v := ?_) (List.getElem?_toArray.trans rfl) (by kernel_rfl) (by kernel_rfl) (by kernel_rfl) (fun _ _ _ h => h) (Or.inl ⟨by rfl, ?_⟩) (by assumption) ?_
                rotate_left
                · (intro w hSw; (try dsimp only at hSw); obtain ⟨s1, s2⟩ := hSw; go_simp; try with_reducible rfl)
                (try simp only [Act.put, List.setIfInBounds_toArray, List.set_cons_zero, List.set_cons_succ])
                refine wpAnyH_take (i := 5) (v := ?_) (List.getElem?_toArray.trans rfl) (by kernel_rfl) (by kernel_rfl) (by kernel_rfl) (fun _ _ _ h => h) (Or.inl ⟨by rfl, ?_⟩) (by assumption) ?_
                rotate_left
                · (intro w hSw; (try dsimp only at hSw); obtain ⟨s1, s2⟩ := hSw; go_simp; try with_reducible rfl)
                (try simp only [Act.put, List.setIfInBounds_toArray, List.set_cons_zero, List.set_cons_succ])
                refine wpAnyH_take (i := 6) (v := ?_) (List.getElem?_toArray.trans rfl) (by kernel_rfl) (by kernel_rfl) (by kernel_rfl) (fun _ _ _ h => h) (Or.inl ⟨by rfl, ?_⟩) (by assumption) ?_
                rotate_left
                · (intro w hSw; (try dsimp only at hSw); obtain ⟨s1, s2⟩ := hSw; go_simp; try with_reducible rfl)
                (try simp only [Act.put, List.setIfInBounds_toArray, List.set_cons_zero, List.set_cons_succ])
                refine wpAnyH_take (i := 7) (v := ?_) (List.getElem?_toArray.trans rfl) (by kernel_rfl) (by kernel_rfl) (by kernel_rfl) (fun _ _ _ h => h) (Or.inl ⟨by rfl, ?_⟩) (by assumption) ?_
                rotate_left
                · (intro w hSw; (try dsimp only at hSw); obtain ⟨s1, s2⟩ := hSw; go_simp; try with_reducible rfl)
                (try simp only [Act.put, List.setIfInBounds_toArray, List.set_cons_zero, List.set_cons_succ])
                refine wpAnyH_take (i := 8) (v := ?_) (List.getElem?_toArray.trans rfl) (by kernel_rfl) (by kernel_rfl) (by kernel_rfl) (fun _ _ _ h => h) (Or.inl ⟨by rfl, ?_⟩) (by assumption) ?_
                rotate_left
                · (intro w hSw; (try dsimp only at hSw); obtain ⟨s1, s2⟩ := hSw; go_simp; try with_reducible rfl)
                (try simp only [Act.put, List.setIfInBounds_toArray, List.set_cons_zero, List.set_cons_succ])
                refine wpAnyH_take (i := 9) (v := ?_) (List.getElem?_toArray.trans rfl) (by kernel_rfl) (by kernel_rfl) (by kernel_rfl) (fun _ _ _ h => h) (Or.inl ⟨by rfl, ?_⟩) (by assumption) ?_
                rotate_left
                · (intro w hSw; (try dsimp only at hSw); obtain ⟨s1, s2⟩ := hSw; go_simp; try with_reducible rfl)
                (try simp only [Act.put, List.setIfInBounds_toArray, List.set_cons_zero, List.set_cons_succ])
                refine wpAnyH_take (i := 10) (v := ?_) (List.getElem?_toArray.trans rfl) (by kernel_rfl) (by kernel_rfl) (by kernel_rfl) (fun _ _ _ h => h) (Or.inl ⟨by rfl, ?_⟩) (by assumption) ?_
                rotate_left
                · (intro w hSw; (try dsimp only at hSw); obtain ⟨s1, s2⟩ := hSw; go_simp; try with_reducible rfl)
                (try simp only [Act.put, List.setIfInBounds_toArray, List.set_cons_zero, List.set_cons_succ])
                refine wpAnyH_take (i := 11) (v := ?_) (List.getElem?_toArray.trans rfl) (by kernel_rfl) (by kernel_rfl) (by kernel_rfl) (fun _ _ _ h => h) (Or.inl ⟨by rfl, ?_⟩) (by assumption) ?_
                rotate_left
                · (intro w hSw; (try dsimp only at hSw); obtain ⟨s1, s2⟩ := hSw; go_simp; try with_reducible rfl)
                (try simp only [Act.put, List.setIfInBounds_toArray, List.set_cons_zero, List.set_cons_succ])
                refine wpAnyH_take (i := 13) (v := ?_) (List.getElem?_toArray.trans rfl) (by kernel_rfl) (by kernel_rfl) (by kernel_rfl) (fun _ _ _ h => h) (Or.inl ⟨by rfl, ?_⟩) (by assumption) ?_
                rotate_left
                · (intro w hSw; (try dsimp only at hSw); obtain ⟨s1, s2⟩ := hSw; go_simp; try with_reducible rfl)
                (try simp only [Act.put, List.setIfInBounds_toArray, List.set_cons_zero, List.set_cons_succ])
                refine wpAnyH_ready (rs := [12]) (by kernel_rfl) (by simp) (AllReadyH.cons (List.getElem?_toArray.trans rfl) (fun Kx hKx => ?_) AllReadyH.nil)
                · go_simp
                  go_at_call 61
                  refine (Last61_c (HRx.out.rg.move hD0)).mono ?_
                  rintro x v1 ⟨rfl, hb1⟩
                  rw [HLA.out]
                  have hB1 := below_next hD0 hb1
                  go_wp2_with fail
                  refine hKx.out _ _ ?_ (fun hHeld => ?_)
                  · exact HSX.out _ hB1
                  clear hKx Kx
                  (try simp only [Act.put, List.setIfInBounds_toArray, List.set_cons_zero, List.set_cons_succ])
                  refine wpAnyH_ready (rs := [14]) (by kernel_rfl) (by simp) (AllReadyH.cons (List.getElem?_toArray.trans rfl) (fun Kx hKx => ?_) AllReadyH.nil)
                  · go_simp
                    go_at_call 62
                    refine (Last62_c (w0 := w) (Kd.C_below HCx.out hB1)).mono ?_
                    rintro x v2 ⟨rfl, hb2⟩
                    rw [max_last HRx.out.okM, HLA.out]
                    have hB2 := below_next hB1 hb2
                    go_wp2_with fail
                    refine hKx.out _ _ ?_ (fun hHeld => ?_)
                    · exact HSX.out _ hB2
                    clear hKx Kx
                    (try simp only [Act.put, List.setIfInBounds_toArray, List.set_cons_zero, List.set_cons_succ])
                    refine wpAnyH_take (i := 15) (v := ?_) (List.getElem?_toArray.trans rfl) (by kernel_rfl) (by kernel_rfl) (by kernel_rfl) (fun _ _ _ h => h) (Or.inl ⟨by rfl, ?_⟩) (by assumption) ?_
                    rotate_left
                    · (intro w hSw; (try dsimp only at hSw); obtain ⟨s1, s2⟩ := hSw; go_simp; try with_reducible rfl)
                    (try simp only [Act.put, List.setIfInBounds_toArray, List.set_cons_zero, List.set_cons_succ])
                    refine wpAnyH_take (i := 16) (v := ?_) (List.getElem?_toArray.trans rfl) (by kernel_rfl) (by kernel_rfl) (by kernel_rfl) (fun _ _ _ h => h) (Or.inl ⟨by rfl, ?_⟩) (by assumption) ?_
                    rotate_left
                    · (intro w hSw; (try dsimp only at hSw); obtain ⟨s1, s2⟩ := hSw; go_simp; try with_reducible rfl)
                    (try simp only [Act.put, List.setIfInBounds_toArray, List.set_cons_zero, List.set_cons_succ])
                    refine wpAnyH_take (i := 17) (v := ?_) (List.getElem?_toArray.trans rfl) (by kernel_rfl) (by kernel_rfl) (by kernel_rfl) (fun _ _ _ h => h) (Or.inl ⟨by rfl, ?_⟩) (by assumption) ?_
                    rotate_left
                    · (intro w hSw; (try dsimp only at hSw); obtain ⟨s1, s2⟩ := hSw; go_simp; try with_reducible rfl)
                    (try simp only [Act.put, List.setIfInBounds_toArray, List.set_cons_zero, List.set_cons_succ])
                    refine wpAnyH_take (i := 18) (v := ?_) (List.getElem?_toArray.trans rfl) (by kernel_rfl) (by kernel_rfl) (by kernel_rfl) (fun _ _ _ h => h) (Or.inl ⟨by rfl, ?_⟩) (by assumption) ?_
                    rotate_left
                    · (intro w hSw; (try dsimp only at hSw); obtain ⟨s1, s2⟩ := hSw; go_simp; try with_reducible rfl)
                    (try simp only [Act.put, List.setIfInBounds_toArray, List.set_cons_zero, List.set_cons_succ])
                    refine wpAnyH_take (i := 19) (v := ?_) (List.getElem?_toArray.trans rfl) (by kernel_rfl) (by kernel_rfl) (by kernel_rfl) (fun _ _ _ h => h) (Or.inl ⟨by rfl, ?_⟩) (by assumption) ?_
                    rotate_left
                    · (intro w hSw; (try dsimp only at hSw); obtain ⟨s1, s2⟩ := hSw; go_simp; try with_reducible rfl)
                    (try simp only [Act.put, List.setIfInBounds_toArray, List.set_cons_zero, List.set_cons_succ])
                    refine wpAnyH_take (i := 20) (v := ?_) (List.getElem?_toArray.trans rfl) (by kernel_rfl) (by kernel_rfl) (by kernel_rfl) (fun _ _ _ h => h) (Or.inl ⟨by rfl, ?_⟩) (by assumption) ?_
                    rotate_left
                    · (intro w hSw; (try dsimp only at hSw); obtain ⟨s1, s2⟩ := hSw; go_simp; try with_reducible rfl)
                    (try simp only [Act.put, List.setIfInBounds_toArray, List.set_cons_zero, List.set_cons_succ])
                    refine wpAnyH_take (i := 23) (v := ?_) (List.getElem?_toArray.trans rfl) (by kernel_rfl) (by kernel_rfl) (by kernel_rfl) (fun _ _ _ h => h) (Or.inl ⟨by rfl, ?_⟩) (by assumption) ?_
                    rotate_left
                    · (intro w hSw; (try dsimp only at hSw); obtain ⟨s1, s2⟩ := hSw; go_simp; try with_reducible rfl)
                    (try simp only [Act.put, List.setIfInBounds_toArray, List.set_cons_zero, List.set_cons_succ])
                    refine wpAnyH_take (i := 24) (v := ?_) (List.getElem?_toArray.trans rfl) (by kernel_rfl) (by kernel_rfl) (by kernel_rfl) (fun _ _ _ h => h) (Or.inl ⟨by rfl, ?_⟩) (by assumption) ?_
                    rotate_left
                    · (intro w hSw; (try dsimp only at hSw); obtain ⟨s1, s2⟩ := hSw; go_simp; try with_reducible rfl)
                    (try simp only [Act.put, List.setIfInBounds_toArray, List.set_cons_zero, List.set_cons_succ])
                    refine wpAnyH_take (i := 25) (v := ?_) (List.getElem?_toArray.trans rfl) (by kernel_rfl) (by kernel_rfl) (by kernel_rfl) (fun _ _ _ h => h) (Or.inl ⟨by rfl, ?_⟩) (by assumption) ?_
                    rotate_left
                    · (intro w hSw; (try dsimp only at hSw); obtain ⟨s1, s2⟩ := hSw; go_simp; try with_reducible rfl)
                    (try simp only [Act.put, List.setIfInBounds_toArray, List.set_cons_zero, List.set_cons_succ])
                    refine wpAnyH_ready (rs := [21]) (by kernel_rfl) (by simp) (AllReadyH.cons (List.getElem?_toArray.trans rfl) (fun Kx hKx => ?_) AllReadyH.nil)
                    · go_simp
                      go_at_call 63
                      refine (Master63_any (HRx.out.rg.move hB2) HRx.out.okM he0 he1).mono ?_
                      rintro x v3 ⟨A5, c5, rfl, r63, hb3⟩
                      rw [HXX.out, HNX.out] at r63 ⊢
                      have s63 := rd_string r63
                      have hB3 := below_next hB2 hb3
                      go_wp2_with fail
                      refine hKx.out _ _ ?_ (fun hHeld => ?_)
                      · exact HSX.out _ hB3
                      clear hKx Kx
                      (try simp only [Act.put, List.setIfInBounds_toArray, List.set_cons_zero, List.set_cons_succ])
                      refine wpAnyH_ready (rs := [22, 26]) (by kernel_rfl) (by simp) (AllReadyH.cons (List.getElem?_toArray.trans rfl) (fun Kx hKx => ?_) (AllReadyH.cons (List.getElem?_toArray.trans rfl) (fun Kx hKx => ?_) AllReadyH.nil))
                      · go_simp
                        refine hKx.out _ _ ?_ (fun hHeld => ?_)
                        · exact HSX.out _ hB3
                        clear hKx Kx
                        (try simp only [Act.put, List.setIfInBounds_toArray, List.set_cons_zero, List.set_cons_succ])
                        refine wpAnyH_ready (rs := [26]) (by kernel_rfl) (by simp) (AllReadyH.cons (List.getElem?_toArray.trans rfl) (fun Kx hKx => ?_) AllReadyH.nil)
                        · go_simp
                          go_at_call 64
                          refine (Master64_any (w0 := w) (Kd.C_below HCx.out hB3) HRx.out.okM (below_next HRx.out.bel hB3)).mono ?_
                          rintro x v4 ⟨A6, c6, rfl, r64, hb4⟩
                          rw [HXX.out, HNX.out] at r64 ⊢
                          have s64 := rd_string r64
                          have r63 := r63.below hb4
                          have s63 := rd_string r63
                          have hB4 := below_next hB3 hb4
                          go_wp2_with fail
                          refine hKx.out _ _ ?_ (fun hHeld => ?_)
                          · exact HSX.out _ hB4
                          clear hKx Kx
                          (try simp only [Act.put, List.setIfInBounds_toArray, List.set_cons_zero, List.set_cons_succ])
                          refine wpAnyH_ready (rs := [27]) (by kernel_rfl) (by simp) (AllReadyH.cons (List.getElem?_toArray.trans rfl) (fun Kx hKx => ?_) AllReadyH.nil)
                          · go_simp
                            refine hKx.out _ _ ?_ (fun hHeld => ?_)
                            · exact HSX.out _ hB4
                            clear hKx Kx
                            (try simp only [Act.put, List.setIfInBounds_toArray, List.set_cons_zero, List.set_cons_succ])
                            refine wpAnyH_take (i := 28) (v := ?_) (List.getElem?_toArray.trans rfl) (by kernel_rfl) (by kernel_rfl) (by kernel_rfl) (fun _ _ _ h => h) (Or.inl ⟨by rfl, ?_⟩) (by assumption) ?_
                            rotate_left
                            · (intro w hSw; (try dsimp only at hSw); obtain ⟨s1, s2⟩ := hSw; go_simp; try with_reducible rfl)
                            (try simp only [Act.put, List.setIfInBounds_toArray, List.set_cons_zero, List.set_cons_succ])
                            refine wpAnyH_take (i := 29) (v := ?_) (List.getElem?_toArray.trans rfl) (by kernel_rfl) (by kernel_rfl) (by kernel_rfl) (fun _ _ _ h => h) (Or.inl ⟨by rfl, ?_⟩) (by assumption) ?_
                            rotate_left
                            · (intro w hSw; (try dsimp only at hSw); obtain ⟨s1, s2⟩ := hSw; go_simp; try with_reducible rfl)
                            (try simp only [Act.put, List.setIfInBounds_toArray, List.set_cons_zero, List.set_cons_succ])
                            refine wpAnyH_done (by kernel_rfl) ?_ _
                            go_wp2_with fail
                            go_meet
                            exact ⟨rfl, hB4⟩
                      · go_simp
                        go_at_call 64
                        refine (Master64_any (w0 := w) (Kd.C_below HCx.out hB3) HRx.out.okM (below_next HRx.out.bel hB3)).mono ?_
                        rintro x v4 ⟨A6, c6, rfl, r64, hb4⟩
                        rw [HXX.out, HNX.out] at r64 ⊢
                        have s64 := rd_string r64
                        have r63 := r63.below hb4
                        have s63 := rd_string r63
                        have hB4 := below_next hB3 hb4
                        go_wp2_with fail
                        refine hKx.out _ _ ?_ (fun hHeld => ?_)
                        · exact HSX.out _ hB4
                        clear hKx Kx
                        (try simp only [Act.put, List.setIfInBounds_toArray, List.set_cons_zero, List.set_cons_succ])
                        refine wpAnyH_ready (rs := [22, 27]) (by kernel_rfl) (by simp) (AllReadyH.cons (List.getElem?_toArray.trans rfl) (fun Kx hKx => ?_) (AllReadyH.cons (List.getElem?_toArray.trans rfl) (fun Kx hKx => ?_) AllReadyH.nil))
                        · go_simp
                          refine hKx.out _ _ ?_ (fun hHeld => ?_)
                          · exact HSX.out _ hB4
                          clear hKx Kx
                          (try simp only [Act.put, List.setIfInBounds_toArray, List.set_cons_zero, List.set_cons_succ])
                          refine wpAnyH_ready (rs := [27]) (by kernel_rfl) (by simp) (AllReadyH.cons (List.getElem?_toArray.trans rfl) (fun Kx hKx => ?_) AllReadyH.nil)
                          · go_simp
                            refine hKx.out _ _ ?_ (fun hHeld => ?_)
                            · exact HSX.out _ hB4
                            clear hKx Kx
                            (try simp only [Act.put, List.setIfInBounds_toArray, List.set_cons_zero, List.set_cons_succ])
                            refine wpAnyH_take (i := 28) (v := ?_) (List.getElem?_toArray.trans rfl) (by kernel_rfl) (by kernel_rfl) (by kernel_rfl) (fun _ _ _ h => h) (Or.inl ⟨by rfl, ?_⟩) (by assumption) ?_
                            rotate_left
                            · (intro w hSw; (try dsimp only at hSw); obtain ⟨s1, s2⟩ := hSw; go_simp; try with_reducible rfl)
                            (try simp only [Act.put, List.setIfInBounds_toArray, List.set_cons_zero, List.set_cons_succ])
                            refine wpAnyH_take (i := 29) (v := ?_) (List.getElem?_toArray.trans rfl) (by kernel_rfl) (by kernel_rfl) (by kernel_rfl) (fun _ _ _ h => h) (Or.inl ⟨by rfl, ?_⟩) (by assumption) ?_
                            rotate_left
                            · (intro w hSw; (try dsimp only at hSw); obtain ⟨s1, s2⟩ := hSw; go_simp; try with_reducible rfl)
                            (try simp only [Act.put, List.setIfInBounds_toArray, List.set_cons_zero, List.set_cons_succ])
                            refine wpAnyH_done (by kernel_rfl) ?_ _
                            go_wp2_with fail
                            go_meet
                            exact ⟨rfl, hB4⟩
                        · go_simp
                          refine hKx.out _ _ ?_ (fun hHeld => ?_)
                          · exact HSX.out _ hB4
                          clear hKx Kx
                          (try simp only [Act.put, List.setIfInBounds_toArray, List.set_cons_zero, List.set_cons_succ])
                          refine wpAnyH_ready (rs := [22]) (by kernel_rfl) (by simp) (AllReadyH.cons (List.getElem?_toArray.trans rfl) (fun Kx hKx => ?_) AllReadyH.nil)
                          · go_simp
                            refine hKx.out _ _ ?_ (fun hHeld => ?_)
                            · exact HSX.out _ hB4
                            clear hKx Kx
                            (try simp only [Act.put, List.setIfInBounds_toArray, List.set_cons_zero, List.set_cons_succ])
                            refine wpAnyH_take (i := 28) (v := ?_) (List.getElem?_toArray.trans rfl) (by kernel_rfl) (by kernel_rfl) (by kernel_rfl) (fun _ _ _ h => h) (Or.inl ⟨by rfl, ?_⟩) (by assumption) ?_
                            rotate_left
                            · (intro w hSw; (try dsimp only at hSw); obtain ⟨s1, s2⟩ := hSw; go_simp; try with_reducible rfl)
                            (try simp only [Act.put, List.setIfInBounds_toArray, List.set_cons_zero, List.set_cons_succ])
                            refine wpAnyH_take (i := 29) (v := ?_) (List.getElem?_toArray.trans rfl) (by kernel_rfl) (by kernel_rfl) (by kernel_rfl) (fun _ _ _ h => h) (Or.inl ⟨by rfl, ?_⟩) (by assumption) ?_
                            rotate_left
                            · (intro w hSw; (try dsimp only at hSw); obtain ⟨s1, s2⟩ := hSw; go_simp; try with_reducible rfl)
                            (try simp only [Act.put, List.setIfInBounds_toArray, List.set_cons_zero, List.set_cons_succ])
                            refine wpAnyH_done (by kernel_rfl) ?_ _
                            go_wp2_with fail
                            go_meet
                            exact ⟨rfl, hB4⟩
              case' rest => obtain ⟨rfl, hby⟩ := hcut
              have HRy := Aside0.mk (HRx.out.below hby)
              have HC1y := Aside0.mk (Kd.C_below HC1.out hby)
              have HC2y := Aside0.mk (Kd.C_below HC2.out hby)
              clear HSX hD0 HCx HRx HXx HC1 HC2 hby
              go_wp2_with fail
              obtain ⟨wy, hwy⟩ : ∃ z : World, z = wc := ⟨_, rfl⟩
              rw [← hwy] at HRy HC1y HC2y
              have hbz0 : Below wy.heap.size wy wc := by rw [hwy]; exact Below.refl _ _
              clear hwy
              go_loopw [140] (fun i wq => ∃ T : Nat, T ≤ N ∧ i = .int .i64 T ∧ Below wy.heap.size wy wq) (fun i _ => N - (intOf i).toNat)
              case atStart => exact ⟨0, by omega, rfl, hbz0⟩
              case round =>
                clear hbz0
                obtain ⟨T, hT, rfl, hbz⟩ := hrel
                by_cases hlt5 : T < N
                · have hlt5' : (T : Int) < (N : Int) := by omega
                  obtain ⟨ad1, rfl, k1⟩ := int_at (Kd.C_below HC1y.out hbz) T hlt5
                  obtain ⟨ad2, rfl, k2⟩ := int_at (Kd.C_below HC2y.out hbz) T hlt5
                  generalize L.getD T 0 = y at k1 k2
                  go_wp2_with fail
                  refine wp_region_held_drew (S := (fun w' => w'.cell? (ad1.add T) = some (.int .i64 y) ∧ w'.cell? (ad2.add T) = some (.int .i64 y))) (by kernel_rfl) ?_ (fun hHeld => ?_)
                  · exact ⟨k1, k2⟩
                  refine wpAnyH_take (i := 0) (v := ?_) (List.getElem?_toArray.trans rfl) (by kernel_rfl) (by kernel_rfl) (by kernel_rfl) (fun _ _ _ h => h) (Or.inl ⟨by rfl, ?_⟩) (by assumption) ?_
                  rotate_left
                  · (intro w hSw; (try dsimp only at hSw); obtain ⟨s1, s2⟩ := hSw; go_simp; try with_reducible rfl)
                  (try simp only [Act.put, List.setIfInBounds_toArray, List.set_cons_zero, List.set_cons_succ])
                  refine wpAnyH_take (i := 1) (v := ?_) (List.getElem?_toArray.trans rfl) (by kernel_rfl) (by kernel_rfl) (by kernel_rfl) (fun _ _ _ h => h) (Or.inl ⟨by rfl, ?_⟩) (by assumption) ?_
                  rotate_left
                  · (intro w hSw; (try dsimp only at hSw); obtain ⟨s1, s2⟩ := hSw; go_simp; try with_reducible rfl)
                  (try simp only [Act.put, List.setIfInBounds_toArray, List.set_cons_zero, List.set_cons_succ])
                  refine wpAnyH_take (i := 2) (v := ?_) (List.getElem?_toArray.trans rfl) (by kernel_rfl) (by kernel_rfl) (by kernel_rfl) (fun _ _ _ h => h) (Or.inl ⟨by rfl, ?_⟩) (by assumption) ?_
                  rotate_left
                  · (intro w hSw; (try dsimp only at hSw); obtain ⟨s1, s2⟩ := hSw; go_simp; try with_reducible rfl)
                  (try simp only [Act.put, List.setIfInBounds_toArray, List.set_cons_zero, List.set_cons_succ])
                  refine wpAnyH_take (i := 3) (v := ?_) (List.getElem?_toArray.trans rfl) (by kernel_rfl) (by kernel_rfl) (by kernel_rfl) (fun _ _ _ h => h) (Or.inl ⟨by rfl, ?_⟩) (by assumption) ?_
                  rotate_left
                  · (intro w hSw; (try dsimp only at hSw); obtain ⟨s1, s2⟩ := hSw; go_simp; try with_reducible rfl)
                  (try simp only [Act.put, List.setIfInBounds_toArray, List.set_cons_zero, List.set_cons_succ])
                  refine wpAnyH_take (i := 4) (v := ?_) (List.getElem?_toArray.trans rfl) (by kernel_rfl) (by kernel_rfl) (by kernel_rfl) (fun _ _ _ h => h) (Or.inl ⟨by rfl, ?_⟩) (by assumption) ?_
                  rotate_left
                  · (intro w hSw; (try dsimp only at hSw); obtain ⟨s1, s2⟩ := hSw; go_simp; try with_reducible rfl)
                  (try simp only [Act.put, List.setIfInBounds_toArray, List.set_cons_zero, List.set_cons_succ])
                  refine wpAnyH_take (i := 5) (v := ?_) (List.getElem?_toArray.trans rfl) (by kernel_rfl) (by kernel_rfl) (by kernel_rfl) (fun _ _ _ h => h) (Or.inl ⟨by rfl, ?_⟩) (by assumption) ?_
                  rotate_left
                  · (intro w hSw; (try dsimp only at hSw); obtain ⟨s1, s2⟩ := hSw; go_simp; try with_reducible rfl)
                  (try simp only [Act.put, List.setIfInBounds_toArray, List.set_cons_zero, List.set_cons_succ])
                  refine wpAnyH_take (i := 6) (v := ?_) (List.getElem?_toArray.trans rfl) (by kernel_rfl) (by kernel_rfl) (by kernel_rfl) (fun _ _ _ h => h) (Or.inl ⟨by rfl, ?_⟩) (by assumption) ?_
                  rotate_left
                  · (intro w hSw; (try dsimp only at hSw); obtain ⟨s1, s2⟩ := hSw; go_simp; try with_reducible rfl)
                  (try simp only [Act.put, List.setIfInBounds_toArray, List.set_cons_zero, List.set_cons_succ])
                  refine wpAnyH_take (i := 7) (v := ?_) (List.getElem?_toArray.trans rfl) (by kernel_rfl) (by kernel_rfl) (by kernel_rfl) (fun _ _ _ h => h) (Or.inl ⟨by rfl, ?_⟩) (by assumption) ?_
                  rotate_left
                  · (intro w hSw; (try dsimp only at hSw); obtain ⟨s1, s2⟩ := hSw; go_simp; try with_reducible rfl)
                  (try simp only [Act.put, List.setIfInBounds_toArray, List.set_cons_zero, List.set_cons_succ])
                  refine wpAnyH_take (i := 8) (v := ?_) (List.getElem?_toArray.trans rfl) (by kernel_rfl) (by kernel_rfl) (by kernel_rfl) (fun _ _ _ h => h) (Or.inl ⟨by rfl, ?_⟩) (by assumption) ?_
                  rotate_left
                  · (intro w hSw; (try dsimp only at hSw); obtain ⟨s1, s2⟩ := hSw; go_simp; try with_reducible rfl)
                  (try simp only [Act.put, List.setIfInBounds_toArray, List.set_cons_zero, List.set_cons_succ])
                  refine wpAnyH_done (by kernel_rfl) ?_ _
                  have hbz2 : Below wy.heap.size wy wr.drew := hbz.drew
                  go_wp2_with fail
                  go_roundw
                  case rel => exact ⟨T + 1, by omega, by go_num, hbz2⟩
                  case measure => simp [intOf]; omega
                · have hge5 : ¬ (T : Int) < (N : Int) := by omega
                  obtain rfl : T = N := by omega
                  go_wp2_with fail
                  go_roundw
                  case rel => exact ⟨j + 1, nq', cq', Aq', M', by omega, by go_num, hnq', ⟨HRy.out.below hbz⟩⟩
                  case measure => simp [intOf]; omega
      · have hge : ¬ (j : Int) < (n : Int) := by omega
        have ht2 := HT.out.below hRn.out.bel
        go_wp2_with fail
        refine (awake51_c ht2).mono ?_
        rintro x w9 ⟨rfl, hb9⟩
        go_wp2_with fail
        go_ret
        exact ⟨rfl, below_next hRn.out.bel hb9⟩
  · have b40 : (40 : Int) < (n : Int) := by omega
    clear hd hmax
    go_enter Tryd.func21, Tryd.ntmps21
    go_wp2_with fail
    refine (awake51_c ht).mono ?_
    rintro x w9 ⟨rfl, hb9⟩
    go_wp2_with fail
    go_ret
    exact ⟨rfl, hb9⟩
end Go.Proofs.YtmmbonlidcbkcaaDoor.WalkLabelRings
