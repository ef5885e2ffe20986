/- Parts that a call gathers: slices of bytes of its own, in a row of its own. -/
import Derived.Test.YtmmbonlidcbkcaaDoorDgLaw
namespace Go.Proofs.YtmmbonlidcbkcaaDoor.DgParts
open Go.RowKit Go.Proofs.YtmmbonlidcbkcaaDoorW.PrintWords Go.Proofs.YtmmbonlidcbkcaaDoor.Num Go.Proofs.YtmmbonlidcbkcaaDoor.Sha Go.Proofs.YtmmbonlidcbkcaaDoor.WordC Go.Proofs.YtmmbonlidcbkcaaDoor.Arr Go.Proofs.YtmmbonlidcbkcaaDoor.App Go.Proofs.YtmmbonlidcbkcaaDoor.DgC Go.Proofs.YtmmbonlidcbkcaaDoor.DgBlock Go.Proofs.YtmmbonlidcbkcaaDoor.DgState Go.Proofs.YtmmbonlidcbkcaaDoor.DgAdd Go.Proofs.YtmmbonlidcbkcaaDoor.DgSum Go.Proofs.YtmmbonlidcbkcaaDoor.DgOf Go.Proofs.YtmmbonlidcbkcaaDoor.DgLaw
set_option linter.unusedVariables false
set_option linter.unusedSimpArgs false

/-- Slices of bytes of one's own, none of which is v3's. -/
abbrev Ps (w : World) (base : Nat) (v3 v4 : Value) (ll : List (List Int)) : Prop := Kd.R (Kd.slice 5 (Kd.int .u8)) 22 w base (fun k => some k ≠ v3.ownBlock) v4 ll
theorem ps_after {W w1 : World} {base : Nat} {v v1 u : Value} {ll : List (List Int)} (h : Ps W base v u ll) (hg : W.grownBy w1 v.ownBlock) (hat : v1.ownBlock = v.ownBlock ∨ ∃ b, v1.ownBlock = some b ∧ W.heap.size ≤ b) : Ps w1 base v1 u ll := by
  refine Kd.R_mono (Kd.R_grown (Kd.R_bound h) hg (fun k hk => hk.1)) (fun k hk => ?_)
  obtain ⟨hk1, _, hk3, _⟩ := hk
  rcases hat with e | ⟨b, e, hb⟩
  · rw [e]; exact hk1
  · rw [e]; intro x; injection x with x; omega
theorem ps_pt {W : World} {base : Nat} {v3 v4 : Value} {ll : List (List Int)} (h : Ps W base v3 v4 ll) : ∃ A c, v4 = .slice A ll.length c ∧ Pt W A ll.length c ll := by
  obtain ⟨A, c, e, hl, hC⟩ := Kd.R_reads h
  exact ⟨A, c, e, hl, hC⟩
theorem info22 : (Tryd.prog.info? 22).map (fun i => (i.zero, i.size, i.bytes)) = some (some (.slice none 0 0), 1, 24) := by kernel_rfl
theorem ow_types {W w1 : World} {b base : Nat} {u v4 : Value} {xs : List Int} {ok : Nat → Prop} {ll : List (List Int)} (h : Ow W b u xs) (h4 : Kd.R (Kd.slice 5 (Kd.int .u8)) 22 W base ok v4 ll) (hg : W.grownBy w1 v4.ownBlock) : Ow w1 b u xs :=
  Kd.R_over' h (Kd.R_typed h4) (by intro q hq; simp [Kd.int, Kd.scalar] at hq; omega) hg
theorem append_part {ops : Array Oper} {rest : List Oper} {o : Oper} {a : Act} {Q : Exit → Act → World → Prop} {w0 W : World} (base B : Nat) (hgd : o.guard = none) (s x : Operand)
    (ho : o.op = .call { callee := .builtin .append, args := #[s, x], argTypes := #[30, 30] })
    (v3 v4 v : Value) (ll : List (List Int)) (p : List Int) (hs : a.eval s = v4) (hx : a.eval x = .slice (some ⟨W.heap.size, 0, none⟩) 1 1)
    (HP : Ps W base v3 v4 ll) (HV : Ow W B v p) (hv3 : ∀ k, v3.ownBlock = some k → k < B) (hB : B ≤ W.heap.size) (hbB : base ≤ B) (HB : Below base w0 W) (hl : ll.length + 1 ≤ 1000000)
    (h : ∀ v1 w1, Ps w1 base v3 v1 (ll ++ [p]) → Below base w0 w1 → W.grownBy w1 v4.ownBlock → wpList Tryd.prog ops Q rest (a.put o.dst v1) w1) :
    wpList Tryd.prog ops Q (o :: rest) a (W.alloc (.cells #[v] 22)) := by
  have hb := Kd.R_bound HV
  refine Kd.R_append (Kd.slice 5 (Kd.int .u8)) (w0 := w0) base hgd s x 30 22 (.slice none 0 0) 24 ho Tryd.underlying30 info22 rfl (by decide) (by omega) v4 ll p [v] (fun k => some k ≠ v3.ownBlock)
    (fun k => B ≤ k ∧ ∃ cells, W.heap[k]? = some (.cells cells 5 (0, 0))) hs hx ⟨v, rfl, Kd.R_mono (Kd.R_lower hb hbB) (fun k hk => ⟨hk.2.1, by
      obtain ⟨_, _, _, q, hq, cells, hc⟩ := hk
      simp [Kd.int, Kd.scalar] at hq
      subst hq
      exact ⟨cells, hc⟩⟩)⟩ (fun k hk => ⟨fun e => by have := hv3 k e.symm; have := hk.1; omega, fun e => by
      obtain ⟨_, cells, hc⟩ := hk
      obtain ⟨cells', hc'⟩ := Kd.R_typed HP k e.symm
      rw [hc] at hc'
      injection hc' with hc'; injection hc' with _ hc'
      exact absurd hc' (by decide)⟩) (fun k hk e => by have := hv3 k e.symm; omega) HP HB (Nat.le_trans hbB hB) (by omega) ?_
  intro v1 w1 h1 h2 h3 _
  exact h v1 w1 h1 h2 h3
/-- May parts be gone through here? -/
def fewB (ll : List (List Int)) : Bool := decide (ll.length ≤ 20) && ll.all fun l => decide (l.length ≤ 400)
theorem fewB_iff {ll : List (List Int)} : fewB ll = true ↔ ll.length ≤ 20 ∧ ∀ l ∈ ll, l.length ≤ 400 := by simp [fewB]
set_option maxHeartbeats 2000000 in
set_option maxRecDepth 100000 in
theorem few_c {A : Option Addr} {n c : Nat} {ll : List (List Int)} {w : World} (hP : Pt w A n c ll) :
    Calls Tryd.prog 28 #[.slice A n c] w fun e w' => e = .returned (.bool (fewB ll)) ∧ w = w' := by
  have hn := hP.len
  have hm : n ≤ 9223372036854775807 := Kd.C_max hP.rows
  have HN := Aside0.mk hn
  have HP := Aside0.mk hP
  clear hn hP
  go_enter Tryd.func28, Tryd.ntmps28
  go_wp2
  go_loop [3] (fun i => ∃ j : Nat, j ≤ n ∧ j ≤ 21 ∧ i = .int .i64 j ∧ Aside0 (∀ q, q < j → (ll.getD q []).length ≤ 400)) (fun i => 22 - (intOf i).toNat)
  case atStart => exact ⟨0, by omega, by omega, rfl, ⟨fun q hq => by omega⟩⟩
  case round =>
    obtain ⟨j, hj, hj21, rfl, hall⟩ := hrel
    by_cases hlt : j < n
    · have hlt' : (j : Int) < (n : Int) := by omega
      by_cases h20 : j ≤ 20
      · have h20' : (j : Int) ≤ 20 := by omega
        obtain ⟨ad, Ai, ci, rfl, hcell, _⟩ := HP.out.at_ j hlt
        obtain ⟨q, HQ⟩ : ∃ q, Aside0 ((ll.getD j []).length = q) := ⟨_, ⟨rfl⟩⟩
        rw [HQ.out] at hcell
        by_cases h400 : q ≤ 400
        · have h400' : ¬ (400 : Int) < (q : Int) := by omega
          go_wp2
          go_round
          case rel => exact ⟨j + 1, by omega, by omega, by go_num, ⟨fun p hp => by
            rcases Nat.lt_or_ge p j with h | h
            · exact hall.out p h
            · obtain rfl : p = j := by omega
              rw [HQ.out]; exact h400⟩⟩
          case measure => simp [intOf]; omega
        · have h400' : (400 : Int) < (q : Int) := by omega
          have hno : fewB ll = false := by
            rw [Bool.eq_false_iff]; intro hf
            have := (fewB_iff.1 hf).2 (ll.getD j []) (by rw [List.getD_eq_getElem?_getD, List.getElem?_eq_getElem (by have := HN.out; omega)]; exact List.getElem_mem _)
            have := HQ.out
            omega
          have HNO := Aside0.mk hno
          clear hno
          go_wp2
          go_ret
          exact ⟨by rw [HNO.out]; rfl, rfl⟩
      · have h20' : ¬ (j : Int) ≤ 20 := by omega
        have hb : ¬ (n : Int) ≤ 20 := by omega
        have hno : fewB ll = false := by
          rw [Bool.eq_false_iff]; intro hf
          have := (fewB_iff.1 hf).1
          have := HN.out
          omega
        have HNO := Aside0.mk hno
        clear hno
        go_wp2
        go_ret
        exact ⟨by rw [HNO.out]; rfl, rfl⟩
    · have hge : ¬ (j : Int) < (n : Int) := by omega
      have hyes : fewB ll = decide ((n : Int) ≤ 20) := by
        rw [Bool.eq_iff_iff, fewB_iff, decide_eq_true_iff, HN.out]
        constructor
        · intro h; omega
        · intro h
          refine ⟨by omega, fun l hl => ?_⟩
          obtain ⟨q, hq, rfl⟩ := List.mem_iff_getElem.1 hl
          have := hall.out q (by have := HN.out; omega)
          rw [List.getD_eq_getElem?_getD, List.getElem?_eq_getElem hq] at this
          exact this
      have HYES := Aside0.mk hyes
      clear hyes
      go_wp2
      go_ret
      exact ⟨by rw [HYES.out]; rfl, rfl⟩
end Go.Proofs.YtmmbonlidcbkcaaDoor.DgParts
