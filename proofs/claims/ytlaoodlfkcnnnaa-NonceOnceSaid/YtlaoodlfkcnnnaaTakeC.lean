/- The contract of (Counter).Take: so many nonces, one behind the other. -/
import Derived.Test.YtlaoodlfkcnnnaaNonceC
import Derived.Deep.LoopGhost
import Derived.Maps.AppendAt
namespace Go.Proofs.Ytlaoodlfkcnnnaa.TakeC
open Go.RowKit Go.Proofs.YtlaoodlfkcnnnaaW.PrintWords Go.Proofs.Ytlaoodlfkcnnnaa.Num Go.Proofs.Ytlaoodlfkcnnnaa.WordC Go.Proofs.Ytlaoodlfkcnnnaa.FillC Go.Proofs.Ytlaoodlfkcnnnaa.Arr Go.Proofs.Ytlaoodlfkcnnnaa.NonceC
set_option linter.unusedVariables false

theorem info22 : (Try.prog.info? 22).map (fun i => (i.zero, i.size, i.bytes)) = some (some (.slice none 0 0), 1, 24) := by kernel_rfl
theorem Bytes_c {e n : Int} {w : World} (hr : rightN e n = true) :
    Calls Try.prog 42 #[.agg #[.int .i64 e, .int .i64 n]] w fun x w' => ∃ g, x = .returned (.slice (some ⟨g, 0, none⟩) 12 12) ∧ w.heap.size ≤ g ∧ Blk w' g 68 (nums .u8 (nonceW e n)) ∧ Below w.heap.size w w' := by
  obtain ⟨h1, h2, h3, h4⟩ := rightN_iff.1 hr
  go_enter Try.func42, Try.ntmps42
  go_wp2_with fail
  refine (Of_yes h1 h2 h3 h4 hr).mono ?_
  rintro x w1 ⟨g, rfl, hg, hG, hb1⟩
  have hz : w.heap.size + 1 ≤ g := by simpa using hg
  have HG := Aside0.mk hG
  clear hG hg
  go_wp2_with fail
  go_ret
  exact ⟨g, rfl, by omega, HG.out, ((Below.refl _ w).alloc (Nat.le_refl _) _).trans (hb1.mono (by simp))⟩
/-- Slices of nonces that a call made. -/
def Nn (w : World) (base : Nat) (v : Value) (xs : List (List Int)) : Prop :=
  ∃ cells : List Value, w.ownsRow base 22 1 v xs.length cells ∧ ∀ (i : Nat) (x : List Int), xs[i]? = some x → ∃ g, cells[i]? = some (.slice (some ⟨g, 0, none⟩) 12 12) ∧ base ≤ g ∧ Blk w g 68 (nums .u8 x)
theorem Nn.nil (w : World) (base : Nat) : Nn w base (.slice none 0 0) [] := ⟨[], World.ownsRow_nil _ _ _ _, fun i x h => by simp at h⟩
theorem Nn.below {w w1 : World} {base : Nat} {v : Value} {xs : List (List Int)} (h : Nn w base v xs) (hb : Below w.heap.size w w1) : Nn w1 base v xs := by
  obtain ⟨cells, ho, hx⟩ := h
  refine ⟨cells, pw_own_below ho hb, fun i x hi => ?_⟩
  obtain ⟨g, h1, h2, h3⟩ := hx i x hi
  exact ⟨g, h1, h2, Blk.below h3 hb⟩
theorem Nn.setCell {w : World} {base : Nat} {v : Value} {xs : List (List Int)} (h : Nn w base v xs) {p : Addr} (hp : p.block < base) (u : Value) : Nn (w.setCell p u) base v xs := by
  obtain ⟨cells, ho, hx⟩ := h
  refine ⟨cells, ownsRow_setCell_below ho hp u, fun i x hi => ?_⟩
  obtain ⟨g, h1, h2, h3⟩ := hx i x hi
  exact ⟨g, h1, h2, Blk.far h3 (by omega) u⟩
theorem Nn.lower {w : World} {base base' : Nat} {v : Value} {xs : List (List Int)} (h : Nn w base v xs) (hb : base' ≤ base) : Nn w base' v xs := by
  obtain ⟨cells, ho, hx⟩ := h
  refine ⟨cells, ?_, fun i x hi => ?_⟩
  · rcases ho.2 with h | ⟨g, cap, cur, e, hg, r⟩
    · exact ⟨ho.1, .inl h⟩
    · exact ⟨ho.1, .inr ⟨g, cap, cur, e, by omega, r⟩⟩
  · obtain ⟨g, h1, h2, h3⟩ := hx i x hi
    exact ⟨g, h1, by omega, h3⟩
theorem Nn.snoc {w w1 : World} {base g n : Nat} {v v' : Value} {xs : List (List Int)} {x : List Int} {cells : List Value} (hn : xs.length = n) (hx : ∀ (i : Nat) (x : List Int), xs[i]? = some x → ∃ g, cells[i]? = some (.slice (some ⟨g, 0, none⟩) 12 12) ∧ base ≤ g ∧ Blk w g 68 (nums .u8 x))
    (ho : w.ownsRow base 22 1 v n cells) (ho' : w1.ownsRow base 22 1 v' (n + 1) (cells ++ [.slice (some ⟨g, 0, none⟩) 12 12])) (hg : w.grownBy w1 v.ownBlock) (hgb : base ≤ g) (hG : Blk w g 68 (nums .u8 x)) : Nn w1 base v' (xs ++ [x]) := by
  subst hn
  have hne : ∀ {k : Nat} {cs : List Value}, Blk w k 68 cs → some k ≠ v.ownBlock := fun hk => own_ne ho hk (by decide)
  have hcl : cells.length = xs.length := by simpa using ho.1
  refine ⟨_, by simpa using ho', fun i y hi => ?_⟩
  rw [List.getElem?_append] at hi
  by_cases hlt : i < xs.length
  · rw [if_pos hlt] at hi
    obtain ⟨k, h1, h2, h3⟩ := hx i y hi
    exact ⟨k, by rw [List.getElem?_append_left (by omega)]; exact h1, h2, (hg.block k (Blk.lt h3) (hne h3)).trans h3⟩
  · rw [if_neg hlt] at hi
    have hi0 : i = xs.length := by
      have := (List.getElem?_eq_some_iff.1 hi).1
      simp at this; omega
    subst hi0
    simp at hi
    subst hi
    exact ⟨g, by rw [List.getElem?_append_right (by omega), hcl]; simp, hgb, (hg.block g (Blk.lt hG) (hne hG)).trans hG⟩
def takeW (e l : Int) (m : Nat) : List (List Int) := (List.range m).map fun i => nonceW e (l + 1 + (i : Nat))
theorem takeW_succ (e l : Int) (m : Nat) : takeW e l (m + 1) = takeW e l m ++ [nonceW e (l + 1 + (m : Nat))] := by simp [takeW, List.range_succ]
theorem takeW_length (e l : Int) (m : Nat) : (takeW e l m).length = m := by simp [takeW]

set_option maxHeartbeats 4000000 in
set_option maxRecDepth 100000 in
theorem Take_yes_nat {E L : Int} {w : World} (m : Nat) (he : 0 ≤ E) (he' : E ≤ 64) (hl : 0 ≤ L) (hm : m ≤ 4096) (hlm : L + m ≤ 1099511627776) :
    Calls Try.prog 28 #[.agg #[.int .i64 E, .int .i64 L], .int .i64 (m : Int)] w fun x w' => ∃ v, x = .returned (.tuple #[v, .agg #[.int .i64 E, .int .i64 (L + m)], .int .i64 0]) ∧ Nn w' w.heap.size v (takeW E L m) ∧ Below w.heap.size w w' := by
  obtain ⟨i0, hi, hz0, hz1, hz2⟩ := info_parts info22
  have hr : rightN E L = true := rightN_iff.2 ⟨he, he', hl, by omega⟩
  have hm1 : (m : Int) ≤ 4096 := by omega
  go_enter Try.func28, Try.ntmps28
  go_wp2_with fail
  refine (Right_c E L).mono ?_
  rintro x w1 ⟨rfl, hb1⟩
  have hs := hb1.size
  simp only [World.size_alloc] at hs
  have hX : Blk w1 w.heap.size 42 [.int .i64 E, .int .i64 L] := (hb1.block _ (by simp; omega)).trans (by rw [heap_alloc2_old]; try rfl)
  have hY : Blk w1 (w.heap.size + 1) 42 [.int .i64 0, .int .i64 0] := (hb1.block _ (by simp)).trans (by rw [heap_alloc2_new]; try rfl)
  have hB1 : Below w.heap.size w w1 := (((Below.refl _ w).alloc (Nat.le_refl _) _).alloc (by simp) _).trans (hb1.mono (by simp; omega))
  clear hb1
  generalize hBB : w.heap.size = B at *
  have c0 : w1.cell? ⟨B, 0, none⟩ = some (.int .i64 E) := by rw [Blk.cell hX]; rfl
  have c1 : w1.cell? ⟨B, 1, none⟩ = some (.int .i64 L) := by rw [Blk.cell hX]; rfl
  have HX := Aside0.mk hX
  have HY := Aside0.mk hY
  have HBB := Aside0.mk hBB
  clear hX hY hBB
  have t1 : ¬ (m : Int) < 0 := by omega
  have t2 : ¬ (4096 : Int) < (m : Int) := by omega
  have t3 : ¬ 1099511627776 - L < (m : Int) := by omega
  go_wp2_with fail
  clear c0 c1 t1 t2 t3
  go_loopw [7, 27] (fun v i wr => ∃ (k : Nat), k ≤ m ∧ i = .int .i64 k ∧ Aside0 (Blk wr B 42 [.int .i64 E, .int .i64 (L + k)]) ∧ Aside0 (Blk wr (B + 1) 42 [.int .i64 0, .int .i64 0]) ∧ Nn wr (B + 2) v (takeW E L k) ∧ Below B w wr) (fun _ i _ => m - (intOf i).toNat)
  case atStart => exact ⟨0, Nat.zero_le _, rfl, ⟨by simpa using HX.out⟩, HY, Nn.nil _ _, hB1⟩
  case round =>
    obtain ⟨k, hk, rfl, HX', HY', hN, hB'⟩ := hrel
    have c0 : wr.cell? ⟨B, 0, none⟩ = some (.int .i64 E) := by rw [Blk.cell HX'.out]; rfl
    have c1 : wr.cell? ⟨B, 1, none⟩ = some (.int .i64 (L + k)) := by rw [Blk.cell HX'.out]; rfl
    have f1 : wr.frozen? ⟨B, 1, none⟩ = false := Blk.frozen HX'.out 1
    by_cases hlt : k < m
    · have hlt' : (k : Int) < (m : Int) := by omega
      have hr' : rightN E (L + k + 1) = true := rightN_iff.2 ⟨he, he', by omega, by omega⟩
      go_wp2_with fail
      refine (Bytes_c hr').mono ?_
      rintro x w2 ⟨g, rfl, hg, hG, hb2⟩
      have hB2 : Below B w w2 := (hB'.setCell (p := ⟨B, 1, none⟩) (Nat.le_refl _) _).trans (hb2.mono (by have := hB'.size; rw [HBB.out] at this; simpa [World.setCell] using this))
      have hsz : B + 2 ≤ w2.heap.size := by have := Blk.lt HY'.out; have := hb2.size; simp [World.setCell] at this; omega
      have hgb : B + 2 ≤ g := by have := Blk.lt HY'.out; simp [World.setCell] at hg; omega
      have HX2 : Aside0 (Blk w2 B 42 [.int .i64 E, .int .i64 (L + k + 1)]) := ⟨Blk.below (Blk.set_ HX'.out 1 _) hb2⟩
      have HY2 : Aside0 (Blk w2 (B + 1) 42 [.int .i64 0, .int .i64 0]) := ⟨Blk.below (Blk.far HY'.out (p := ⟨B, 1, none⟩) (by simp) _) hb2⟩
      have hN2 := (hN.setCell (p := ⟨B, 1, none⟩) (by simp) (.int .i64 (L + k + 1))).below hb2
      obtain ⟨cells, hown, hx⟩ := hN2
      have hlen := takeW_length E L k
      rw [hlen] at hown
      have HX' := Aside0.mk hx
      have HG := Aside0.mk hG
      clear hx hG c0 c1 f1 hN hlen hb2 hg
      go_wp2_with (at_builtin; refine wpList_append_own _ rfl _ _ 43 rfl (B + 2) 22 i0 (.slice none 0 0) 1 24 Try.underlying43 hi hz0 hz1 hz2 rfl (by decide) _ _ _ rfl (hown.alloc _) ⟨w2.heap.size, 0, none⟩ 1 1 [.slice (some ⟨g, 0, none⟩) 12 12] rfl rfl (cell_one_new _ _ _) (by simp [Value.oneCell']) (by unfold maxLen; omega) (by omega) (by simp; omega) ?_; intro v' w3 hown' hgrow _)
      have ne1 := own_ne hown HX2.out (by decide)
      have ne2 := own_ne hown HY2.out (by decide)
      have e1 : L + ((k + 1 : Nat) : Int) = L + k + 1 := by omega
      have e2 : L + 1 + ((k : Nat) : Int) = L + k + 1 := by omega
      have R1 : Aside0 (Blk w3 B 42 [.int .i64 E, .int .i64 (L + ((k + 1 : Nat) : Int))]) := ⟨by rw [e1]; exact (hgrow.block B (by simp; omega) ne1).trans (Blk.alloc HX2.out _)⟩
      have R2 : Aside0 (Blk w3 (B + 1) 42 [.int .i64 0, .int .i64 0]) := ⟨(hgrow.block (B + 1) (by simp; omega) ne2).trans (Blk.alloc HY2.out _)⟩
      have R3 : Nn w3 (B + 2) v' (takeW E L (k + 1)) := by
        rw [takeW_succ, e2]
        exact Nn.snoc (takeW_length E L k) (fun i x hi => by obtain ⟨g', q1, q2, q3⟩ := HX'.out i x hi; exact ⟨g', q1, q2, Blk.alloc q3 _⟩) (hown.alloc _) hown' hgrow hgb (Blk.alloc HG.out _)
      have R4 : Below B w w3 := (hB2.alloc (by omega) _).grown hgrow (by simp; omega) (fun j hj => by have := (hown.lt j hj).1; omega)
      clear e1 e2
      go_roundw
      case rel => exact ⟨k + 1, by omega, by go_num, R1, R2, R3, R4⟩
      case measure => simp [intOf]; omega
    · have hge : ¬ (k : Int) < (m : Int) := by omega
      have hkm : k = m := by omega
      have e0 : wr.cell? ⟨B + 1, 0, none⟩ = some (.int .i64 0) := by rw [Blk.cell HY'.out]; rfl
      have e1 : wr.cell? ⟨B + 1, 1, none⟩ = some (.int .i64 0) := by rw [Blk.cell HY'.out]; rfl
      have f2 : wr.frozen? ⟨B + 1, 0, none⟩ = false := Blk.frozen HY'.out 0
      have f3 : wr.frozen? ⟨B + 1, 1, none⟩ = false := Blk.frozen HY'.out 1
      have HK := Aside0.mk hkm
      clear hkm
      go_wp2_with fail
      go_region
      all_goals go_wp2_with fail
      have hNf := ((hN.lower (show B ≤ B + 2 by omega)))
      have hk' := HK.out
      have hNn : Nn ((wr.setCell ⟨B + 1, 0, none⟩ (.int .i64 E)).setCell ⟨B + 1, 1, none⟩ (.int .i64 (L + k))) B u7 (takeW E L m) := by
        rw [← hk']
        exact ((hN.setCell (p := ⟨B + 1, 0, none⟩) (by simp) _).setCell (p := ⟨B + 1, 1, none⟩) (by simp) _).lower (by omega)
      have hBn : Below B w ((wr.setCell ⟨B + 1, 0, none⟩ (.int .i64 E)).setCell ⟨B + 1, 1, none⟩ (.int .i64 (L + k))) := (hB'.setCell (p := ⟨B + 1, 0, none⟩) (by simp) _).setCell (p := ⟨B + 1, 1, none⟩) (by simp) _
      refine bodyPost_ret (v := .tuple #[u7, .agg #[.int .i64 E, .int .i64 (L + k)], .int .i64 0]) (by simp [results, Try.results28, go_sem, e0, e1]) rfl ⟨u7, ?_, ?_, ?_⟩
      · rw [hk']
      · rw [HBB.out]; exact hNn
      · rw [HBB.out]; exact hBn.drew
theorem Take_yes {E L z : Int} {w : World} (m : Nat) (hz : z = m) (he : 0 ≤ E) (he' : E ≤ 64) (hl : 0 ≤ L) (hm : m ≤ 4096) (hlm : L + m ≤ 1099511627776) :
    Calls Try.prog 28 #[.agg #[.int .i64 E, .int .i64 L], .int .i64 z] w fun x w' => ∃ v, x = .returned (.tuple #[v, .agg #[.int .i64 E, .int .i64 (L + z)], .int .i64 0]) ∧ Nn w' w.heap.size v (takeW E L m) ∧ Below w.heap.size w w' := by
  subst hz
  exact Take_yes_nat m he he' hl hm hlm
end Go.Proofs.Ytlaoodlfkcnnnaa.TakeC
