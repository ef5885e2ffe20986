/- NonceTakes, walked. -/
import Derived.Test.YtlaoodlfkcnnnaaNonceD
import Derived.Deep.RegionHeld3
import Derived.Deep.Cut
import Derived.Test.YtlaoodlfkcnnnaaTakeC
import Derived.Test.YtlaoodlfkcnnnaaPlainNonceTakes
namespace Go.Proofs.Ytlaoodlfkcnnnaa.WalkNonceTakes
open Go.RowKit Go.Proofs.YtlaoodlfkcnnnaaW.PrintWords Go.Proofs.Ytlaoodlfkcnnnaa.Num Go.Proofs.Ytlaoodlfkcnnnaa.WordC Go.Proofs.Ytlaoodlfkcnnnaa.FillC Go.Proofs.Ytlaoodlfkcnnnaa.Arr Go.Proofs.Ytlaoodlfkcnnnaa.NonceC Go.Proofs.Ytlaoodlfkcnnnaa.TakeC Go.Proofs.Ytlaoodlfkcnnnaa.NonceD
set_option linter.unusedVariables false
set_option linter.unusedSimpArgs false

set_option maxHeartbeats 4000000 in
set_option maxRecDepth 100000 in
theorem Take_no1 {E L z : Int} {w : World} (hr : rightN E L = false) :
    Calls Try.prog 28 #[.agg #[.int .i64 E, .int .i64 L], .int .i64 z] w fun x w' => x = .returned (.tuple #[.slice none 0 0, .agg #[.int .i64 0, .int .i64 0], .int .i64 1]) ∧ Below w.heap.size w w' := by
  have HR := Aside0.mk hr
  clear hr
  go_enter Try.func28, Try.ntmps28
  go_wp2_with fail
  refine (Right_c E L).mono ?_
  rintro x w1 ⟨rfl, hb1⟩
  rw [HR.out]
  have hs := hb1.size
  simp only [World.size_alloc] at hs
  have hX : Blk w1 w.heap.size 42 [.int .i64 E, .int .i64 L] := (hb1.block _ (by simp; omega)).trans (by rw [heap_alloc2_old]; try rfl)
  have hY : Blk w1 (w.heap.size + 1) 42 [.int .i64 0, .int .i64 0] := (hb1.block _ (by simp)).trans (by rw [heap_alloc2_new]; try rfl)
  have hB1 : Below w.heap.size w w1 := (((Below.refl _ w).alloc (Nat.le_refl _) _).alloc (by simp) _).trans (hb1.mono (by simp; omega))
  have c1 : w1.cell? ⟨w.heap.size, 1, none⟩ = some (.int .i64 L) := Blk.cell hX 1
  have e0 : w1.cell? ⟨w.heap.size + 1, 0, none⟩ = some (.int .i64 0) := Blk.cell hY 0
  have e1 : w1.cell? ⟨w.heap.size + 1, 1, none⟩ = some (.int .i64 0) := Blk.cell hY 1
  have f0 := Blk.frozen hY 0
  have f1 := Blk.frozen hY 1
  clear hX hY hb1
  go_wp2_with fail
  refine bodyPost_ret (v := .tuple #[.slice none 0 0, .agg #[.int .i64 0, .int .i64 0], .int .i64 1]) (by simp [results, Try.results28, go_sem, e0, e1, f0, f1]) rfl ⟨rfl, (hB1.setCell (p := ⟨w.heap.size + 1, 0, none⟩) (by simp) _).setCell (p := ⟨w.heap.size + 1, 1, none⟩) (by simp) _⟩
set_option maxHeartbeats 4000000 in
set_option maxRecDepth 100000 in
theorem Take_no2 {E L z : Int} {w : World} (hr : rightN E L = true) (h : z < 0) :
    Calls Try.prog 28 #[.agg #[.int .i64 E, .int .i64 L], .int .i64 z] w fun x w' => x = .returned (.tuple #[.slice none 0 0, .agg #[.int .i64 0, .int .i64 0], .int .i64 1]) ∧ Below w.heap.size w w' := by
  have HR := Aside0.mk hr
  clear hr
  go_enter Try.func28, Try.ntmps28
  go_wp2_with fail
  refine (Right_c E L).mono ?_
  rintro x w1 ⟨rfl, hb1⟩
  rw [HR.out]
  have hs := hb1.size
  simp only [World.size_alloc] at hs
  have hX : Blk w1 w.heap.size 42 [.int .i64 E, .int .i64 L] := (hb1.block _ (by simp; omega)).trans (by rw [heap_alloc2_old]; try rfl)
  have hY : Blk w1 (w.heap.size + 1) 42 [.int .i64 0, .int .i64 0] := (hb1.block _ (by simp)).trans (by rw [heap_alloc2_new]; try rfl)
  have hB1 : Below w.heap.size w w1 := (((Below.refl _ w).alloc (Nat.le_refl _) _).alloc (by simp) _).trans (hb1.mono (by simp; omega))
  have c1 : w1.cell? ⟨w.heap.size, 1, none⟩ = some (.int .i64 L) := Blk.cell hX 1
  have e0 : w1.cell? ⟨w.heap.size + 1, 0, none⟩ = some (.int .i64 0) := Blk.cell hY 0
  have e1 : w1.cell? ⟨w.heap.size + 1, 1, none⟩ = some (.int .i64 0) := Blk.cell hY 1
  have f0 := Blk.frozen hY 0
  have f1 := Blk.frozen hY 1
  clear hX hY hb1
  go_wp2_with fail
  refine bodyPost_ret (v := .tuple #[.slice none 0 0, .agg #[.int .i64 0, .int .i64 0], .int .i64 1]) (by simp [results, Try.results28, go_sem, e0, e1, f0, f1]) rfl ⟨rfl, (hB1.setCell (p := ⟨w.heap.size + 1, 0, none⟩) (by simp) _).setCell (p := ⟨w.heap.size + 1, 1, none⟩) (by simp) _⟩
set_option maxHeartbeats 4000000 in
set_option maxRecDepth 100000 in
theorem Take_no3 {E L z : Int} {w : World} (hr : rightN E L = true) (h : ¬ z < 0) (h2 : 4096 < z) :
    Calls Try.prog 28 #[.agg #[.int .i64 E, .int .i64 L], .int .i64 z] w fun x w' => x = .returned (.tuple #[.slice none 0 0, .agg #[.int .i64 0, .int .i64 0], .int .i64 1]) ∧ Below w.heap.size w w' := by
  have HR := Aside0.mk hr
  clear hr
  go_enter Try.func28, Try.ntmps28
  go_wp2_with fail
  refine (Right_c E L).mono ?_
  rintro x w1 ⟨rfl, hb1⟩
  rw [HR.out]
  have hs := hb1.size
  simp only [World.size_alloc] at hs
  have hX : Blk w1 w.heap.size 42 [.int .i64 E, .int .i64 L] := (hb1.block _ (by simp; omega)).trans (by rw [heap_alloc2_old]; try rfl)
  have hY : Blk w1 (w.heap.size + 1) 42 [.int .i64 0, .int .i64 0] := (hb1.block _ (by simp)).trans (by rw [heap_alloc2_new]; try rfl)
  have hB1 : Below w.heap.size w w1 := (((Below.refl _ w).alloc (Nat.le_refl _) _).alloc (by simp) _).trans (hb1.mono (by simp; omega))
  have c1 : w1.cell? ⟨w.heap.size, 1, none⟩ = some (.int .i64 L) := Blk.cell hX 1
  have e0 : w1.cell? ⟨w.heap.size + 1, 0, none⟩ = some (.int .i64 0) := Blk.cell hY 0
  have e1 : w1.cell? ⟨w.heap.size + 1, 1, none⟩ = some (.int .i64 0) := Blk.cell hY 1
  have f0 := Blk.frozen hY 0
  have f1 := Blk.frozen hY 1
  clear hX hY hb1
  go_wp2_with fail
  refine bodyPost_ret (v := .tuple #[.slice none 0 0, .agg #[.int .i64 0, .int .i64 0], .int .i64 1]) (by simp [results, Try.results28, go_sem, e0, e1, f0, f1]) rfl ⟨rfl, (hB1.setCell (p := ⟨w.heap.size + 1, 0, none⟩) (by simp) _).setCell (p := ⟨w.heap.size + 1, 1, none⟩) (by simp) _⟩
set_option maxHeartbeats 4000000 in
set_option maxRecDepth 100000 in
theorem Take_no4 {E L z : Int} {w : World} (hr : rightN E L = true) (h : ¬ z < 0) (h2 : ¬ 4096 < z) (h3 : 1099511627776 - L < z) :
    Calls Try.prog 28 #[.agg #[.int .i64 E, .int .i64 L], .int .i64 z] w fun x w' => x = .returned (.tuple #[.slice none 0 0, .agg #[.int .i64 0, .int .i64 0], .int .i64 10]) ∧ Below w.heap.size w w' := by
  obtain ⟨_, _, hl0, hl1⟩ := rightN_iff.1 hr
  have HR := Aside0.mk hr
  clear hr
  go_enter Try.func28, Try.ntmps28
  go_wp2_with fail
  refine (Right_c E L).mono ?_
  rintro x w1 ⟨rfl, hb1⟩
  rw [HR.out]
  have hs := hb1.size
  simp only [World.size_alloc] at hs
  have hX : Blk w1 w.heap.size 42 [.int .i64 E, .int .i64 L] := (hb1.block _ (by simp; omega)).trans (by rw [heap_alloc2_old]; try rfl)
  have hY : Blk w1 (w.heap.size + 1) 42 [.int .i64 0, .int .i64 0] := (hb1.block _ (by simp)).trans (by rw [heap_alloc2_new]; try rfl)
  have hB1 : Below w.heap.size w w1 := (((Below.refl _ w).alloc (Nat.le_refl _) _).alloc (by simp) _).trans (hb1.mono (by simp; omega))
  have c1 : w1.cell? ⟨w.heap.size, 1, none⟩ = some (.int .i64 L) := Blk.cell hX 1
  have e0 : w1.cell? ⟨w.heap.size + 1, 0, none⟩ = some (.int .i64 0) := Blk.cell hY 0
  have e1 : w1.cell? ⟨w.heap.size + 1, 1, none⟩ = some (.int .i64 0) := Blk.cell hY 1
  have f0 := Blk.frozen hY 0
  have f1 := Blk.frozen hY 1
  clear hX hY hb1
  go_wp2_with fail
  refine bodyPost_ret (v := .tuple #[.slice none 0 0, .agg #[.int .i64 0, .int .i64 0], .int .i64 10]) (by simp [results, Try.results28, go_sem, e0, e1, f0, f1]) rfl ⟨rfl, (hB1.setCell (p := ⟨w.heap.size + 1, 0, none⟩) (by simp) _).setCell (p := ⟨w.heap.size + 1, 1, none⟩) (by simp) _⟩
/-- A slice of slices of bytes that is read. -/
abbrev Lr (w : World) (A : Option Addr) (n : Nat) (ll : List (List Int)) : Prop := Kd.C (Kd.slice 5 (Kd.int .u8)) w A n ll
theorem lr_at {w : World} {A : Option Addr} {n : Nat} {ll : List (List Int)} (h : Lr w A n ll) (i : Nat) (hi : i < n) :
    ∃ ad Ai ci, A = some ad ∧ w.cell? (ad.add i) = some (.slice Ai (ll.getD i []).length ci) ∧ Rd w Ai (ll.getD i []).length ci (ll.getD i []) := by
  obtain ⟨ad, cs, e, hl, ⟨Ai, ci, rfl, hc, hC⟩, hcell⟩ := Kd.C_get h [] (i : Int) (by omega) (by omega)
  simp only [Int.toNat_natCast] at hcell hC hc
  refine ⟨ad, Ai, ci, e, ?_, rfl, hc, hC⟩
  have := hcell 0 _ rfl
  have e1 : i * (Kd.slice 5 (Kd.int .u8)).sz + 0 = i := Nat.mul_one i
  rwa [e1] at this
theorem refTake_c (E L z : Int) (r1 : List (List Int)) (r2 r3 : Int) (k : Nat) {w : World} (h : PNonceTakes.hypogeumref10_Take.f k E L z = some (r1, r2, r3)) :
    Calls Try.prog 29 #[.int .i64 E, .int .i64 L, .int .i64 z] w fun x w' => ∃ A c, x = .returned (.tuple #[.slice A r1.length c, .int .i64 r2, .int .i64 r3]) ∧ Lr w' A r1.length r1 ∧ Below w.heap.size w w' := by
  refine (PNonceTakes.hypogeumref10_Take.calls k E L z r1 r2 r3 w h).mono ?_
  rintro x w' ⟨v, rfl, hS, hb⟩
  obtain ⟨A, c, rfl, hl, hC⟩ := Kd.R_reads (Kd.S_R hS)
  exact ⟨A, c, rfl, hC, hb⟩
theorem rightN_W (E L : Int) : rightN E L = rightW E L := rfl
theorem takeW_getD (E L : Int) (m i : Nat) (h : i < m) : (takeW E L m).getD i [] = nonceW E (L + 1 + (i : Nat)) := by
  unfold takeW
  rw [List.getD_eq_getElem?_getD, List.getElem?_map, List.getElem?_range h]; rfl
set_option maxHeartbeats 8000000 in
set_option maxRecDepth 100000 in
theorem walk_no {E L z code : Int} {w : World} (hc : (code == 0) = false) (hc2 : (code != 0) = true) (hz : ¬ code = 0)
    (h1 : ∀ W : World, Calls Try.prog 28 #[.agg #[.int .i64 E, .int .i64 L], .int .i64 z] W fun x w' => x = .returned (.tuple #[.slice none 0 0, .agg #[.int .i64 0, .int .i64 0], .int .i64 code]) ∧ Below W.heap.size W w')
    (h2 : ∀ W : World, Calls Try.prog 29 #[.int .i64 E, .int .i64 L, .int .i64 z] W fun x w' => ∃ A c, x = .returned (.tuple #[.slice A 0 c, .int .i64 0, .int .i64 code]) ∧ Below W.heap.size W w') :
    Calls Try.prog 8 #[.agg #[.int .i64 E, .int .i64 L], .int .i64 z] w fun e w' => e = .returned (.bool true) ∧ Below w.heap.size w w' := by
  have H1 := Aside0.mk h1
  have H2 := Aside0.mk h2
  have q1 : (code == code) = true := beq_self_eq_true _
  have q2 : (code != code) = false := by simp
  clear h1 h2
  go_enter Try.func8, Try.ntmps8
  go_wp2_with fail
  refine (H1.out _).mono ?_
  rintro x w1 ⟨rfl, hb1⟩
  have hb0 : Below w.heap.size w (w.alloc (.cells #[.int .i64 E, .int .i64 L] 42)) := (Below.refl _ w).alloc (Nat.le_refl _) _
  have hB1 := below_next hb0 hb1
  have hX1 : Blk w1 w.heap.size 42 [.int .i64 E, .int .i64 L] := Blk.below (heap_alloc_new _ _) hb1
  have hb1a : Below w1.heap.size w1 (w1.alloc (.cells #[.int .i64 0, .int .i64 0] 42)) := (Below.refl _ w1).alloc (Nat.le_refl _) _
  have hB1a := below_next hB1 hb1a
  have hX1a := Blk.below hX1 hb1a
  have hD1 : Blk (w1.alloc (.cells #[.int .i64 0, .int .i64 0] 42)) w1.heap.size 42 [.int .i64 0, .int .i64 0] := heap_alloc_new _ _
  have c0 : (w1.alloc (.cells #[.int .i64 0, .int .i64 0] 42)).cell? ⟨w.heap.size, 0, none⟩ = some (.int .i64 E) := Blk.cell hX1a 0
  have c1 : (w1.alloc (.cells #[.int .i64 0, .int .i64 0] 42)).cell? ⟨w.heap.size, 1, none⟩ = some (.int .i64 L) := Blk.cell hX1a 1
  go_wp2_with fail
  refine (H2.out _).mono ?_
  rintro x w2 ⟨A2, c2, rfl, hb2⟩
  have hB2 := below_next hB1a hb2
  have hX2 := Blk.below hX1a hb2
  have hD2 := Blk.below hD1 hb2
  have k0 : w2.cell? ⟨w.heap.size, 0, none⟩ = some (.int .i64 E) := Blk.cell hX2 0
  have k1 : w2.cell? ⟨w.heap.size, 1, none⟩ = some (.int .i64 L) := Blk.cell hX2 1
  have d0 : w2.cell? ⟨w1.heap.size, 0, none⟩ = some (.int .i64 0) := Blk.cell hD2 0
  have d1 : w2.cell? ⟨w1.heap.size, 1, none⟩ = some (.int .i64 0) := Blk.cell hD2 1
  have HX2 := Aside0.mk hX2
  clear c0 c1 hX1 hX1a hD1 hX2 hD2
  go_wp2_with fail
  go_loopw [62] (fun i wr => i = .int .i64 0 ∧ wr = w2) (fun _ _ => 0)
  case atStart => exact ⟨rfl, rfl⟩
  case round =>
    obtain ⟨rfl, rfl⟩ := hrel
    go_wp2_with fail
    have hbD : Below wr.heap.size wr wr.drew := (Below.refl _ wr).drew
    have hXd := Blk.below HX2.out hbD
    have hBd := below_next hB2 hbD
    have m0 : wr.drew.cell? ⟨w.heap.size, 0, none⟩ = some (.int .i64 E) := Blk.cell hXd 0
    have m1 : wr.drew.cell? ⟨w.heap.size, 1, none⟩ = some (.int .i64 L) := Blk.cell hXd 1
    have HXd := Aside0.mk hXd
    obtain ⟨bR, HBR⟩ : ∃ bR, Aside0 (rightN E L = bR) := ⟨_, ⟨rfl⟩⟩
    have q5 : (bR == bR) = true := beq_self_eq_true _
    clear hXd
    go_region_held3 (fun w' => w'.cell? ⟨w.heap.size, 0, none⟩ = some (.int .i64 E) ∧ w'.cell? ⟨w.heap.size, 1, none⟩ = some (.int .i64 L))
      (first | exact ⟨m0, m1⟩ | exact ⟨n0, n1⟩ | exact ⟨p0, p1⟩ | exact ⟨r0, r1⟩)
      (first
        | (go_at_call 30; (with_reducible refine (Right_c E L).mono ?_); rintro x w3 ⟨rfl, hb3⟩; rw [HBR.out]; have hX3 := Blk.below HXd.out hb3; have n0 : w3.cell? ⟨w.heap.size, 0, none⟩ = some (.int .i64 E) := Blk.cell hX3 0; have n1 : w3.cell? ⟨w.heap.size, 1, none⟩ = some (.int .i64 L) := Blk.cell hX3 1)
        | (go_at_call 31; (with_reducible refine (refRight_c E L).mono ?_); rintro x w4 ⟨rfl, ⟨n4, rfl⟩⟩; rw [HBR.out]; have p0 : (w3.drewN n4).cell? ⟨w.heap.size, 0, none⟩ = some (.int .i64 E) := n0; have p1 : (w3.drewN n4).cell? ⟨w.heap.size, 1, none⟩ = some (.int .i64 L) := n1)
        | (go_at_call 32; (with_reducible refine awake10_c.mono ?_); rintro x w5 ⟨rfl, hb5⟩; have hb35 : Below w3.heap.size w3 w5 := (below_drewN' (Below.refl _ w3) n4).trans hb5; have hX5 := Blk.below hX3 hb35; have r0 : w5.cell? ⟨w.heap.size, 0, none⟩ = some (.int .i64 E) := Blk.cell hX5 0; have r1 : w5.cell? ⟨w.heap.size, 1, none⟩ = some (.int .i64 L) := Blk.cell hX5 1))
    go_wp2_with fail
    go_ret
    exact ⟨rfl, below_next (below_next hBd hb3) hb35⟩
set_option maxHeartbeats 8000000 in
set_option maxRecDepth 100000 in
theorem walk_yes {E L : Int} {m : Nat} {w : World} (hr : rightN E L = true) (hm : m ≤ 4096) (hlm : L + m ≤ 1099511627776) :
    Calls Try.prog 8 #[.agg #[.int .i64 E, .int .i64 L], .int .i64 (m : Int)] w fun e w' => e = .returned (.bool true) ∧ Below w.heap.size w w' := by
  obtain ⟨he, he', hl, _⟩ := rightN_iff.1 hr
  have HLT := Aside0.mk (takeW_length E L m)
  have HRT := Aside0.mk (PlainNonceTakes.refTake_yes E L m he he' hl hm hlm)
  have q1 : ((m : Int) != (m : Int)) = false := by simp
  have q2 : (m != m) = false := by simp
  have HR := Aside0.mk hr
  clear hr
  go_enter Try.func8, Try.ntmps8
  go_wp2_with fail
  refine (Take_yes_nat m he he' hl hm hlm).mono ?_
  rintro x w1 ⟨v1, rfl, hN1, hb1⟩
  have hb0 : Below w.heap.size w (w.alloc (.cells #[.int .i64 E, .int .i64 L] 42)) := (Below.refl _ w).alloc (Nat.le_refl _) _
  have hB1 := below_next hb0 hb1
  have hX1 : Blk w1 w.heap.size 42 [.int .i64 E, .int .i64 L] := Blk.below (heap_alloc_new _ _) hb1
  have hb1a : Below w1.heap.size w1 (w1.alloc (.cells #[.int .i64 E, .int .i64 (L + m)] 42)) := (Below.refl _ w1).alloc (Nat.le_refl _) _
  have hB1a := below_next hB1 hb1a
  have hX1a := Blk.below hX1 hb1a
  have hD1 : Blk (w1.alloc (.cells #[.int .i64 E, .int .i64 (L + m)] 42)) w1.heap.size 42 [.int .i64 E, .int .i64 (L + m)] := heap_alloc_new _ _
  have c0 : (w1.alloc (.cells #[.int .i64 E, .int .i64 (L + m)] 42)).cell? ⟨w.heap.size, 0, none⟩ = some (.int .i64 E) := Blk.cell hX1a 0
  have c1 : (w1.alloc (.cells #[.int .i64 E, .int .i64 (L + m)] 42)).cell? ⟨w.heap.size, 1, none⟩ = some (.int .i64 L) := Blk.cell hX1a 1
  obtain ⟨A1, k1, rfl⟩ := Nn.value hN1
  rw [HLT.out] at hN1 ⊢
  have HN1 := Aside0.mk hN1
  clear hN1
  go_wp2_with fail
  refine (refTake_c E L m _ _ _ _ HRT.out).mono ?_
  rintro x w2 ⟨A2, k2, rfl, hC2, hb2⟩
  have hlen2 : ((List.range m).map (fun j => told 4 E ++ told 8 (L + 1 + (j : Nat)))).length = m := by simp
  rw [hlen2] at hC2 ⊢
  have hC2' : Lr w2 A2 m (takeW E L m) := hC2
  have hB2 := below_next hB1a hb2
  have hX2 := Blk.below hX1a hb2
  have hD2 := Blk.below hD1 hb2
  have k0 : w2.cell? ⟨w.heap.size, 0, none⟩ = some (.int .i64 E) := Blk.cell hX2 0
  have k1' : w2.cell? ⟨w.heap.size, 1, none⟩ = some (.int .i64 L) := Blk.cell hX2 1
  have d0 : w2.cell? ⟨w1.heap.size, 0, none⟩ = some (.int .i64 E) := Blk.cell hD2 0
  have d1 : w2.cell? ⟨w1.heap.size, 1, none⟩ = some (.int .i64 (L + m)) := Blk.cell hD2 1
  have HX2 := Aside0.mk hX2
  have HC2 := Aside0.mk hC2'
  have HN2 := Aside0.mk ((HN1.out.below hb1a).below hb2)
  clear c0 c1 hX1 hX1a hD1 hX2 hD2 hC2 hC2' hlen2
  go_wp2_with fail
  go_loopw [62] (fun i wr => ∃ j : Nat, j ≤ m ∧ i = .int .i64 j ∧ Below w2.heap.size w2 wr) (fun i _ => m - (intOf i).toNat)
  case atStart => exact ⟨0, by omega, rfl, Below.refl _ _⟩
  case round =>
    obtain ⟨j, hj, rfl, hb⟩ := hrel
    by_cases hlt : j < m
    · have hlt' : (j : Int) < (m : Int) := by omega
      obtain ⟨g0, cap, e1, hcells⟩ := Nn.form (HN2.out.below hb) (by rw [HLT.out]; omega)
      injection e1 with e1 e2 e3
      subst e1
      have hxj : (takeW E L m)[j]? = some (nonceW E (L + 1 + (j : Nat))) := by
        have h1 := takeW_getD E L m j hlt
        rw [List.getD_eq_getElem?_getD, List.getElem?_eq_getElem (by rw [HLT.out]; exact hlt)] at h1
        rw [List.getElem?_eq_getElem (by rw [HLT.out]; exact hlt)]
        exact congrArg some h1
      obtain ⟨g, hcg, hbg⟩ := hcells j _ hxj
      obtain ⟨ad, Ai, ci, rfl, hca, hra⟩ := lr_at (Kd.C_below HC2.out hb) j hlt
      rw [takeW_getD E L m j hlt] at hca hra
      have hl12 := nonceW_length E (L + 1 + (j : Nat))
      obtain ⟨X, HX⟩ : ∃ X, Aside0 (nonceW E (L + 1 + (j : Nat)) = X) := ⟨_, ⟨rfl⟩⟩
      rw [HX.out] at hbg hca hra hl12
      have hrg := rd_nonce hbg hl12
      rw [hl12] at hca hra
      have hbD : Below wr.heap.size wr wr.drew := (Below.refl _ wr).drew
      have s1 := rd_string (hrg.below hbD)
      have s2 := rd_string (hra.below hbD)
      have m1 : wr.drew.cell? ⟨g0, j, none⟩ = some (.slice (some ⟨g, 0, none⟩) 12 12) := hcg
      have m2 : wr.drew.cell? (ad.add j) = some (.slice Ai 12 ci) := hca
      have q6 : ((strOfNums X).toList != (strOfNums X).toList) = false := by simp
      have q7 : ((strOfNums X).toList == (strOfNums X).toList) = true := str_self _
      have hbj := hb.trans (hbD.mono hb.size)
      clear hcells hxj hcg hca hbg hra hrg hl12 e2 e3
      go_wp2_with fail
      go_region_held3 (fun w' => w'.cell? ⟨g0, j, none⟩ = some (.slice (some ⟨g, 0, none⟩) 12 12) ∧ w'.cell? (ad.add j) = some (.slice Ai 12 ci) ∧ (convert 22 9 (.slice (some ⟨g, 0, none⟩) 12 12)).run Try.prog w' = .ok (.string (strOfNums X)) w' ∧ (convert 22 9 (.slice Ai 12 ci)).run Try.prog w' = .ok (.string (strOfNums X)) w')
        (first | exact ⟨m1, m2, s1, s2⟩)
        (fail)
      go_wp2_with fail
      go_roundw
      case rel => exact ⟨j + 1, by omega, by go_num, hbj⟩
      case measure => simp [intOf]; omega
    · have hge : ¬ (j : Int) < (m : Int) := by omega
      go_wp2_with fail
      have hbD : Below wr.heap.size wr wr.drew := (Below.refl _ wr).drew
      have hXd := Blk.below (Blk.below HX2.out hb) hbD
      have hBd := below_next (below_next hB2 hb) hbD
      have m0 : wr.drew.cell? ⟨w.heap.size, 0, none⟩ = some (.int .i64 E) := Blk.cell hXd 0
      have m1 : wr.drew.cell? ⟨w.heap.size, 1, none⟩ = some (.int .i64 L) := Blk.cell hXd 1
      have HXd := Aside0.mk hXd
      obtain ⟨bR, HBR⟩ : ∃ bR, Aside0 (rightN E L = bR) := ⟨_, ⟨rfl⟩⟩
      have q5 : (bR == bR) = true := beq_self_eq_true _
      clear hXd
      go_region_held3 (fun w' => w'.cell? ⟨w.heap.size, 0, none⟩ = some (.int .i64 E) ∧ w'.cell? ⟨w.heap.size, 1, none⟩ = some (.int .i64 L))
        (first | exact ⟨m0, m1⟩ | exact ⟨n0, n1⟩ | exact ⟨p0, p1⟩ | exact ⟨r0, r1⟩)
        (first
          | (go_at_call 30; (with_reducible refine (Right_c E L).mono ?_); rintro x w3 ⟨rfl, hb3⟩; rw [HBR.out]; have hX3 := Blk.below HXd.out hb3; have n0 : w3.cell? ⟨w.heap.size, 0, none⟩ = some (.int .i64 E) := Blk.cell hX3 0; have n1 : w3.cell? ⟨w.heap.size, 1, none⟩ = some (.int .i64 L) := Blk.cell hX3 1)
          | (go_at_call 31; (with_reducible refine (refRight_c E L).mono ?_); rintro x w4 ⟨rfl, ⟨n4, rfl⟩⟩; rw [HBR.out]; have p0 : (w3.drewN n4).cell? ⟨w.heap.size, 0, none⟩ = some (.int .i64 E) := n0; have p1 : (w3.drewN n4).cell? ⟨w.heap.size, 1, none⟩ = some (.int .i64 L) := n1)
          | (go_at_call 32; (with_reducible refine awake10_c.mono ?_); rintro x w5 ⟨rfl, hb5⟩; have hb35 : Below w3.heap.size w3 w5 := (below_drewN' (Below.refl _ w3) n4).trans hb5; have hX5 := Blk.below hX3 hb35; have r0 : w5.cell? ⟨w.heap.size, 0, none⟩ = some (.int .i64 E) := Blk.cell hX5 0; have r1 : w5.cell? ⟨w.heap.size, 1, none⟩ = some (.int .i64 L) := Blk.cell hX5 1))
      go_wp2_with fail
      go_ret
      exact ⟨rfl, below_next (below_next hBd hb3) hb35⟩
theorem walk (E L : Int) (hE : (Lit.int .i64 E).wf = true) (hL : (Lit.int .i64 L).wf = true) (z : Int) (hz : (Lit.int .i64 z).wf = true) {w : World} :
    Calls Try.prog 8 #[.agg #[.int .i64 E, .int .i64 L], .int .i64 z] w fun e w' => e = .returned (.bool true) ∧ Below w.heap.size w w' := by
  have rf : ∀ (code : Int) (k : Nat) (W : World), PNonceTakes.hypogeumref10_Take.f k E L z = some ([], 0, code) → Calls Try.prog 29 #[.int .i64 E, .int .i64 L, .int .i64 z] W fun x w' => ∃ A c, x = .returned (.tuple #[.slice A 0 c, .int .i64 0, .int .i64 code]) ∧ Below W.heap.size W w' := fun code k W h => by
    refine (refTake_c E L z [] 0 code k h).mono ?_
    rintro x w' ⟨A, c, rfl, _, hb⟩
    exact ⟨A, c, rfl, hb⟩
  cases hr : rightN E L with
  | false => exact walk_no (by decide) (by decide) (by decide) (fun W => Take_no1 hr) (fun W => rf 1 1 W (PlainNonceTakes.refTake_arg E L z (fun h => by rw [← rightN_W, hr] at h; simp at h)))
  | true =>
    by_cases h1 : z < 0
    · exact walk_no (by decide) (by decide) (by decide) (fun W => Take_no2 hr h1) (fun W => rf 1 1 W (PlainNonceTakes.refTake_arg E L z (fun h => by omega)))
    · by_cases h2 : 4096 < z
      · exact walk_no (by decide) (by decide) (by decide) (fun W => Take_no3 hr h1 h2) (fun W => rf 1 1 W (PlainNonceTakes.refTake_arg E L z (fun h => by omega)))
      · by_cases h3 : 1099511627776 - L < z
        · exact walk_no (by decide) (by decide) (by decide) (fun W => Take_no4 hr h1 h2 h3) (fun W => rf 10 1 W (PlainNonceTakes.refTake_cap E L z (by rw [← rightN_W]; exact hr) (by omega) (by omega) (by omega)))
        · obtain ⟨m, rfl⟩ := Int.eq_ofNat_of_zero_le (show 0 ≤ z by omega)
          exact walk_yes hr (by omega) (by omega)
end Go.Proofs.Ytlaoodlfkcnnnaa.WalkNonceTakes
