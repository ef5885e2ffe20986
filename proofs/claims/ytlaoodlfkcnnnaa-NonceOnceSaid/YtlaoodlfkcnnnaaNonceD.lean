/- The nonce laws' awake, and the contracts of Take's refusals and of Turn. -/
import Derived.Test.YtlaoodlfkcnnnaaTakeC
namespace Go.Proofs.Ytlaoodlfkcnnnaa.NonceD
open Go.RowKit Go.Proofs.YtlaoodlfkcnnnaaW.PrintWords Go.Proofs.Ytlaoodlfkcnnnaa.Num Go.Proofs.Ytlaoodlfkcnnnaa.WordC Go.Proofs.Ytlaoodlfkcnnnaa.FillC Go.Proofs.Ytlaoodlfkcnnnaa.Arr Go.Proofs.Ytlaoodlfkcnnnaa.NonceC Go.Proofs.Ytlaoodlfkcnnnaa.TakeC
set_option linter.unusedVariables false
set_option linter.unusedSimpArgs false

/-- Where such a slice lies. -/
theorem Nn.form {w : World} {base : Nat} {v : Value} {xs : List (List Int)} (h : Nn w base v xs) (hp : 0 < xs.length) :
    ∃ g0 cap, v = .slice (some ⟨g0, 0, none⟩) xs.length cap ∧ ∀ (i : Nat) (x : List Int), xs[i]? = some x → ∃ g, w.cell? ⟨g0, i, none⟩ = some (.slice (some ⟨g, 0, none⟩) 12 12) ∧ Blk w g 68 (nums .u8 x) := by
  obtain ⟨cells, ho, hx⟩ := h
  obtain ⟨g0, cap, rfl, _, _⟩ := ho.form hp
  refine ⟨g0, cap, rfl, fun i x hi => ?_⟩
  obtain ⟨g, h1, _, h3⟩ := hx i x hi
  refine ⟨g, ?_, h3⟩
  have := ho.cells (g := g0) rfl i _ h1
  rwa [add_plain] at this
theorem Nn.value {w : World} {base : Nat} {v : Value} {xs : List (List Int)} (h : Nn w base v xs) : ∃ A c, v = .slice A xs.length c := by
  obtain ⟨cells, ho, _⟩ := h
  obtain ⟨A, c, e⟩ := own_slice ho
  exact ⟨A, c, e⟩
theorem rd_nonce {w : World} {g : Nat} {x : List Int} (h : Blk w g 68 (nums .u8 x)) (hl : x.length = 12) : Rd w (some ⟨g, 0, none⟩) 12 12 x := by
  have := rd_of_blk h 0 x 12 (by omega) (by omega) (fun j hj => by rw [Nat.zero_add]; exact nums_get .u8 x j hj)
  rwa [hl] at this
set_option maxHeartbeats 4000000 in
set_option maxRecDepth 100000 in
theorem awake10_c {w : World} : Calls Try.prog 32 #[] w fun e w' => e = .returned (.bool true) ∧ Below w.heap.size w w' := by
  go_enter Try.func32, Try.ntmps32
  go_wp2_with fail
  refine (Take_yes (E := 1) (L := 5) (z := 2) 2 rfl (by omega) (by omega) (by omega) (by omega) (by omega)).mono ?_
  rintro x w1 ⟨v, rfl, hN, hb1⟩
  obtain ⟨g0, cap, rfl, hx⟩ := Nn.form hN (by rw [takeW_length]; omega)
  obtain ⟨g, hc, hG⟩ := hx 1 (nonceW 1 7) (by simp [takeW, List.range_succ])
  have n1 : w1.cell? ⟨g, 3, none⟩ = some (.int .u8 1) := by rw [Blk.cell hG, nums_get .u8 _ 3 (by rw [nonceW_length]; omega), show (nonceW 1 7).getD 3 0 = 1 from by decide]
  have n2 : w1.cell? ⟨g, 11, none⟩ = some (.int .u8 7) := by rw [Blk.cell hG, nums_get .u8 _ 11 (by rw [nonceW_length]; omega), show (nonceW 1 7).getD 11 0 = 7 from by decide]
  clear hx hG hN
  rw [takeW_length]
  have ca : ∀ {p : Addr} {u : Value}, w1.cell? p = some u → ∀ o, (w1.alloc o).cell? p = some u := fun h o => (World.cell?_alloc_lt w1 o _ (World.block_lt_of_cell? w1 _ h)).trans h
  have hc' := ca hc
  have n1' := ca n1
  have n2' := ca n2
  clear ca hc n1 n2
  go_wp2_with fail
  go_ret
  exact ⟨rfl, hb1.alloc hb1.size _⟩
set_option maxHeartbeats 4000000 in
set_option maxRecDepth 100000 in
theorem Turn_yes {E L z : Int} {w : World} (h : rightN E L = true) (h' : rightN z L = true) (hz : E < z) :
    Calls Try.prog 37 #[.agg #[.int .i64 E, .int .i64 L], .int .i64 z] w fun x w' => x = .returned (.tuple #[.agg #[.int .i64 z, .int .i64 L], .int .i64 0]) ∧ Below w.heap.size w w' := by
  have t1 : ¬ z < E := by omega
  have t2 : (z == E) = false := beq_eq_false_iff_ne.2 (by omega)
  have t3 : ¬ z = E := by omega
  go_enter Try.func37, Try.ntmps37
  go_wp2_with fail
  refine (Right_c E L).mono ?_
  rintro x w1 ⟨rfl, hb1⟩
  have c0w1 : w1.cell? ⟨w.heap.size, 0, none⟩ = some (.int .i64 E) := (hb1.cell (p := ⟨w.heap.size, 0, none⟩) (by simp <;> omega)).trans (by simp [go_sem])
  have c1w1 : w1.cell? ⟨w.heap.size, 1, none⟩ = some (.int .i64 L) := (hb1.cell (p := ⟨w.heap.size, 1, none⟩) (by simp <;> omega)).trans (by simp [go_sem])
  have y0w1 : w1.cell? ⟨w.heap.size + 1, 0, none⟩ = some (.int .i64 0) := (hb1.cell (p := ⟨w.heap.size + 1, 0, none⟩) (by simp <;> omega)).trans (by simp [go_sem])
  have y1w1 : w1.cell? ⟨w.heap.size + 1, 1, none⟩ = some (.int .i64 0) := (hb1.cell (p := ⟨w.heap.size + 1, 1, none⟩) (by simp <;> omega)).trans (by simp [go_sem])
  have n0w1 : w1.cell? ⟨w.heap.size + 2, 0, none⟩ = some (.int .i64 z) := (hb1.cell (p := ⟨w.heap.size + 2, 0, none⟩) (by simp <;> omega)).trans (by simp [go_sem])
  have n1w1 : w1.cell? ⟨w.heap.size + 2, 1, none⟩ = some (.int .i64 L) := (hb1.cell (p := ⟨w.heap.size + 2, 1, none⟩) (by simp <;> omega)).trans (by simp [go_sem])
  have f0w1 : w1.frozen? ⟨w.heap.size + 1, 0, none⟩ = false := (hb1.frozen (p := ⟨w.heap.size + 1, 0, none⟩) (by simp <;> omega)).trans (by simp [go_sem])
  have f1w1 : w1.frozen? ⟨w.heap.size + 1, 1, none⟩ = false := (hb1.frozen (p := ⟨w.heap.size + 1, 1, none⟩) (by simp <;> omega)).trans (by simp [go_sem])
  go_wp2_with fail
  refine (Right_c z L).mono ?_
  rintro x w2 ⟨rfl, hb2⟩
  have c0w2 : w2.cell? ⟨w.heap.size, 0, none⟩ = some (.int .i64 E) := (hb2.cell (p := ⟨w.heap.size, 0, none⟩) (by have := hb1.size; simp at this ⊢; omega)).trans c0w1
  have c1w2 : w2.cell? ⟨w.heap.size, 1, none⟩ = some (.int .i64 L) := (hb2.cell (p := ⟨w.heap.size, 1, none⟩) (by have := hb1.size; simp at this ⊢; omega)).trans c1w1
  have y0w2 : w2.cell? ⟨w.heap.size + 1, 0, none⟩ = some (.int .i64 0) := (hb2.cell (p := ⟨w.heap.size + 1, 0, none⟩) (by have := hb1.size; simp at this ⊢; omega)).trans y0w1
  have y1w2 : w2.cell? ⟨w.heap.size + 1, 1, none⟩ = some (.int .i64 0) := (hb2.cell (p := ⟨w.heap.size + 1, 1, none⟩) (by have := hb1.size; simp at this ⊢; omega)).trans y1w1
  have n0w2 : w2.cell? ⟨w.heap.size + 2, 0, none⟩ = some (.int .i64 z) := (hb2.cell (p := ⟨w.heap.size + 2, 0, none⟩) (by have := hb1.size; simp at this ⊢; omega)).trans n0w1
  have n1w2 : w2.cell? ⟨w.heap.size + 2, 1, none⟩ = some (.int .i64 L) := (hb2.cell (p := ⟨w.heap.size + 2, 1, none⟩) (by have := hb1.size; simp at this ⊢; omega)).trans n1w1
  have f0w2 : w2.frozen? ⟨w.heap.size + 1, 0, none⟩ = false := (hb2.frozen (p := ⟨w.heap.size + 1, 0, none⟩) (by have := hb1.size; simp at this ⊢; omega)).trans f0w1
  have f1w2 : w2.frozen? ⟨w.heap.size + 1, 1, none⟩ = false := (hb2.frozen (p := ⟨w.heap.size + 1, 1, none⟩) (by have := hb1.size; simp at this ⊢; omega)).trans f1w1
  have hB : Below w.heap.size w w2 := (((((Below.refl _ w).alloc (Nat.le_refl _) _).alloc (by simp) _).alloc (by simp; omega) _).trans (hb1.mono (by simp <;> omega))).trans (hb2.mono (by have := hb1.size; simp at this; omega))
  clear hb1 hb2
  go_wp2_with fail
  refine bodyPost_ret (v := .tuple #[.agg #[.int .i64 z, .int .i64 L], .int .i64 0]) (by simp [results, Try.results37, go_sem, y0w2, y1w2, f0w2, f1w2]) rfl ⟨rfl, ?_⟩
  exact (hB.setCell (p := ⟨w.heap.size + 1, 0, none⟩) (by simp) _).setCell (p := ⟨w.heap.size + 1, 1, none⟩) (by simp) _
set_option maxHeartbeats 4000000 in
set_option maxRecDepth 100000 in
theorem Turn_no1 {E L z : Int} {w : World} (h : rightN E L = false) :
    Calls Try.prog 37 #[.agg #[.int .i64 E, .int .i64 L], .int .i64 z] w fun x w' => x = .returned (.tuple #[.agg #[.int .i64 0, .int .i64 0], .int .i64 1]) ∧ Below w.heap.size w w' := by
  go_enter Try.func37, Try.ntmps37
  go_wp2_with fail
  refine (Right_c E L).mono ?_
  rintro x w1 ⟨rfl, hb1⟩
  have c0w1 : w1.cell? ⟨w.heap.size, 0, none⟩ = some (.int .i64 E) := (hb1.cell (p := ⟨w.heap.size, 0, none⟩) (by simp <;> omega)).trans (by simp [go_sem])
  have c1w1 : w1.cell? ⟨w.heap.size, 1, none⟩ = some (.int .i64 L) := (hb1.cell (p := ⟨w.heap.size, 1, none⟩) (by simp <;> omega)).trans (by simp [go_sem])
  have y0w1 : w1.cell? ⟨w.heap.size + 1, 0, none⟩ = some (.int .i64 0) := (hb1.cell (p := ⟨w.heap.size + 1, 0, none⟩) (by simp <;> omega)).trans (by simp [go_sem])
  have y1w1 : w1.cell? ⟨w.heap.size + 1, 1, none⟩ = some (.int .i64 0) := (hb1.cell (p := ⟨w.heap.size + 1, 1, none⟩) (by simp <;> omega)).trans (by simp [go_sem])
  have n0w1 : w1.cell? ⟨w.heap.size + 2, 0, none⟩ = some (.int .i64 z) := (hb1.cell (p := ⟨w.heap.size + 2, 0, none⟩) (by simp <;> omega)).trans (by simp [go_sem])
  have n1w1 : w1.cell? ⟨w.heap.size + 2, 1, none⟩ = some (.int .i64 L) := (hb1.cell (p := ⟨w.heap.size + 2, 1, none⟩) (by simp <;> omega)).trans (by simp [go_sem])
  have f0w1 : w1.frozen? ⟨w.heap.size + 1, 0, none⟩ = false := (hb1.frozen (p := ⟨w.heap.size + 1, 0, none⟩) (by simp <;> omega)).trans (by simp [go_sem])
  have f1w1 : w1.frozen? ⟨w.heap.size + 1, 1, none⟩ = false := (hb1.frozen (p := ⟨w.heap.size + 1, 1, none⟩) (by simp <;> omega)).trans (by simp [go_sem])
  have hB : Below w.heap.size w w1 := ((((Below.refl _ w).alloc (Nat.le_refl _) _).alloc (by simp) _).alloc (by simp; omega) _).trans (hb1.mono (by simp <;> omega))
  clear hb1
  go_wp2_with fail
  refine bodyPost_ret (v := .tuple #[.agg #[.int .i64 0, .int .i64 0], .int .i64 1]) (by simp [results, Try.results37, go_sem, y0w1, y1w1, f0w1, f1w1]) rfl ⟨rfl, ?_⟩
  exact (hB.setCell (p := ⟨w.heap.size + 1, 0, none⟩) (by simp) _).setCell (p := ⟨w.heap.size + 1, 1, none⟩) (by simp) _
set_option maxHeartbeats 4000000 in
set_option maxRecDepth 100000 in
theorem Turn_no2 {E L z : Int} {w : World} (h : rightN E L = true) (h' : rightN z L = false) :
    Calls Try.prog 37 #[.agg #[.int .i64 E, .int .i64 L], .int .i64 z] w fun x w' => x = .returned (.tuple #[.agg #[.int .i64 0, .int .i64 0], .int .i64 1]) ∧ Below w.heap.size w w' := by
  go_enter Try.func37, Try.ntmps37
  go_wp2_with fail
  refine (Right_c E L).mono ?_
  rintro x w1 ⟨rfl, hb1⟩
  have c0w1 : w1.cell? ⟨w.heap.size, 0, none⟩ = some (.int .i64 E) := (hb1.cell (p := ⟨w.heap.size, 0, none⟩) (by simp <;> omega)).trans (by simp [go_sem])
  have c1w1 : w1.cell? ⟨w.heap.size, 1, none⟩ = some (.int .i64 L) := (hb1.cell (p := ⟨w.heap.size, 1, none⟩) (by simp <;> omega)).trans (by simp [go_sem])
  have y0w1 : w1.cell? ⟨w.heap.size + 1, 0, none⟩ = some (.int .i64 0) := (hb1.cell (p := ⟨w.heap.size + 1, 0, none⟩) (by simp <;> omega)).trans (by simp [go_sem])
  have y1w1 : w1.cell? ⟨w.heap.size + 1, 1, none⟩ = some (.int .i64 0) := (hb1.cell (p := ⟨w.heap.size + 1, 1, none⟩) (by simp <;> omega)).trans (by simp [go_sem])
  have n0w1 : w1.cell? ⟨w.heap.size + 2, 0, none⟩ = some (.int .i64 z) := (hb1.cell (p := ⟨w.heap.size + 2, 0, none⟩) (by simp <;> omega)).trans (by simp [go_sem])
  have n1w1 : w1.cell? ⟨w.heap.size + 2, 1, none⟩ = some (.int .i64 L) := (hb1.cell (p := ⟨w.heap.size + 2, 1, none⟩) (by simp <;> omega)).trans (by simp [go_sem])
  have f0w1 : w1.frozen? ⟨w.heap.size + 1, 0, none⟩ = false := (hb1.frozen (p := ⟨w.heap.size + 1, 0, none⟩) (by simp <;> omega)).trans (by simp [go_sem])
  have f1w1 : w1.frozen? ⟨w.heap.size + 1, 1, none⟩ = false := (hb1.frozen (p := ⟨w.heap.size + 1, 1, none⟩) (by simp <;> omega)).trans (by simp [go_sem])
  go_wp2_with fail
  refine (Right_c z L).mono ?_
  rintro x w2 ⟨rfl, hb2⟩
  have c0w2 : w2.cell? ⟨w.heap.size, 0, none⟩ = some (.int .i64 E) := (hb2.cell (p := ⟨w.heap.size, 0, none⟩) (by have := hb1.size; simp at this ⊢; omega)).trans c0w1
  have c1w2 : w2.cell? ⟨w.heap.size, 1, none⟩ = some (.int .i64 L) := (hb2.cell (p := ⟨w.heap.size, 1, none⟩) (by have := hb1.size; simp at this ⊢; omega)).trans c1w1
  have y0w2 : w2.cell? ⟨w.heap.size + 1, 0, none⟩ = some (.int .i64 0) := (hb2.cell (p := ⟨w.heap.size + 1, 0, none⟩) (by have := hb1.size; simp at this ⊢; omega)).trans y0w1
  have y1w2 : w2.cell? ⟨w.heap.size + 1, 1, none⟩ = some (.int .i64 0) := (hb2.cell (p := ⟨w.heap.size + 1, 1, none⟩) (by have := hb1.size; simp at this ⊢; omega)).trans y1w1
  have n0w2 : w2.cell? ⟨w.heap.size + 2, 0, none⟩ = some (.int .i64 z) := (hb2.cell (p := ⟨w.heap.size + 2, 0, none⟩) (by have := hb1.size; simp at this ⊢; omega)).trans n0w1
  have n1w2 : w2.cell? ⟨w.heap.size + 2, 1, none⟩ = some (.int .i64 L) := (hb2.cell (p := ⟨w.heap.size + 2, 1, none⟩) (by have := hb1.size; simp at this ⊢; omega)).trans n1w1
  have f0w2 : w2.frozen? ⟨w.heap.size + 1, 0, none⟩ = false := (hb2.frozen (p := ⟨w.heap.size + 1, 0, none⟩) (by have := hb1.size; simp at this ⊢; omega)).trans f0w1
  have f1w2 : w2.frozen? ⟨w.heap.size + 1, 1, none⟩ = false := (hb2.frozen (p := ⟨w.heap.size + 1, 1, none⟩) (by have := hb1.size; simp at this ⊢; omega)).trans f1w1
  have hB : Below w.heap.size w w2 := (((((Below.refl _ w).alloc (Nat.le_refl _) _).alloc (by simp) _).alloc (by simp; omega) _).trans (hb1.mono (by simp <;> omega))).trans (hb2.mono (by have := hb1.size; simp at this; omega))
  clear hb1 hb2
  go_wp2_with fail
  refine bodyPost_ret (v := .tuple #[.agg #[.int .i64 0, .int .i64 0], .int .i64 1]) (by simp [results, Try.results37, go_sem, y0w2, y1w2, f0w2, f1w2]) rfl ⟨rfl, ?_⟩
  exact (hB.setCell (p := ⟨w.heap.size + 1, 0, none⟩) (by simp) _).setCell (p := ⟨w.heap.size + 1, 1, none⟩) (by simp) _
set_option maxHeartbeats 4000000 in
set_option maxRecDepth 100000 in
theorem Turn_no3 {E L z : Int} {w : World} (h : rightN E L = true) (h' : rightN z L = true) (hz : z < E) :
    Calls Try.prog 37 #[.agg #[.int .i64 E, .int .i64 L], .int .i64 z] w fun x w' => x = .returned (.tuple #[.agg #[.int .i64 0, .int .i64 0], .int .i64 1]) ∧ Below w.heap.size w w' := by
  go_enter Try.func37, Try.ntmps37
  go_wp2_with fail
  refine (Right_c E L).mono ?_
  rintro x w1 ⟨rfl, hb1⟩
  have c0w1 : w1.cell? ⟨w.heap.size, 0, none⟩ = some (.int .i64 E) := (hb1.cell (p := ⟨w.heap.size, 0, none⟩) (by simp <;> omega)).trans (by simp [go_sem])
  have c1w1 : w1.cell? ⟨w.heap.size, 1, none⟩ = some (.int .i64 L) := (hb1.cell (p := ⟨w.heap.size, 1, none⟩) (by simp <;> omega)).trans (by simp [go_sem])
  have y0w1 : w1.cell? ⟨w.heap.size + 1, 0, none⟩ = some (.int .i64 0) := (hb1.cell (p := ⟨w.heap.size + 1, 0, none⟩) (by simp <;> omega)).trans (by simp [go_sem])
  have y1w1 : w1.cell? ⟨w.heap.size + 1, 1, none⟩ = some (.int .i64 0) := (hb1.cell (p := ⟨w.heap.size + 1, 1, none⟩) (by simp <;> omega)).trans (by simp [go_sem])
  have n0w1 : w1.cell? ⟨w.heap.size + 2, 0, none⟩ = some (.int .i64 z) := (hb1.cell (p := ⟨w.heap.size + 2, 0, none⟩) (by simp <;> omega)).trans (by simp [go_sem])
  have n1w1 : w1.cell? ⟨w.heap.size + 2, 1, none⟩ = some (.int .i64 L) := (hb1.cell (p := ⟨w.heap.size + 2, 1, none⟩) (by simp <;> omega)).trans (by simp [go_sem])
  have f0w1 : w1.frozen? ⟨w.heap.size + 1, 0, none⟩ = false := (hb1.frozen (p := ⟨w.heap.size + 1, 0, none⟩) (by simp <;> omega)).trans (by simp [go_sem])
  have f1w1 : w1.frozen? ⟨w.heap.size + 1, 1, none⟩ = false := (hb1.frozen (p := ⟨w.heap.size + 1, 1, none⟩) (by simp <;> omega)).trans (by simp [go_sem])
  go_wp2_with fail
  refine (Right_c z L).mono ?_
  rintro x w2 ⟨rfl, hb2⟩
  have c0w2 : w2.cell? ⟨w.heap.size, 0, none⟩ = some (.int .i64 E) := (hb2.cell (p := ⟨w.heap.size, 0, none⟩) (by have := hb1.size; simp at this ⊢; omega)).trans c0w1
  have c1w2 : w2.cell? ⟨w.heap.size, 1, none⟩ = some (.int .i64 L) := (hb2.cell (p := ⟨w.heap.size, 1, none⟩) (by have := hb1.size; simp at this ⊢; omega)).trans c1w1
  have y0w2 : w2.cell? ⟨w.heap.size + 1, 0, none⟩ = some (.int .i64 0) := (hb2.cell (p := ⟨w.heap.size + 1, 0, none⟩) (by have := hb1.size; simp at this ⊢; omega)).trans y0w1
  have y1w2 : w2.cell? ⟨w.heap.size + 1, 1, none⟩ = some (.int .i64 0) := (hb2.cell (p := ⟨w.heap.size + 1, 1, none⟩) (by have := hb1.size; simp at this ⊢; omega)).trans y1w1
  have n0w2 : w2.cell? ⟨w.heap.size + 2, 0, none⟩ = some (.int .i64 z) := (hb2.cell (p := ⟨w.heap.size + 2, 0, none⟩) (by have := hb1.size; simp at this ⊢; omega)).trans n0w1
  have n1w2 : w2.cell? ⟨w.heap.size + 2, 1, none⟩ = some (.int .i64 L) := (hb2.cell (p := ⟨w.heap.size + 2, 1, none⟩) (by have := hb1.size; simp at this ⊢; omega)).trans n1w1
  have f0w2 : w2.frozen? ⟨w.heap.size + 1, 0, none⟩ = false := (hb2.frozen (p := ⟨w.heap.size + 1, 0, none⟩) (by have := hb1.size; simp at this ⊢; omega)).trans f0w1
  have f1w2 : w2.frozen? ⟨w.heap.size + 1, 1, none⟩ = false := (hb2.frozen (p := ⟨w.heap.size + 1, 1, none⟩) (by have := hb1.size; simp at this ⊢; omega)).trans f1w1
  have hB : Below w.heap.size w w2 := (((((Below.refl _ w).alloc (Nat.le_refl _) _).alloc (by simp) _).alloc (by simp; omega) _).trans (hb1.mono (by simp <;> omega))).trans (hb2.mono (by have := hb1.size; simp at this; omega))
  clear hb1 hb2
  go_wp2_with fail
  refine bodyPost_ret (v := .tuple #[.agg #[.int .i64 0, .int .i64 0], .int .i64 1]) (by simp [results, Try.results37, go_sem, y0w2, y1w2, f0w2, f1w2]) rfl ⟨rfl, ?_⟩
  exact (hB.setCell (p := ⟨w.heap.size + 1, 0, none⟩) (by simp) _).setCell (p := ⟨w.heap.size + 1, 1, none⟩) (by simp) _
set_option maxHeartbeats 4000000 in
set_option maxRecDepth 100000 in
theorem Turn_no4 {L z : Int} {w : World} (h : rightN z L = true) :
    Calls Try.prog 37 #[.agg #[.int .i64 z, .int .i64 L], .int .i64 z] w fun x w' => x = .returned (.tuple #[.agg #[.int .i64 0, .int .i64 0], .int .i64 1]) ∧ Below w.heap.size w w' := by
  go_enter Try.func37, Try.ntmps37
  go_wp2_with fail
  refine (Right_c z L).mono ?_
  rintro x w1 ⟨rfl, hb1⟩
  have c0w1 : w1.cell? ⟨w.heap.size, 0, none⟩ = some (.int .i64 z) := (hb1.cell (p := ⟨w.heap.size, 0, none⟩) (by simp <;> omega)).trans (by simp [go_sem])
  have c1w1 : w1.cell? ⟨w.heap.size, 1, none⟩ = some (.int .i64 L) := (hb1.cell (p := ⟨w.heap.size, 1, none⟩) (by simp <;> omega)).trans (by simp [go_sem])
  have y0w1 : w1.cell? ⟨w.heap.size + 1, 0, none⟩ = some (.int .i64 0) := (hb1.cell (p := ⟨w.heap.size + 1, 0, none⟩) (by simp <;> omega)).trans (by simp [go_sem])
  have y1w1 : w1.cell? ⟨w.heap.size + 1, 1, none⟩ = some (.int .i64 0) := (hb1.cell (p := ⟨w.heap.size + 1, 1, none⟩) (by simp <;> omega)).trans (by simp [go_sem])
  have n0w1 : w1.cell? ⟨w.heap.size + 2, 0, none⟩ = some (.int .i64 z) := (hb1.cell (p := ⟨w.heap.size + 2, 0, none⟩) (by simp <;> omega)).trans (by simp [go_sem])
  have n1w1 : w1.cell? ⟨w.heap.size + 2, 1, none⟩ = some (.int .i64 L) := (hb1.cell (p := ⟨w.heap.size + 2, 1, none⟩) (by simp <;> omega)).trans (by simp [go_sem])
  have f0w1 : w1.frozen? ⟨w.heap.size + 1, 0, none⟩ = false := (hb1.frozen (p := ⟨w.heap.size + 1, 0, none⟩) (by simp <;> omega)).trans (by simp [go_sem])
  have f1w1 : w1.frozen? ⟨w.heap.size + 1, 1, none⟩ = false := (hb1.frozen (p := ⟨w.heap.size + 1, 1, none⟩) (by simp <;> omega)).trans (by simp [go_sem])
  go_wp2_with fail
  refine (Right_c z L).mono ?_
  rintro x w2 ⟨rfl, hb2⟩
  have c0w2 : w2.cell? ⟨w.heap.size, 0, none⟩ = some (.int .i64 z) := (hb2.cell (p := ⟨w.heap.size, 0, none⟩) (by have := hb1.size; simp at this ⊢; omega)).trans c0w1
  have c1w2 : w2.cell? ⟨w.heap.size, 1, none⟩ = some (.int .i64 L) := (hb2.cell (p := ⟨w.heap.size, 1, none⟩) (by have := hb1.size; simp at this ⊢; omega)).trans c1w1
  have y0w2 : w2.cell? ⟨w.heap.size + 1, 0, none⟩ = some (.int .i64 0) := (hb2.cell (p := ⟨w.heap.size + 1, 0, none⟩) (by have := hb1.size; simp at this ⊢; omega)).trans y0w1
  have y1w2 : w2.cell? ⟨w.heap.size + 1, 1, none⟩ = some (.int .i64 0) := (hb2.cell (p := ⟨w.heap.size + 1, 1, none⟩) (by have := hb1.size; simp at this ⊢; omega)).trans y1w1
  have n0w2 : w2.cell? ⟨w.heap.size + 2, 0, none⟩ = some (.int .i64 z) := (hb2.cell (p := ⟨w.heap.size + 2, 0, none⟩) (by have := hb1.size; simp at this ⊢; omega)).trans n0w1
  have n1w2 : w2.cell? ⟨w.heap.size + 2, 1, none⟩ = some (.int .i64 L) := (hb2.cell (p := ⟨w.heap.size + 2, 1, none⟩) (by have := hb1.size; simp at this ⊢; omega)).trans n1w1
  have f0w2 : w2.frozen? ⟨w.heap.size + 1, 0, none⟩ = false := (hb2.frozen (p := ⟨w.heap.size + 1, 0, none⟩) (by have := hb1.size; simp at this ⊢; omega)).trans f0w1
  have f1w2 : w2.frozen? ⟨w.heap.size + 1, 1, none⟩ = false := (hb2.frozen (p := ⟨w.heap.size + 1, 1, none⟩) (by have := hb1.size; simp at this ⊢; omega)).trans f1w1
  have hB : Below w.heap.size w w2 := (((((Below.refl _ w).alloc (Nat.le_refl _) _).alloc (by simp) _).alloc (by simp; omega) _).trans (hb1.mono (by simp <;> omega))).trans (hb2.mono (by have := hb1.size; simp at this; omega))
  clear hb1 hb2
  go_wp2_with fail
  refine bodyPost_ret (v := .tuple #[.agg #[.int .i64 0, .int .i64 0], .int .i64 1]) (by simp [results, Try.results37, go_sem, y0w2, y1w2, f0w2, f1w2]) rfl ⟨rfl, ?_⟩
  exact (hB.setCell (p := ⟨w.heap.size + 1, 0, none⟩) (by simp) _).setCell (p := ⟨w.heap.size + 1, 1, none⟩) (by simp) _
end Go.Proofs.Ytlaoodlfkcnnnaa.NonceD
