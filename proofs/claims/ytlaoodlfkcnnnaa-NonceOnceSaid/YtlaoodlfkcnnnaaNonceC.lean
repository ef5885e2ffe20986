/- Contracts of the nonce functions. -/
import Derived.Test.YtlaoodlfkcnnnaaFillC
import Derived.Test.YtlaoodlfkcnnnaaArr
import Derived.Test.YtlaoodlfkcnnnaaPNonceTakesx2
import Derived.Laws.CopyOwn
import Derived.Deep.RegionHeld3
import Derived.Deep.RegionLaw
import Derived.Outline
namespace Go.Proofs.Ytlaoodlfkcnnnaa.NonceC
open Go.RowKit Go.Proofs.YtlaoodlfkcnnnaaW.PrintWords Go.Proofs.Ytlaoodlfkcnnnaa.Num Go.Proofs.Ytlaoodlfkcnnnaa.WordC Go.Proofs.Ytlaoodlfkcnnnaa.FillC Go.Proofs.Ytlaoodlfkcnnnaa.Arr
set_option linter.unusedVariables false

/-- May an epoch and a number be a counter? -/
def rightN (e n : Int) : Bool := decide (0 ≤ e) && decide (e ≤ 64) && decide (0 ≤ n) && decide (n ≤ 1099511627776)
theorem Right_c (e n : Int) {w : World} : Calls Try.prog 30 #[.agg #[.int .i64 e, .int .i64 n]] w fun x w' => x = .returned (.bool (rightN e n)) ∧ Below w.heap.size w w' := by
  refine PNonceTakes.nonce_Counter_Right.calls e n _ w ?_
  unfold PNonceTakes.nonce_Counter_Right.f rightN
  by_cases h1 : e ≥ 0 <;> by_cases h2 : e ≤ 64 <;> by_cases h3 : n ≥ 0 <;> simp [h1, h2, h3] <;> omega
def nonceW (e n : Int) : List Int := told 4 e ++ told 8 n
theorem nonceW_length (e n : Int) : (nonceW e n).length = 12 := by simp [nonceW, told_length]
theorem nonceW_isB (e n : Int) : IsB (nonceW e n) := by
  intro x hx
  rcases List.mem_append.1 hx with h | h
  · exact told_isB 4 e x h
  · exact told_isB 8 n x h
theorem cur2 (e n : Int) : (nums .u8 (told 4 e ++ List.replicate 8 0)).take 4 ++ nums .u8 (told 8 n) ++ (nums .u8 (told 4 e ++ List.replicate 8 0)).drop (4 + 8) = nums .u8 (nonceW e n) := by
  have h4 := told_length 4 e
  unfold nums nonceW
  rw [← List.map_take, ← List.map_drop, ← List.map_append, ← List.map_append, List.take_append_of_le_length (by omega), List.take_of_length_le (by omega), List.drop_of_length_le (by simp [told_length])]
  simp
set_option maxHeartbeats 4000000 in
set_option maxRecDepth 100000 in
theorem Of_yes {e n : Int} {w : World} (he : 0 ≤ e) (he' : e ≤ 64) (hn : 0 ≤ n) (hn' : n ≤ 1099511627776) (hr : rightN e n = true) :
    Calls Try.prog 38 #[.int .i64 e, .int .i64 n] w fun x w' => ∃ g, x = .returned (.tuple #[.slice (some ⟨g, 0, none⟩) 12 12, .int .i64 0]) ∧ w.heap.size ≤ g ∧ w'.heap[g]? = some (.cells (nums .u8 (nonceW e n)).toArray 68 (0, 0)) ∧ Below w.heap.size w w' := by
  go_enter Try.func38, Try.ntmps38
  go_wp2_with fail
  refine (Right_c e n).mono ?_
  rintro x w1 ⟨rfl, hb1⟩
  go_wp2_with fail
  have hG : (w1.alloc (Obj.cells #[.int .u8 0, .int .u8 0, .int .u8 0, .int .u8 0, .int .u8 0, .int .u8 0, .int .u8 0, .int .u8 0, .int .u8 0, .int .u8 0, .int .u8 0, .int .u8 0] 68)).heap[w1.heap.size]? = some (.cells (nums .u8 (List.replicate 12 0)).toArray 68 (0, 0)) := heap_alloc_new _ _
  have hB2 : Below w.heap.size w (w1.alloc (Obj.cells #[.int .u8 0, .int .u8 0, .int .u8 0, .int .u8 0, .int .u8 0, .int .u8 0, .int .u8 0, .int .u8 0, .int .u8 0, .int .u8 0, .int .u8 0, .int .u8 0] 68)) := hb1.alloc hb1.size _
  generalize w1.alloc _ = w2 at hG hB2 ⊢
  have hg1 := hb1.size
  generalize w1.heap.size = g at hG hg1 ⊢
  have hlt := Blk.lt hG
  have HG := Aside0.mk hG
  clear hG hb1
  have hw32 : IntKind.u32.wrap e = e := IntWalk.u32_in e (by omega)
  have hw64 : IntKind.u64.wrap n = n := IntWalk.u64_in n (by omega)
  have l1 := storeW_length e false
  have l2 := told_length 8 n
  have L1 := Aside0.mk l1
  have L2 := Aside0.mk l2
  clear l1 l2
  go_region_held3 (fun _ => True) (exact trivial)
    (first
     | (go_at_call 33; (with_reducible refine (Store_c he (by omega) false).mono ?_); rintro x w3 ⟨v3, rfl, ho3, hb3⟩; obtain ⟨A3, c3, rfl, hx3⟩ := rd_of_own ho3)
     | (have hx4 := hx3; have e1 : (storeW e false).length ≤ 4 := Nat.le_of_eq L1.out; have e2 : 0 + (storeW e false).length ≤ (nums .u8 (List.replicate 12 0)).length := (by rw [L1.out, nums_length, List.length_replicate]; omega); have e3 : Blk w3 g 68 (nums .u8 (List.replicate 12 0)) := Blk.below (w := w2.drew) HG.out hb3; refine step_copy_blk rfl (.tmp 12) (.tmp 15) 22 22 rfl 5 Try.underlying22 sizeU8 g 0 4 12 A3 (storeW e false).length c3 rfl rfl (nums .u8 (List.replicate 12 0)) 68 e3 (storeW e false) hx4 e1 e2 ?_; clear e1 e2 e3 hx4; intro w4 hG4 hg4))
  have hB4 : Below w.heap.size w w4 := (below_next hB2.drew hb3).grown hg4 (below_next hB2.drew hb3).size (fun k hk => by cases hk; exact hg1)
  rw [L1.out] at hG4
  have hcur : (nums .u8 (List.replicate 12 0)).take 0 ++ nums .u8 (storeW e false) ++ (nums .u8 (List.replicate 12 0)).drop (0 + 4) = nums .u8 (told 4 e ++ List.replicate 8 0) := by simp [nums, storeW]
  rw [hcur] at hG4
  have HG4 := Aside0.mk hG4
  clear hG4 HG hx3 ho3 hcur
  go_wp2_with fail
  go_region_held3 (fun _ => True) (exact trivial)
    (first
     | (go_at_call 35; (with_reducible refine (Tell_c hn (by omega)).mono ?_); rintro x w5 ⟨v5, rfl, ho5, hb5⟩; obtain ⟨A5, c5, rfl, hx5⟩ := rd_of_own ho5)
     | (have hx6 := hx5; have e1 : (told 8 n).length ≤ 8 := Nat.le_of_eq L2.out; have e2 : 4 + (told 8 n).length ≤ (nums .u8 (told 4 e ++ List.replicate 8 0)).length := (by rw [L2.out, nums_length, List.length_append, told_length, List.length_replicate]; omega); have e3 : Blk w5 g 68 (nums .u8 (told 4 e ++ List.replicate 8 0)) := Blk.below (w := w4.drew) HG4.out hb5; refine step_copy_blk rfl (.tmp 17) (.tmp 20) 22 22 rfl 5 Try.underlying22 sizeU8 g 4 8 8 A5 (told 8 n).length c5 rfl rfl (nums .u8 (told 4 e ++ List.replicate 8 0)) 68 e3 (told 8 n) hx6 e1 e2 ?_; clear e1 e2 e3 hx6; intro w6 hG6 hg6))
  have hB6 : Below w.heap.size w w6 := (below_next hB4.drew hb5).grown hg6 (below_next hB4.drew hb5).size (fun k hk => by cases hk; exact hg1)
  rw [L2.out] at hG6
  have hcur : (nums .u8 (told 4 e ++ List.replicate 8 0)).take 4 ++ nums .u8 (told 8 n) ++ (nums .u8 (told 4 e ++ List.replicate 8 0)).drop (4 + 8) = nums .u8 (nonceW e n) := cur2 e n
  rw [hcur] at hG6
  have HG6 := Aside0.mk hG6
  clear hG6 HG4 hx5 ho5 hcur
  go_wp2_with fail
  go_ret2
  exact ⟨g, rfl, hg1, HG6.out, hB6⟩
theorem Of_no {e n : Int} {w : World} (hr : rightN e n = false) :
    Calls Try.prog 38 #[.int .i64 e, .int .i64 n] w fun x w' => x = .returned (.tuple #[.slice none 0 0, .int .i64 1]) ∧ Below w.heap.size w w' := by
  go_enter Try.func38, Try.ntmps38
  go_wp2_with fail
  refine (Right_c e n).mono ?_
  rintro x w1 ⟨rfl, hb1⟩
  go_wp2_with fail
  go_ret2
  exact ⟨rfl, hb1⟩
theorem refRight_c (e n : Int) {w : World} : Calls Try.prog 31 #[.int .i64 e, .int .i64 n] w fun x w' => x = .returned (.bool (rightN e n)) ∧ Drawn0 w w' := by
  refine PNonceTakes.hypogeumref10_Right.calls e n _ w ?_
  unfold PNonceTakes.hypogeumref10_Right.f rightN
  by_cases h1 : e ≥ 0 <;> by_cases h2 : e ≤ 64 <;> by_cases h3 : n ≥ 0 <;> simp [h1, h2, h3] <;> omega
theorem rightN_iff {e n : Int} : rightN e n = true ↔ 0 ≤ e ∧ e ≤ 64 ∧ 0 ≤ n ∧ n ≤ 1099511627776 := by
  simp [rightN, and_assoc]
end Go.Proofs.Ytlaoodlfkcnnnaa.NonceC
