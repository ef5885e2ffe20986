/- The contract of word.Fill: bytes filled up with noughts, in memory of its own; or the size may not be. -/
import Derived.Test.YtlaoodlfkcnnnaaWordC
import Derived.Test.YtlaoodlfkcnnnaaPlainWordFills
import Derived.Laws.MakeOwn
namespace Go.Proofs.Ytlaoodlfkcnnnaa.FillC
open Go.RowKit Go.Proofs.YtlaoodlfkcnnnaaW.PrintWords Go.Proofs.Ytlaoodlfkcnnnaa.Num Go.Proofs.Ytlaoodlfkcnnnaa.WordC
set_option linter.unusedVariables false

theorem infoU8 : (Try.prog.info? 5).map (fun i => (i.zero, i.size, i.bytes)) = some (some (.int .u8 0), 1, 1) := by kernel_rfl
theorem sizeU8 : (Try.prog.info? 5).map (·.size) = some 1 := by kernel_rfl
/-- A made slice of bytes. -/
theorem ow_made (W : World) (base m : Nat) (hb : base ≤ W.heap.size) (hm : m ≤ 9223372036854775807) :
    Ow (W.alloc (.cells (madeCells #[.int .u8 0] m) 5)) base (.slice (some ⟨W.heap.size, 0, none⟩) m m) (List.replicate m 0) := by
  refine Kd.R_of_own ?_ (fun _ _ => trivial)
  have := own_made W base 5 .u8 m hb hm
  simpa [encs, nums] using this
theorem Fill_no {A : Option Addr} {n c : Nat} {w : World} {z : Int} (hz : z < 1 ∨ 4096 < z) :
    Calls Try.prog 25 #[.slice A n c, .int .i64 z] w fun e w' => e = .returned (.tuple #[.slice none 0 0, .int .i64 1]) ∧ w = w' := by
  by_cases h1 : z < 1
  · go_enter Try.func25, Try.ntmps25
    go_wp2_with fail
    go_ret2
    exact ⟨rfl, rfl⟩
  · have h2 : 4096 < z := by omega
    go_enter Try.func25, Try.ntmps25
    go_wp2_with fail
    go_ret2
    exact ⟨rfl, rfl⟩
set_option maxHeartbeats 1000000 in
theorem Fill_yes {A : Option Addr} {n c : Nat} {l : List Int} {w : World} (hr : Rd w A n c l) (hn : n ≤ 140737488351232) (s : Nat) {z : Int} (hz : z = s) (h1 : 1 ≤ s) (h2 : s ≤ 4096) :
    Calls Try.prog 25 #[.slice A n c, .int .i64 z] w fun e w' => ∃ v, e = .returned (.tuple #[v, .int .i64 0]) ∧ Ow w' w.heap.size v (filled l s) ∧ Below w.heap.size w w' := by
  subst hz
  have hp := pad_int n s h1
  have hpl := pad_lt n s h1
  have b1 : (1 : Int) ≤ s := by omega
  have b2 : (s : Int) ≤ 4096 := by omega
  have b3 : 0 ≤ (n : Int) % (s : Int) := Int.emod_nonneg _ (by omega)
  have b4 : (n : Int) % (s : Int) < s := Int.emod_lt_of_pos _ (by omega)
  have b5 : (0 : Int) ≤ (pad n s : Nat) := by omega
  have b6 : ((pad n s : Nat) : Int) ≤ 4096 := by omega
  have hp' : -((n : Int) % (s : Int)) % (s : Int) = (pad n s : Nat) := by rw [← hp, Int.sub_eq_add_neg, Int.add_emod_left]
  have hmk : ∀ W : World, (Instr.makeSlice 22 (.int .i64 ((n : Int) + ((pad n s : Nat) : Int))) (.int .i64 ((n : Int) + ((pad n s : Nat) : Int)))).run Try.prog W = .ok (.slice (some ⟨W.heap.size, 0, none⟩) (n + pad n s) (n + pad n s)) (W.alloc (.cells (madeCells #[.int .u8 0] (n + pad n s)) 5)) := by
    rw [show (n : Int) + ((pad n s : Nat) : Int) = ((n + pad n s : Nat) : Int) by omega]
    exact print_make 22 5 .u8 1 Try.underlying22 infoU8 (by omega) (n + pad n s) (by omega)
  go_enter Try.func25, Try.ntmps25
  go_wp2_with (refine Kd.R_copy (0 : Int) w.heap.size rfl (.tmp 27) (.tmp 28) 22 22 5 rfl Try.underlying22 sizeU8 _ (List.replicate (n + pad n s) 0) l _ n _ (fun _ => True) rfl rfl (ow_made w w.heap.size _ (Nat.le_refl _) (by omega)) (hr.alloc _).cells ((Below.refl _ w).alloc (Nat.le_refl _) _) (by simp) ?_; intro w1 hR hB1 _)
  go_ret2
  refine ⟨_, rfl, ?_, hB1⟩
  have e : l.take (min n (List.replicate (n + pad n s) (0 : Int)).length) ++ (List.replicate (n + pad n s) (0 : Int)).drop (min n (List.replicate (n + pad n s) (0 : Int)).length) = filled l s := by
    have hl := hr.len
    rw [List.length_replicate, Nat.min_eq_left (by omega), List.take_of_length_le (by omega), List.drop_replicate]
    unfold filled
    rw [hl, show n + pad n s - n = pad n s by omega]
  rw [← e]; exact hR
theorem refFill_yes {A : Option Addr} {n c : Nat} {l : List Int} {w : World} (hr : Rd w A n c l) (hn : n ≤ 140737488351232) (s : Nat) {z : Int} (hz : z = s) (h1 : 1 ≤ s) (h2 : s ≤ 4096) :
    Calls Try.prog 26 #[.slice A n c, .int .i64 z] w fun e w' => ∃ v, e = .returned (.tuple #[v, .int .i64 0]) ∧ Ow w' w.heap.size v (filled l s) ∧ Below w.heap.size w w' := by
  subst hz
  obtain ⟨rfl, hc, hC⟩ := hr
  exact PWordFills.hypogeumref01_Fill.calls 4100 A c l s _ _ w hC hc (PlainWordFills.refFill_eq l hn s h1 h2 4100 (by omega))
theorem refFill_no {A : Option Addr} {n c : Nat} {l : List Int} {w : World} (hr : Rd w A n c l) {z : Int} (hz : z < 1 ∨ 4096 < z) :
    Calls Try.prog 26 #[.slice A n c, .int .i64 z] w fun e w' => ∃ v, e = .returned (.tuple #[v, .int .i64 1]) ∧ Ow w' w.heap.size v [] ∧ Below w.heap.size w w' := by
  obtain ⟨rfl, hc, hC⟩ := hr
  exact PWordFills.hypogeumref01_Fill.calls 1 A c l z _ _ w hC hc (PlainWordFills.refFill_no l z hz)
end Go.Proofs.Ytlaoodlfkcnnnaa.FillC
