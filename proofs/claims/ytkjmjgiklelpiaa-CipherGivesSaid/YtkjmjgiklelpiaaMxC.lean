/- Mix for any input. -/
import Derived.Test.YtkjmjgiklelpiaaApp
import Derived.Test.YtkjmjgiklelpiaaQuart
import Derived.Test.YtkjmjgiklelpiaaPlainCipherBlocks
import Derived.Deep.RegionHeld3
import Derived.Deep.Cut
import Derived.Deep.CutRange
import Derived.Test.YtkjmjgiklelpiaaMxB
namespace Go.Proofs.Ytkjmjgiklelpiaa.MxC
open Go.RowKit Go.Proofs.YtkjmjgiklelpiaaW.PrintWords Go.Proofs.Ytkjmjgiklelpiaa.Num Go.Proofs.Ytkjmjgiklelpiaa.WordC Go.Proofs.Ytkjmjgiklelpiaa.Arr Go.Proofs.Ytkjmjgiklelpiaa.App Go.Proofs.Ytkjmjgiklelpiaa.CiC Go.Proofs.Ytkjmjgiklelpiaa.CiD Go.Proofs.Ytkjmjgiklelpiaa.CiB Go.Proofs.Ytkjmjgiklelpiaa.CiK Go.Proofs.Ytkjmjgiklelpiaa.CiL Go.Proofs.Ytkjmjgiklelpiaa.CiM Go.Proofs.Ytkjmjgiklelpiaa.Rz Go.Proofs.Ytkjmjgiklelpiaa.ItA Go.Proofs.Ytkjmjgiklelpiaa.MxA Go.Proofs.Ytkjmjgiklelpiaa.MxB
set_option linter.unusedVariables false
set_option linter.unusedSimpArgs false

theorem below_drewN (n : Nat) (w : World) : Below w.heap.size w (w.drewN n) := pw_below_drewN (Below.refl _ _) n
set_option maxHeartbeats 8000000 in
set_option maxRecDepth 100000 in
theorem refMix_no {A B C : Option Addr} {q c r d e n : Nat} {m : Int} {k o : List Int} {w : World} (hk : Rd w A q c k) (ho : Rd w B r d o) (h : rightC q r = false) :
    Calls Try.prog 24 #[.slice A q c, .slice B r d, .int .u32 m, .slice C n e] w fun x w' => x = .returned (.tuple #[.slice none 0 0, .int .i64 1]) ∧ Below w.heap.size w w' := by
  have HK := Aside0.mk hk
  have HO := Aside0.mk ho
  clear hk ho
  go_enter Try.func24, Try.ntmps24
  go_wp2_with fail
  refine (refRight_c HK.out HO.out).mono ?_
  rintro x w1 ⟨rfl, ⟨n1, rfl⟩⟩
  have HB := Aside0.mk (below_drewN n1 w)
  rw [h]
  go_wp2_with fail
  go_ret2
  exact ⟨rfl, HB.out⟩
set_option maxHeartbeats 8000000 in
set_option maxRecDepth 100000 in
theorem refMix_cap {A B C : Option Addr} {c d e n : Nat} {m : Int} {k o : List Int} {w : World} (hk : Rd w A 32 c k) (ho : Rd w B 12 d o) (h0 : 0 ≤ m) (h1 : m < 4294967296) (hn : n ≤ 1000000) (hcap : ¬ (n : Int) ≤ (4294967296 - m) * 64) :
    Calls Try.prog 24 #[.slice A 32 c, .slice B 12 d, .int .u32 m, .slice C n e] w fun x w' => x = .returned (.tuple #[.slice none 0 0, .int .i64 10]) ∧ Below w.heap.size w w' := by
  have HK := Aside0.mk hk
  have HO := Aside0.mk ho
  clear hk ho
  have hrc : rightC 32 12 = true := rfl
  obtain ⟨qn, HQN⟩ : ∃ z, Aside0 (n / 64 = z) := ⟨_, ⟨rfl⟩⟩
  obtain ⟨rn, HRN⟩ : ∃ z, Aside0 (n % 64 = z) := ⟨_, ⟨rfl⟩⟩
  have e1 : Int.tdiv (n : Int) 64 = (qn : Int) := by rw [Int.tdiv_eq_ediv_of_nonneg (by omega)]; have := HQN.out; omega
  have e2 : Int.tmod (n : Int) 64 = (rn : Int) := by rw [Int.tmod_eq_emod_of_nonneg (by omega)]; have := HRN.out; omega
  have e9 : qn ≤ 20000 := by have := HQN.out; omega
  by_cases hr : 0 < rn
  · have hr' : (0 : Int) < (rn : Int) := by omega
    have hc : 4294967296 - m < (qn : Int) + 1 := by have := HQN.out; have := HRN.out; omega
    go_enter Try.func24, Try.ntmps24
    go_wp2_with fail
    refine (refRight_c HK.out HO.out).mono ?_
    rintro x w1 ⟨rfl, ⟨n1, rfl⟩⟩
    have HB := Aside0.mk (below_drewN n1 w)
    rw [hrc]
    go_wp2_with fail
    go_ret2
    exact ⟨rfl, HB.out⟩
  · have hr' : ¬ (0 : Int) < (rn : Int) := by omega
    have hc : 4294967296 - m < (qn : Int) := by have := HQN.out; have := HRN.out; omega
    go_enter Try.func24, Try.ntmps24
    go_wp2_with fail
    refine (refRight_c HK.out HO.out).mono ?_
    rintro x w1 ⟨rfl, ⟨n1, rfl⟩⟩
    have HB := Aside0.mk (below_drewN n1 w)
    rw [hrc]
    go_wp2_with fail
    go_ret2
    exact ⟨rfl, HB.out⟩
/-! ### for any input -/
/-- What Mix says of any input. -/
def codeM (q r : Nat) (m : Int) (n : Nat) : Int := if rightC q r then (if (n : Int) ≤ (4294967296 - m) * 64 then 0 else 10) else 1
def outM (k o : List Int) (m : Int) (b : List Int) : List Int := if codeM k.length o.length m b.length = 0 then mixT (ks (g0S k o) m) b b.length else []
theorem codeM_z {q r n : Nat} {m : Int} : codeM q r m n = 0 ↔ rightC q r = true ∧ (n : Int) ≤ (4294967296 - m) * 64 := by
  unfold codeM
  split
  · split <;> simp_all
  · simp_all
theorem rightC_iff {q r : Nat} : rightC q r = true ↔ q = 32 ∧ r = 12 := by simp [rightC]
theorem outM_length (k o : List Int) (m : Int) (b : List Int) : (outM k o m b).length = if codeM k.length o.length m b.length = 0 then b.length else 0 := by
  unfold outM
  split
  · rw [mixT_length]
  · rfl
theorem outM_isB {k o b : List Int} {m : Int} (hb : IsB b) : IsB (outM k o m b) := by
  unfold outM
  split
  · exact mixT_isB hb (ks_isB _ _) _
  · intro x hx; cases hx
theorem Mix_u {A B C : Option Addr} {q c r d e n : Nat} {k o b : List Int} {m : Int} {w : World} (hk : Rd w A q c k) (ho : Rd w B r d o) (hb : Rd w C n e b) (bk : IsB k) (bo : IsB o) (bb : IsB b) (h0 : 0 ≤ m) (h1 : m < 4294967296) (hn : n ≤ 1000000) :
    Calls Try.prog 23 #[.slice A q c, .slice B r d, .int .u32 m, .slice C n e] w fun x w' => ∃ v, x = .returned (.tuple #[v, .int .i64 (codeM q r m n)]) ∧ Ow w' w.heap.size v (outM k o m b) ∧ Below w.heap.size w w' := by
  obtain rfl : q = k.length := hk.len.symm
  obtain rfl : r = o.length := ho.len.symm
  obtain rfl : n = b.length := hb.len.symm
  unfold outM
  by_cases hr : rightC k.length o.length = true
  · obtain ⟨e1, e2⟩ := rightC_iff.1 hr
    by_cases hc : (b.length : Int) ≤ (4294967296 - m) * 64
    · have hz : codeM k.length o.length m b.length = 0 := codeM_z.2 ⟨hr, hc⟩
      rw [if_pos hz, hz]
      rw [e1] at hk ⊢
      rw [e2] at ho ⊢
      exact Mix_c hk ho hb bk bo bb h0 h1 hn hc
    · have hz : codeM k.length o.length m b.length = 10 := by unfold codeM; rw [if_pos hr, if_neg hc]
      rw [if_neg (by rw [hz]; decide), hz, e1, e2]
      exact (Mix_cap h0 h1 hn hc).mono fun x w' h => ⟨_, h.1, Kd.R_nil _ _ _ _ _, by rw [h.2]; exact Below.refl _ _⟩
  · have hz : codeM k.length o.length m b.length = 1 := by unfold codeM; rw [if_neg hr]
    rw [if_neg (by rw [hz]; decide), hz]
    exact (Mix_no (by simpa using hr)).mono fun x w' h => ⟨_, h.1, Kd.R_nil _ _ _ _ _, by rw [h.2]; exact Below.refl _ _⟩
theorem refMix_u {A B C : Option Addr} {q c r d e n : Nat} {k o b : List Int} {m : Int} {w : World} (hk : Rd w A q c k) (ho : Rd w B r d o) (hb : Rd w C n e b) (bk : IsB k) (bo : IsB o) (bb : IsB b) (h0 : 0 ≤ m) (h1 : m < 4294967296) (hn : n ≤ 1000000) :
    Calls Try.prog 24 #[.slice A q c, .slice B r d, .int .u32 m, .slice C n e] w fun x w' => ∃ v, x = .returned (.tuple #[v, .int .i64 (codeM q r m n)]) ∧ Ow w' w.heap.size v (outM k o m b) ∧ Below w.heap.size w w' := by
  obtain rfl : q = k.length := hk.len.symm
  obtain rfl : r = o.length := ho.len.symm
  obtain rfl : n = b.length := hb.len.symm
  unfold outM
  by_cases hr : rightC k.length o.length = true
  · obtain ⟨e1, e2⟩ := rightC_iff.1 hr
    by_cases hc : (b.length : Int) ≤ (4294967296 - m) * 64
    · have hz : codeM k.length o.length m b.length = 0 := codeM_z.2 ⟨hr, hc⟩
      rw [if_pos hz, hz]
      rw [e1] at hk ⊢
      rw [e2] at ho ⊢
      exact refMix_c hk ho hb bk bo bb h0 h1 hn hc
    · have hz : codeM k.length o.length m b.length = 10 := by unfold codeM; rw [if_pos hr, if_neg hc]
      rw [if_neg (by rw [hz]; decide), hz]
      rw [e1] at hk ⊢
      rw [e2] at ho ⊢
      exact (refMix_cap hk ho h0 h1 hn hc).mono fun x w' h => ⟨_, h.1, Kd.R_nil _ _ _ _ _, h.2⟩
  · have hz : codeM k.length o.length m b.length = 1 := by unfold codeM; rw [if_neg hr]
    rw [if_neg (by rw [hz]; decide), hz]
    exact (refMix_no hk ho (by simpa using hr)).mono fun x w' h => ⟨_, h.1, Kd.R_nil _ _ _ _ _, h.2⟩
/-! ### twice, and in parts -/
theorem xor_nat (a c : Nat) (ha : a < 256) (hc : c < 256) : Go.bits .xor .u8 (a : Int) (c : Int) = ((a ^^^ c : Nat) : Int) := by
  have h : a ^^^ c < 2 ^ 8 := Nat.xor_lt_two_pow (show a < 2 ^ 8 by omega) (show c < 2 ^ 8 by omega)
  have h' : a ^^^ c < 256 := by omega
  have e : Go.bits .xor .u8 (a : Int) (c : Int) = IntKind.u8.wrap ((BitVec.ofInt 8 (a : Int) ^^^ BitVec.ofInt 8 (c : Int)).toNat : Int) := rfl
  rw [e, BitVec.toNat_xor, BitVec.ofInt_natCast, BitVec.ofInt_natCast, BitVec.toNat_ofNat, BitVec.toNat_ofNat, Nat.mod_eq_of_lt (show a < 2 ^ 8 by omega), Nat.mod_eq_of_lt (show c < 2 ^ 8 by omega)]
  show ((a ^^^ c : Nat) : Int) % 256 = _
  generalize a ^^^ c = z at h'
  omega
theorem xor_back {x y : Int} (hx : 0 ≤ x ∧ x < 256) (hy : 0 ≤ y ∧ y < 256) : Go.bits .xor .u8 (Go.bits .xor .u8 x y) y = x := by
  obtain ⟨a, rfl⟩ := Int.eq_ofNat_of_zero_le hx.1
  obtain ⟨c, rfl⟩ := Int.eq_ofNat_of_zero_le hy.1
  have ha : a < 256 := by omega
  have hc : c < 256 := by omega
  have h : a ^^^ c < 2 ^ 8 := Nat.xor_lt_two_pow (show a < 2 ^ 8 by omega) (show c < 2 ^ 8 by omega)
  have h' : a ^^^ c < 256 := by omega
  rw [xor_nat a c ha hc, xor_nat _ c h' hc, Nat.xor_assoc, Nat.xor_self, Nat.xor_zero]
theorem mixT_twice {f : Nat → Int} {b : List Int} (hb : IsB b) (hf : ∀ i, 0 ≤ f i ∧ f i < 256) : mixT f (mixT f b b.length) b.length = b := by
  apply List.ext_getElem
  · rw [mixT_length, mixT_length]
  · intro i h1 h2
    have e1 := mixT_get f (mixT f b b.length) b.length i (by rw [mixT_length]; exact Nat.le_refl _)
    rw [if_pos h2, mixT_get f b b.length i (Nat.le_refl _), if_pos h2, xor_back (getDB hb i) (hf i)] at e1
    rw [List.getD_eq_getElem?_getD, List.getElem?_eq_getElem h1, List.getD_eq_getElem?_getD, List.getElem?_eq_getElem h2] at e1
    exact e1
theorem ks_shift (G : List Int) (m : Int) (k i : Nat) : ks G (m + (k : Int)) i = ks G m (64 * k + i) := by
  unfold ks
  rw [show (64 * k + i) / 64 = k + i / 64 by omega, show (64 * k + i) % 64 = i % 64 by omega, Int.natCast_add, Int.add_assoc]
theorem getD_drop_take (b : List Int) (s t i : Nat) (h : s + i < t) : ((b.take t).drop s).getD i 0 = b.getD (s + i) 0 := by
  rw [List.getD_eq_getElem?_getD, List.getElem?_drop, List.getElem?_take_of_lt h, ← List.getD_eq_getElem?_getD]
theorem mixT_part {G b : List Int} {m : Int} (k t : Nat) (ht : t ≤ b.length) (hk : 64 * k ≤ t) : mixT (ks G (m + (k : Int))) ((b.take t).drop (64 * k)) (t - 64 * k) = ((mixT (ks G m) b b.length).take t).drop (64 * k) := by
  have hl : ((b.take t).drop (64 * k)).length = t - 64 * k := by simp; omega
  apply List.ext_getElem
  · rw [mixT_length, hl]; simp [mixT_length]; omega
  · intro i h1 h2
    rw [mixT_length, hl] at h1
    have e1 := mixT_get (ks G (m + (k : Int))) ((b.take t).drop (64 * k)) (t - 64 * k) i (by rw [hl]; exact Nat.le_refl _)
    have e2 := getD_drop_take (mixT (ks G m) b b.length) (64 * k) t i (by omega)
    rw [mixT_get _ _ _ _ (Nat.le_refl _), if_pos (by omega)] at e2
    rw [if_pos h1, getD_drop_take b (64 * k) t i (by omega), ks_shift, ← e2] at e1
    rw [List.getD_eq_getElem?_getD, List.getElem?_eq_getElem (by rw [mixT_length, hl]; exact h1), List.getD_eq_getElem?_getD, List.getElem?_eq_getElem h2] at e1
    exact e1
end Go.Proofs.Ytkjmjgiklelpiaa.MxC
