/- Contracts of the nonce functions, at every input. -/
import Derived.Test.YtlaoodlfkcnnnaaNonceD
import Derived.Test.YtlaoodlfkcnnnaaApp
import Derived.Test.YtlaoodlfkcnnnaaPlainNonceBytes
import Derived.Deep.RegionHeld3
import Derived.Outline
namespace Go.Proofs.Ytlaoodlfkcnnnaa.NonceF
open Go.RowKit Go.Proofs.YtlaoodlfkcnnnaaW.PrintWords Go.Proofs.Ytlaoodlfkcnnnaa.Num Go.Proofs.Ytlaoodlfkcnnnaa.WordC Go.Proofs.Ytlaoodlfkcnnnaa.NonceC Go.Proofs.Ytlaoodlfkcnnnaa.NonceD Go.Proofs.Ytlaoodlfkcnnnaa.TakeC Go.Proofs.Ytlaoodlfkcnnnaa.App Go.Proofs.Ytlaoodlfkcnnnaa.Arr
set_option linter.unusedVariables false
set_option linter.unusedSimpArgs false

/-- A nonce, or none. -/
def ofW (e n : Int) : List Int := if rightN e n = true then nonceW e n else []
def ofE (e n : Int) : Int := if rightN e n = true then 0 else 1
theorem rd_nil (w : World) : Rd w none 0 0 [] := ⟨rfl, Nat.le_refl _, Kd.C_nil _ w⟩
theorem Of_c (e n : Int) {w : World} : Calls Try.prog 38 #[.int .i64 e, .int .i64 n] w fun x w' => ∃ A c, x = .returned (.tuple #[.slice A (ofW e n).length c, .int .i64 (ofE e n)]) ∧ Rd w' A (ofW e n).length c (ofW e n) ∧ Below w.heap.size w w' := by
  by_cases h : rightN e n = true
  · obtain ⟨h1, h2, h3, h4⟩ := rightN_iff.1 h
    refine (Of_yes h1 h2 h3 h4 h).mono ?_
    rintro x w1 ⟨g, rfl, hg, hG, hb⟩
    have hr := rd_nonce hG (nonceW_length e n)
    have e1 : ofW e n = nonceW e n := if_pos h
    have e2 : ofE e n = 0 := if_pos h
    rw [e1, e2, nonceW_length]
    exact ⟨_, _, rfl, hr, hb⟩
  · refine (Of_no (by simpa using h)).mono ?_
    rintro x w1 ⟨rfl, hb⟩
    have e1 : ofW e n = [] := if_neg h
    have e2 : ofE e n = 1 := if_neg h
    rw [e1, e2]
    exact ⟨_, _, rfl, rd_nil _, hb⟩
theorem refOf_c (e n : Int) {w : World} : Calls Try.prog 39 #[.int .i64 e, .int .i64 n] w fun x w' => ∃ v, x = .returned (.tuple #[v, .int .i64 (ofE e n)]) ∧ Ow w' w.heap.size v (ofW e n) ∧ Below w.heap.size w w' := by
  have h := PlainNonceBytes.refOf_eq e n 2002 (by omega)
  have hr : rightW e n = rightN e n := rfl
  rw [hr] at h
  by_cases h1 : rightN e n = true
  · rw [if_pos h1] at h
    have e1 : ofW e n = nonceW e n := if_pos h1
    have e2 : ofE e n = 0 := if_pos h1
    rw [e1, e2]
    exact PNonceBytes.hypogeumref10_Of.calls 2002 e n _ _ w h
  · rw [if_neg h1] at h
    have e1 : ofW e n = [] := if_neg h1
    have e2 : ofE e n = 1 := if_neg h1
    rw [e1, e2]
    exact PNonceBytes.hypogeumref10_Of.calls 2002 e n _ _ w h
theorem Read_c {A : Option Addr} {n c : Nat} {l : List Int} {w : World} (hr : Rd w A n c l) (hb : IsB l) :
    Calls Try.prog 40 #[.slice A n c] w fun x w' => x = .returned (.tuple #[.int .i64 (readW l).1, .int .i64 (readW l).2.1, .int .i64 (readW l).2.2]) ∧ Below w.heap.size w w' := by
  obtain ⟨rfl, hc, hC⟩ := hr
  refine (PNonceBytes.nonce_Read.calls 9 A c l _ _ _ w hC hc (PlainNonceBytes.Read_eq l hb 9 (by omega))).mono ?_
  rintro x w' ⟨rfl, hd⟩
  exact ⟨rfl, by first | exact hd | exact hd.below⟩
theorem refRead_c {A : Option Addr} {n c : Nat} {l : List Int} {w : World} (hr : Rd w A n c l) (hb : IsB l) :
    Calls Try.prog 41 #[.slice A n c] w fun x w' => x = .returned (.tuple #[.int .i64 (readW l).1, .int .i64 (readW l).2.1, .int .i64 (readW l).2.2]) ∧ Below w.heap.size w w' := by
  obtain ⟨rfl, hc, hC⟩ := hr
  refine (PNonceBytes.hypogeumref10_Read.calls 9 A c l _ _ _ w hC hc (PlainNonceBytes.refRead_eq l hb 9 (by omega))).mono ?_
  rintro x w' ⟨rfl, hd⟩
  exact ⟨rfl, by first | exact hd | exact hd.below⟩
theorem Bytes_any (e n : Int) {w : World} :
    Calls Try.prog 42 #[.agg #[.int .i64 e, .int .i64 n]] w fun x w' => ∃ A c, x = .returned (.slice A (ofW e n).length c) ∧ Rd w' A (ofW e n).length c (ofW e n) ∧ Below w.heap.size w w' := by
  go_enter Try.func42, Try.ntmps42
  go_wp2_with fail
  refine (Of_c e n).mono ?_
  rintro x w1 ⟨A, c, rfl, hr, hb1⟩
  go_wp2_with fail
  go_ret
  exact ⟨A, c, rfl, hr, ((Below.refl _ w).alloc (Nat.le_refl _) _).trans (hb1.mono (by simp))⟩
theorem ofW_isB (e n : Int) : IsB (ofW e n) := by
  unfold ofW; split
  · exact nonceW_isB e n
  · intro x hx; simp at hx
end Go.Proofs.Ytlaoodlfkcnnnaa.NonceF
