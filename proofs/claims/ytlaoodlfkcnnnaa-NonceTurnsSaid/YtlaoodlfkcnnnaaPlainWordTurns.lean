/- Plain facts on the printed functions of WordTurns: what each gives at every input that comes up, told in the words of YtlaoodlfkcnnnaaNum. -/
import Derived.Test.YtlaoodlfkcnnnaaPWordTurnsx1
import Derived.Test.YtlaoodlfkcnnnaaNum
namespace Go.Proofs.Ytlaoodlfkcnnnaa.PlainWordTurns
open Go.RowKit Go.Proofs.Ytlaoodlfkcnnnaa.PWordTurns Go.Proofs.YtlaoodlfkcnnnaaW.PrintWords Go.Proofs.Ytlaoodlfkcnnnaa.Num
set_option linter.unusedVariables false
theorem Load_eq (l : List Int) (hb : IsB l) (low : Bool) (k : Nat) (hk : 5 ≤ k) : word_Load.f k l low = some (loadW l low) := by
  obtain ⟨j, rfl⟩ : ∃ j, k = j + 5 := ⟨k - 5, by omega⟩
  unfold word_Load.f loadW
  by_cases h4 : l.length = 4
  · rw [if_pos (by omega), if_pos h4]
    match l, h4, hb with
    | [a, b, c, d], _, hb =>
      have ha := hb a (by simp)
      have hb' := hb b (by simp)
      have hc := hb c (by simp)
      have hd := hb d (by simp)
      cases low <;> simp only [word_Load.l0, wrap64, rd, be, List.length_cons, List.length_nil] <;> simp (disch := omega) [first32, join32]
  · rw [if_neg (by omega), if_neg h4]
theorem Long_eq (l : List Int) (hb : IsB l) (k : Nat) (hk : 9 ≤ k) : word_Long.f k l = some (longW l) := by
  obtain ⟨j, rfl⟩ : ∃ j, k = j + 9 := ⟨k - 9, by omega⟩
  unfold word_Long.f longW
  by_cases h8 : l.length = 8
  · rw [if_pos (by omega), if_pos h8]
    match l, h8, hb with
    | [a, b, c, d, e, f, g, h], _, hb =>
      have ha := hb a (by simp)
      have hb' := hb b (by simp)
      have hc := hb c (by simp)
      have hd := hb d (by simp)
      have he := hb e (by simp)
      have hf := hb f (by simp)
      have hg := hb g (by simp)
      have hh := hb h (by simp)
      simp only [word_Long.l0, wrap64, rd, be, List.length_cons, List.length_nil, IntKind.wrap_u64]
      simp (disch := omega) [first64, join64']
  · rw [if_neg (by omega), if_neg h8]
theorem Turn_eq (a n : Int) (h0 : 0 ≤ a) (h1 : a < 4294967296) : word_Turn.f a n = some (turn a n) := by
  unfold word_Turn.f
  rw [if_pos (by rw [mask5]; omega), if_pos (by rw [mask5, mask5]; omega), turn_shifts a n h0 h1]
theorem Choose_eq (b x y : Int) (h0 : 0 ≤ b) (h1 : b < 4294967296) (h2 : 0 ≤ x) (h3 : x < 4294967296) (h4 : 0 ≤ y) (h5 : y < 4294967296) : word_Choose.f b x y = some (if b = 0 then x else y) := by
  unfold word_Choose.f; rw [choose_bits b x y h0 h1 h2 h3 h4 h5]
theorem awake_eq (k : Nat) (hk : 9 ≤ k) : hypogeumlaw01_awake.f k = some true := by
  unfold hypogeumlaw01_awake.f
  rw [Load_eq _ (by intro x hx; simp at hx; omega) _ _ (by omega), Long_eq _ (by intro x hx; simp at hx) _ hk, Turn_eq 1 (-1) (by omega) (by omega), Choose_eq 2 3 4 (by omega) (by omega) (by omega) (by omega) (by omega) (by omega)]
  rw [turn_awake]; rfl
theorem refTurn_l (a : Int) (h0 : 0 ≤ a) (h1 : a < 4294967296) : ∀ (d i k n : Nat), i + d = n → n < 32 → d < k →
    hypogeumref01_Turn.l0 k (ticks i a) (n : Int) (i : Int) = some (ticks n a) := by
  intro d
  induction d with
  | zero =>
    intro i k n hi hn hk
    obtain ⟨k, rfl⟩ : ∃ m, k = m + 1 := ⟨k - 1, by omega⟩
    simp only [hypogeumref01_Turn.l0]
    rw [if_neg (by omega), show i = n by omega]
  | succ d ih =>
    intro i k n hi hn hk
    obtain ⟨k, rfl⟩ : ∃ m, k = m + 1 := ⟨k - 1, by omega⟩
    simp only [hypogeumref01_Turn.l0]
    rw [if_pos (by omega), show wrap64 ((i : Int) + 1) = ((i + 1 : Nat) : Int) by unfold wrap64; omega]
    rw [← ih (i + 1) k n (by omega) hn (by omega)]
    have hr := ticks_range h0 h1 i
    have e : (((ticks i a * 2) % 4294967296) + ((Int.tdiv (ticks i a) 2147483648) % 4294967296)) % 4294967296 = ticks (i + 1) a := by
      rw [Int.tdiv_eq_ediv_of_nonneg hr.1]
      show _ = tick (ticks i a)
      unfold tick
      omega
    rw [e]
theorem refTurn_eq (a n : Int) (h0 : 0 ≤ a) (h1 : a < 4294967296) (hn : -9223372036854775808 ≤ n ∧ n ≤ 9223372036854775807) (k : Nat) (hk : 34 ≤ k) : hypogeumref01_Turn.f k a n = some (turn a n) := by
  have h : ∀ m : Nat, m < 32 → (n % 32).toNat = m → hypogeumref01_Turn.j0 k a (m : Int) = some (turn a n) := by
    intro m hm e
    obtain ⟨k, rfl⟩ : ∃ m, k = m + 1 := ⟨k - 1, by omega⟩
    simp only [hypogeumref01_Turn.j0]
    have := refTurn_l a h0 h1 m 0 k m (by omega) hm (by omega)
    unfold turn
    rw [e]
    exact this
  unfold hypogeumref01_Turn.f
  have ht : Int.tmod n 32 = n % 32 ∨ Int.tmod n 32 = n % 32 - 32 ∧ n % 32 ≠ 0 := by
    rcases Int.lt_or_le n 0 with hl | hl
    · have e : Int.tmod n 32 = -((-n) % 32) := by
        have := Int.neg_tmod (-n) 32
        rw [Int.neg_neg] at this
        rw [this, Int.tmod_eq_emod_of_nonneg (by omega)]
      omega
    · left; exact Int.tmod_eq_emod_of_nonneg hl
  rcases ht with e | ⟨e, hz⟩
  · rw [e, if_neg (by omega)]
    have := h (n % 32).toNat (by omega) rfl
    rwa [show (((n % 32).toNat : Nat) : Int) = n % 32 by omega] at this
  · rw [e, if_pos (by omega)]
    have := h (n % 32).toNat (by omega) rfl
    rwa [show (((n % 32).toNat : Nat) : Int) = wrap64 (n % 32 - 32 + 32) by unfold wrap64; omega] at this
end Go.Proofs.Ytlaoodlfkcnnnaa.PlainWordTurns
