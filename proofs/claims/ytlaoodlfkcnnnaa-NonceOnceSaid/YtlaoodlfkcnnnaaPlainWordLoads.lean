/- Plain facts on the printed functions of WordLoads: what each gives at every input that comes up, told in the words of YtlaoodlfkcnnnaaNum. -/
import Derived.Test.YtlaoodlfkcnnnaaPWordLoadsx1
import Derived.Test.YtlaoodlfkcnnnaaNum
namespace Go.Proofs.Ytlaoodlfkcnnnaa.PlainWordLoads
open Go.RowKit Go.Proofs.Ytlaoodlfkcnnnaa.PWordLoads Go.Proofs.YtlaoodlfkcnnnaaW.PrintWords Go.Proofs.Ytlaoodlfkcnnnaa.Num
set_option linter.unusedVariables false
theorem Load_eq (l : List Int) (hb : IsB l) (low : Bool) (k : Nat) (hk : 5 ≤ k) : word_Load.f k l low = some (loadW l low) := by
  obtain ⟨j, rfl⟩ : ∃ j, k = j + 5 := ⟨k - 5, by omega⟩
  unfold word_Load.f loadW
  by_cases h4 : l.length = 4
  · rw [if_pos (by omega), if_pos h4]
    match l, h4, hb with
    | [a, b, c, d], _, hb =>
      have ha := hb a (by simp)
      have hb' := hb b (by simp)
      have hc := hb c (by simp)
      have hd := hb d (by simp)
      cases low <;> simp only [word_Load.l0, wrap64, rd, be, List.length_cons, List.length_nil] <;> simp (disch := omega) [first32, join32]
  · rw [if_neg (by omega), if_neg h4]
theorem Long_eq (l : List Int) (hb : IsB l) (k : Nat) (hk : 9 ≤ k) : word_Long.f k l = some (longW l) := by
  obtain ⟨j, rfl⟩ : ∃ j, k = j + 9 := ⟨k - 9, by omega⟩
  unfold word_Long.f longW
  by_cases h8 : l.length = 8
  · rw [if_pos (by omega), if_pos h8]
    match l, h8, hb with
    | [a, b, c, d, e, f, g, h], _, hb =>
      have ha := hb a (by simp)
      have hb' := hb b (by simp)
      have hc := hb c (by simp)
      have hd := hb d (by simp)
      have he := hb e (by simp)
      have hf := hb f (by simp)
      have hg := hb g (by simp)
      have hh := hb h (by simp)
      simp only [word_Long.l0, wrap64, rd, be, List.length_cons, List.length_nil, IntKind.wrap_u64]
      simp (disch := omega) [first64, join64']
  · rw [if_neg (by omega), if_neg h8]
theorem Turn_eq (a n : Int) (h0 : 0 ≤ a) (h1 : a < 4294967296) : word_Turn.f a n = some (turn a n) := by
  unfold word_Turn.f
  rw [if_pos (by rw [mask5]; omega), if_pos (by rw [mask5, mask5]; omega), turn_shifts a n h0 h1]
theorem Choose_eq (b x y : Int) (h0 : 0 ≤ b) (h1 : b < 4294967296) (h2 : 0 ≤ x) (h3 : x < 4294967296) (h4 : 0 ≤ y) (h5 : y < 4294967296) : word_Choose.f b x y = some (if b = 0 then x else y) := by
  unfold word_Choose.f; rw [choose_bits b x y h0 h1 h2 h3 h4 h5]
theorem awake_eq (k : Nat) (hk : 9 ≤ k) : hypogeumlaw01_awake.f k = some true := by
  unfold hypogeumlaw01_awake.f
  rw [Load_eq _ (by intro x hx; simp at hx; omega) _ _ (by omega), Long_eq _ (by intro x hx; simp at hx) _ hk, Turn_eq 1 (-1) (by omega) (by omega), Choose_eq 2 3 4 (by omega) (by omega) (by omega) (by omega) (by omega) (by omega)]
  rw [turn_awake]; rfl
theorem Back_l (l : List Int) (hn : l.length ≤ 140737488351232) : ∀ (i k : Nat) (out : List Int), i ≤ l.length → out.length + i ≤ l.length → i < k →
    hypogeumref01_Back.l0 k l out ((i : Int) - 1) = some (out ++ (l.take i).reverse) := by
  intro i
  induction i with
  | zero =>
    intro k out _ _ hk
    obtain ⟨k, rfl⟩ : ∃ m, k = m + 1 := ⟨k - 1, by omega⟩
    simp only [hypogeumref01_Back.l0]
    rw [if_neg (by omega)]; simp
  | succ i ih =>
    intro k out hi ho hk
    obtain ⟨k, rfl⟩ : ∃ m, k = m + 1 := ⟨k - 1, by omega⟩
    simp only [hypogeumref01_Back.l0]
    rw [if_pos (by omega), if_pos (by omega), if_pos (by omega), if_pos (by omega)]
    rw [show wrap64 (((i + 1 : Nat) : Int) - 1 - 1) = (i : Int) - 1 by unfold wrap64; omega]
    rw [ih k _ (by omega) (by simp; omega) (by omega)]
    rw [List.take_add_one, List.getElem?_eq_getElem (by omega)]
    simp only [rd, Option.toList_some, List.reverse_append, List.reverse_cons, List.reverse_nil, List.nil_append, List.append_assoc, List.cons_append]
    rw [show (((i + 1 : Nat) : Int) - 1).toNat = i by omega, List.getD_eq_getElem?_getD, List.getElem?_eq_getElem (by omega)]
    rfl
theorem Back_eq (l : List Int) (hn : l.length ≤ 140737488351232) (k : Nat) (hk : l.length < k) : hypogeumref01_Back.f k l = some l.reverse := by
  unfold hypogeumref01_Back.f
  rw [show wrap64 ((l.length : Int) - 1) = (l.length : Int) - 1 by unfold wrap64; omega, Back_l l hn l.length k [] (by omega) (by simp) hk]
  simp
theorem worth_l (l : List Int) (hn : l.length ≤ 140737488351232) : ∀ (d i k : Nat) (x : Int), i + d = l.length → d < k →
    hypogeumref01_worth.l0 k l x (i : Int) = some ((l.drop i).foldl (fun a y => (a * 256 + y) % 18446744073709551616) (x % 18446744073709551616)) ∨ (x < 0 ∨ 18446744073709551616 ≤ x) := by
  intro d
  induction d with
  | zero =>
    intro i k x hi hk
    obtain ⟨k, rfl⟩ : ∃ m, k = m + 1 := ⟨k - 1, by omega⟩
    by_cases hx : x < 0 ∨ 18446744073709551616 ≤ x
    · exact .inr hx
    · left
      simp only [hypogeumref01_worth.l0]
      rw [if_neg (by omega), List.drop_of_length_le (by omega)]
      simp only [List.foldl_nil]
      rw [Int.emod_eq_of_lt (by omega) (by omega)]
  | succ d ih =>
    intro i k x hi hk
    obtain ⟨k, rfl⟩ : ∃ m, k = m + 1 := ⟨k - 1, by omega⟩
    by_cases hx : x < 0 ∨ 18446744073709551616 ≤ x
    · exact .inr hx
    · left
      simp only [hypogeumref01_worth.l0]
      rw [if_pos (by omega), if_pos (by omega)]
      rw [show wrap64 ((i : Int) + 1) = ((i + 1 : Nat) : Int) by unfold wrap64; omega]
      rw [IntKind.wrap_u64, IntKind.wrap_u64, IntKind.wrap_u64]
      have h := ih (i + 1) k ((x * 256 % 18446744073709551616 + rd l i % 18446744073709551616) % 18446744073709551616) (by omega) (by omega)
      rcases h with h | h
      · rw [h, List.drop_eq_getElem_cons (by omega : i < l.length)]
        simp only [List.foldl_cons]
        congr 2
        rw [show rd l (i : Int) = l[i] by simp [rd, List.getD_eq_getElem?_getD, List.getElem?_eq_getElem (by omega : i < l.length)]]
        omega
      · omega
theorem worth_eq (l : List Int) (hn : l.length ≤ 140737488351232) (k : Nat) (hk : l.length < k) : hypogeumref01_worth.f k l = some (l.foldl (fun a y => (a * 256 + y) % 18446744073709551616) 0) := by
  unfold hypogeumref01_worth.f
  rcases worth_l l hn l.length 0 k 0 (by omega) hk with h | h
  · simpa using h
  · omega
theorem refLoad_eq (l : List Int) (hb : IsB l) (low : Bool) (k : Nat) (hk : 5 ≤ k) : hypogeumref01_Load.f k l low = some (loadW l low) := by
  unfold hypogeumref01_Load.f loadW
  by_cases h4 : l.length = 4
  · rw [if_pos (by omega), if_pos h4]
    cases low
    · rw [if_neg (by simp), worth_eq l (by omega) k (by omega)]
      simp only [Option.bind_some, Bool.false_eq_true, if_false]
      rw [fold_be 4 l (by omega) (by omega) hb, Int.emod_eq_of_lt (be_range l hb).1 (by have := (be_range l hb).2; rw [h4] at this; simpa using this)]
    · rw [if_pos rfl, Back_eq l (by omega) k (by omega)]
      simp only [Option.bind_some, if_true]
      have hb' : IsB l.reverse := fun x hx => hb x (by simpa using hx)
      have h4' : l.reverse.length = 4 := by simpa using h4
      rw [worth_eq _ (by omega) k (by omega)]
      simp only [Option.bind_some]
      rw [fold_be 4 _ (by omega) (by omega) hb', Int.emod_eq_of_lt (be_range _ hb').1 (by have := (be_range _ hb').2; rw [h4'] at this; simpa using this)]
  · rw [if_neg (by omega), if_neg h4]
theorem refLong_eq (l : List Int) (hb : IsB l) (k : Nat) (hk : 9 ≤ k) : hypogeumref01_Long.f k l = some (longW l) := by
  unfold hypogeumref01_Long.f longW
  by_cases h8 : l.length = 8
  · rw [if_pos (by omega), if_pos h8, worth_eq l (by omega) k (by omega)]
    simp only [Option.bind_some]
    rw [fold_be 8 l (by omega) (by omega) hb]
  · rw [if_neg (by omega), if_neg h8]
theorem own_eq (l : List Int) (hn : l.length ≤ 140737488351232) : hypogeumlaw01_own.f l = some l := by
  unfold hypogeumlaw01_own.f
  simp only [Option.bind_some]
  rw [if_pos (by simp; omega)]; simp
end Go.Proofs.Ytlaoodlfkcnnnaa.PlainWordLoads
