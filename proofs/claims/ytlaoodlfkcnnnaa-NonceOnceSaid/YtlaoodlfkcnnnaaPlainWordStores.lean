/- Plain facts on the printed functions of WordStores: what each gives at every input that comes up, told in the words of YtlaoodlfkcnnnaaNum. -/
import Derived.Test.YtlaoodlfkcnnnaaPWordStoresx1
import Derived.Test.YtlaoodlfkcnnnaaPWordStoresx2
import Derived.Test.YtlaoodlfkcnnnaaNum
namespace Go.Proofs.Ytlaoodlfkcnnnaa.PlainWordStores
open Go.RowKit Go.Proofs.Ytlaoodlfkcnnnaa.PWordStores Go.Proofs.YtlaoodlfkcnnnaaW.PrintWords Go.Proofs.Ytlaoodlfkcnnnaa.Num
set_option linter.unusedVariables false
theorem Load_eq (l : List Int) (hb : IsB l) (low : Bool) (k : Nat) (hk : 5 ≤ k) : word_Load.f k l low = some (loadW l low) := by
  obtain ⟨j, rfl⟩ : ∃ j, k = j + 5 := ⟨k - 5, by omega⟩
  unfold word_Load.f loadW
  by_cases h4 : l.length = 4
  · rw [if_pos (by omega), if_pos h4]
    match l, h4, hb with
    | [a, b, c, d], _, hb =>
      have ha := hb a (by simp)
      have hb' := hb b (by simp)
      have hc := hb c (by simp)
      have hd := hb d (by simp)
      cases low <;> simp only [word_Load.l0, wrap64, rd, be, List.length_cons, List.length_nil] <;> simp (disch := omega) [first32, join32]
  · rw [if_neg (by omega), if_neg h4]
theorem Long_eq (l : List Int) (hb : IsB l) (k : Nat) (hk : 9 ≤ k) : word_Long.f k l = some (longW l) := by
  obtain ⟨j, rfl⟩ : ∃ j, k = j + 9 := ⟨k - 9, by omega⟩
  unfold word_Long.f longW
  by_cases h8 : l.length = 8
  · rw [if_pos (by omega), if_pos h8]
    match l, h8, hb with
    | [a, b, c, d, e, f, g, h], _, hb =>
      have ha := hb a (by simp)
      have hb' := hb b (by simp)
      have hc := hb c (by simp)
      have hd := hb d (by simp)
      have he := hb e (by simp)
      have hf := hb f (by simp)
      have hg := hb g (by simp)
      have hh := hb h (by simp)
      simp only [word_Long.l0, wrap64, rd, be, List.length_cons, List.length_nil, IntKind.wrap_u64]
      simp (disch := omega) [first64, join64']
  · rw [if_neg (by omega), if_neg h8]
theorem Turn_eq (a n : Int) (h0 : 0 ≤ a) (h1 : a < 4294967296) : word_Turn.f a n = some (turn a n) := by
  unfold word_Turn.f
  rw [if_pos (by rw [mask5]; omega), if_pos (by rw [mask5, mask5]; omega), turn_shifts a n h0 h1]
theorem Choose_eq (b x y : Int) (h0 : 0 ≤ b) (h1 : b < 4294967296) (h2 : 0 ≤ x) (h3 : x < 4294967296) (h4 : 0 ≤ y) (h5 : y < 4294967296) : word_Choose.f b x y = some (if b = 0 then x else y) := by
  unfold word_Choose.f; rw [choose_bits b x y h0 h1 h2 h3 h4 h5]
theorem awake_eq (k : Nat) (hk : 9 ≤ k) : hypogeumlaw01_awake.f k = some true := by
  unfold hypogeumlaw01_awake.f
  rw [Load_eq _ (by intro x hx; simp at hx; omega) _ _ (by omega), Long_eq _ (by intro x hx; simp at hx) _ hk, Turn_eq 1 (-1) (by omega) (by omega), Choose_eq 2 3 4 (by omega) (by omega) (by omega) (by omega) (by omega) (by omega)]
  rw [turn_awake]; rfl
theorem Back_l (l : List Int) (hn : l.length ≤ 140737488351232) : ∀ (i k : Nat) (out : List Int), i ≤ l.length → out.length + i ≤ l.length → i < k →
    hypogeumref01_Back.l0 k l out ((i : Int) - 1) = some (out ++ (l.take i).reverse) := by
  intro i
  induction i with
  | zero =>
    intro k out _ _ hk
    obtain ⟨k, rfl⟩ : ∃ m, k = m + 1 := ⟨k - 1, by omega⟩
    simp only [hypogeumref01_Back.l0]
    rw [if_neg (by omega)]; simp
  | succ i ih =>
    intro k out hi ho hk
    obtain ⟨k, rfl⟩ : ∃ m, k = m + 1 := ⟨k - 1, by omega⟩
    simp only [hypogeumref01_Back.l0]
    rw [if_pos (by omega), if_pos (by omega), if_pos (by omega), if_pos (by omega)]
    rw [show wrap64 (((i + 1 : Nat) : Int) - 1 - 1) = (i : Int) - 1 by unfold wrap64; omega]
    rw [ih k _ (by omega) (by simp; omega) (by omega)]
    rw [List.take_add_one, List.getElem?_eq_getElem (by omega)]
    simp only [rd, Option.toList_some, List.reverse_append, List.reverse_cons, List.reverse_nil, List.nil_append, List.append_assoc, List.cons_append]
    rw [show (((i + 1 : Nat) : Int) - 1).toNat = i by omega, List.getD_eq_getElem?_getD, List.getElem?_eq_getElem (by omega)]
    rfl
theorem Back_eq (l : List Int) (hn : l.length ≤ 140737488351232) (k : Nat) (hk : l.length < k) : hypogeumref01_Back.f k l = some l.reverse := by
  unfold hypogeumref01_Back.f
  rw [show wrap64 ((l.length : Int) - 1) = (l.length : Int) - 1 by unfold wrap64; omega, Back_l l hn l.length k [] (by omega) (by simp) hk]
  simp
theorem Store_eq (a : Int) (h0 : 0 ≤ a) (h1 : a < 4294967296) (low : Bool) (k : Nat) (hk : 5 ≤ k) : word_Store.f k a low = some (storeW a low) := by
  obtain ⟨j, rfl⟩ : ∃ j, k = j + 5 := ⟨k - 5, by omega⟩
  unfold word_Store.f storeW
  rw [if_pos (by omega)]
  cases low <;> simp [word_Store.l0, wrap64, shr, IntKind.bits, told] <;> omega
theorem Tell_eq (a : Int) (h0 : 0 ≤ a) (h1 : a < 18446744073709551616) (k : Nat) (hk : 9 ≤ k) : word_Tell.f k a = some (told 8 a) := by
  obtain ⟨j, rfl⟩ : ∃ j, k = j + 9 := ⟨k - 9, by omega⟩
  unfold word_Tell.f
  rw [if_pos (by omega)]
  simp [word_Tell.l0, wrap64, shr, IntKind.bits, told]
  omega
theorem Told_l (n : Int) (h0 : 0 ≤ n) (h1 : n < 18446744073709551616) : ∀ (d i k sz : Nat) (x : Int) (out : List Int), 0 ≤ x → x < 18446744073709551616 → i + d = sz → sz ≤ 1000 → out.length = i → sz + d + 1 < k →
    hypogeumref01_Told.l0 k x (sz : Int) out (i : Int) = some (told d x ++ out.reverse) := by
  intro d
  induction d with
  | zero =>
    intro i k sz x out hx0 hx1 hi hs ho hk
    obtain ⟨k, rfl⟩ : ∃ m, k = m + 1 := ⟨k - 1, by omega⟩
    simp only [hypogeumref01_Told.l0]
    rw [if_neg (by omega), Back_eq out (by omega) k (by omega)]
    simp [told]
  | succ d ih =>
    intro i k sz x out hx0 hx1 hi hs ho hk
    obtain ⟨k, rfl⟩ : ∃ m, k = m + 1 := ⟨k - 1, by omega⟩
    simp only [hypogeumref01_Told.l0]
    rw [if_pos (by omega), if_pos (by omega), show wrap64 ((i : Int) + 1) = ((i + 1 : Nat) : Int) by unfold wrap64; omega]
    rw [IntKind.wrap_u64, Int.tdiv_eq_ediv_of_nonneg hx0, Int.tmod_eq_emod_of_nonneg hx0, Int.emod_eq_of_lt (by omega) (by omega), Int.emod_emod]
    rw [ih (i + 1) k sz (x / 256) _ (by omega) (by omega) (by omega) hs (by simp; omega) (by omega)]
    simp [told]
theorem Told_eq (n : Int) (h0 : 0 ≤ n) (h1 : n < 18446744073709551616) (sz : Nat) (hs : sz ≤ 1000) (k : Nat) (hk : 2002 ≤ k) : hypogeumref01_Told.f k n (sz : Int) = some (told sz n) := by
  unfold hypogeumref01_Told.f
  have := Told_l n h0 h1 sz 0 k sz n [] h0 h1 (by omega) hs rfl (by omega)
  simpa using this
theorem refStore_eq (a : Int) (h0 : 0 ≤ a) (h1 : a < 4294967296) (low : Bool) (k : Nat) (hk : 2002 ≤ k) : hypogeumref01_Store.f k a low = some (storeW a low) := by
  unfold hypogeumref01_Store.f storeW
  rw [IntKind.wrap_u64, Int.emod_eq_of_lt (by omega) (by omega)]
  have := Told_eq a h0 (by omega) 4 (by omega) k hk
  rw [show ((4 : Nat) : Int) = 4 from rfl] at this
  rw [this]
  simp only [Option.bind_some]
  cases low
  · rfl
  · rw [if_pos rfl, Back_eq _ (by simp [told_length]) k (by simp [told_length]; omega)]; rfl
end Go.Proofs.Ytlaoodlfkcnnnaa.PlainWordStores
