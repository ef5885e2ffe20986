/- Plain facts on the printed functions of LabelRings: what each gives at every input that comes up, told in the words of YtmmbonlidcbkcaaDoorNum. -/
import Derived.Test.YtmmbonlidcbkcaaDoorPLabelRingsx1
import Derived.Test.YtmmbonlidcbkcaaDoorPLabelRingsx2
import Derived.Test.YtmmbonlidcbkcaaDoorPLabelRingsx3
import Derived.Test.YtmmbonlidcbkcaaDoorNum
import Derived.Test.YtmmbonlidcbkcaaDoorSha
namespace Go.Proofs.YtmmbonlidcbkcaaDoor.PlainLabelRings
open Go.RowKit Go.Proofs.YtmmbonlidcbkcaaDoor.PLabelRings Go.Proofs.YtmmbonlidcbkcaaDoorW.PrintWords Go.Proofs.YtmmbonlidcbkcaaDoor.Num
open Go.Proofs.YtmmbonlidcbkcaaDoor.Sha
set_option linter.unusedVariables false
theorem Load_eq (l : List Int) (hb : IsB l) (low : Bool) (k : Nat) (hk : 5 ≤ k) : word_Load.f k l low = some (loadW l low) := by
  obtain ⟨j, rfl⟩ : ∃ j, k = j + 5 := ⟨k - 5, by omega⟩
  unfold word_Load.f loadW
  by_cases h4 : l.length = 4
  · rw [if_pos (by omega), if_pos h4]
    match l, h4, hb with
    | [a, b, c, d], _, hb =>
      have ha := hb a (by simp)
      have hb' := hb b (by simp)
      have hc := hb c (by simp)
      have hd := hb d (by simp)
      cases low <;> simp only [word_Load.l0, wrap64, rd, be, List.length_cons, List.length_nil] <;> simp (disch := omega) [first32, join32]
  · rw [if_neg (by omega), if_neg h4]
theorem Turn_eq (a n : Int) (h0 : 0 ≤ a) (h1 : a < 4294967296) : word_Turn.f a n = some (turn a n) := by
  unfold word_Turn.f
  rw [if_pos (by rw [mask5]; omega), if_pos (by rw [mask5, mask5]; omega), turn_shifts a n h0 h1]
theorem late_eq (a : Int) (h0 : 0 ≤ a) (h1 : a < 4294967296) : digest_late.f a = some (lateS a) := by
  unfold digest_late.f
  rw [Turn_eq _ _ h0 h1, Turn_eq _ _ h0 h1]; rfl
theorem early_eq (a : Int) (h0 : 0 ≤ a) (h1 : a < 4294967296) : digest_early.f a = some (earlyS a) := by
  unfold digest_early.f
  rw [Turn_eq _ _ h0 h1, Turn_eq _ _ h0 h1]; rfl
theorem high_eq (a : Int) (h0 : 0 ≤ a) (h1 : a < 4294967296) : digest_high.f a = some (highS a) := by
  unfold digest_high.f
  rw [Turn_eq _ _ h0 h1, Turn_eq _ _ h0 h1, Turn_eq _ _ h0 h1]; rfl
theorem low_eq (a : Int) (h0 : 0 ≤ a) (h1 : a < 4294967296) : digest_low.f a = some (lowS a) := by
  unfold digest_low.f
  rw [Turn_eq _ _ h0 h1, Turn_eq _ _ h0 h1, Turn_eq _ _ h0 h1]; rfl
theorem Tell_eq (a : Int) (h0 : 0 ≤ a) (h1 : a < 18446744073709551616) (k : Nat) (hk : 9 ≤ k) : word_Tell.f k a = some (told 8 a) := by
  obtain ⟨j, rfl⟩ : ∃ j, k = j + 9 := ⟨k - 9, by omega⟩
  unfold word_Tell.f
  rw [if_pos (by omega)]
  simp [word_Tell.l0, wrap64, shr, IntKind.bits, told]
  omega
theorem Store_eq (a : Int) (h0 : 0 ≤ a) (h1 : a < 4294967296) (low : Bool) (k : Nat) (hk : 5 ≤ k) : word_Store.f k a low = some (storeW a low) := by
  obtain ⟨j, rfl⟩ : ∃ j, k = j + 5 := ⟨k - 5, by omega⟩
  unfold word_Store.f storeW
  rw [if_pos (by omega)]
  cases low <;> simp [word_Store.l0, wrap64, shr, IntKind.bits, told] <;> omega
theorem Back_l (l : List Int) (hn : l.length ≤ 140737488351232) : ∀ (i k : Nat) (out : List Int), i ≤ l.length → out.length + i ≤ l.length → i < k →
    hypogeumref01_Back.l0 k l out ((i : Int) - 1) = some (out ++ (l.take i).reverse) := by
  intro i
  induction i with
  | zero =>
    intro k out _ _ hk
    obtain ⟨k, rfl⟩ : ∃ m, k = m + 1 := ⟨k - 1, by omega⟩
    simp only [hypogeumref01_Back.l0]
    rw [if_neg (by omega)]; simp
  | succ i ih =>
    intro k out hi ho hk
    obtain ⟨k, rfl⟩ : ∃ m, k = m + 1 := ⟨k - 1, by omega⟩
    simp only [hypogeumref01_Back.l0]
    rw [if_pos (by omega), if_pos (by omega), if_pos (by omega), if_pos (by omega)]
    rw [show wrap64 (((i + 1 : Nat) : Int) - 1 - 1) = (i : Int) - 1 by unfold wrap64; omega]
    rw [ih k _ (by omega) (by simp; omega) (by omega)]
    rw [List.take_add_one, List.getElem?_eq_getElem (by omega)]
    simp only [rd, Option.toList_some, List.reverse_append, List.reverse_cons, List.reverse_nil, List.nil_append, List.append_assoc, List.cons_append]
    rw [show (((i + 1 : Nat) : Int) - 1).toNat = i by omega, List.getD_eq_getElem?_getD, List.getElem?_eq_getElem (by omega)]
    rfl
theorem Back_eq (l : List Int) (hn : l.length ≤ 140737488351232) (k : Nat) (hk : l.length < k) : hypogeumref01_Back.f k l = some l.reverse := by
  unfold hypogeumref01_Back.f
  rw [show wrap64 ((l.length : Int) - 1) = (l.length : Int) - 1 by unfold wrap64; omega, Back_l l hn l.length k [] (by omega) (by simp) hk]
  simp
theorem Told_l (n : Int) (h0 : 0 ≤ n) (h1 : n < 18446744073709551616) : ∀ (d i k sz : Nat) (x : Int) (out : List Int), 0 ≤ x → x < 18446744073709551616 → i + d = sz → sz ≤ 1000 → out.length = i → sz + d + 1 < k →
    hypogeumref01_Told.l0 k x (sz : Int) out (i : Int) = some (told d x ++ out.reverse) := by
  intro d
  induction d with
  | zero =>
    intro i k sz x out hx0 hx1 hi hs ho hk
    obtain ⟨k, rfl⟩ : ∃ m, k = m + 1 := ⟨k - 1, by omega⟩
    simp only [hypogeumref01_Told.l0]
    rw [if_neg (by omega), Back_eq out (by omega) k (by omega)]
    simp [told]
  | succ d ih =>
    intro i k sz x out hx0 hx1 hi hs ho hk
    obtain ⟨k, rfl⟩ : ∃ m, k = m + 1 := ⟨k - 1, by omega⟩
    simp only [hypogeumref01_Told.l0]
    rw [if_pos (by omega), if_pos (by omega), show wrap64 ((i : Int) + 1) = ((i + 1 : Nat) : Int) by unfold wrap64; omega]
    rw [IntKind.wrap_u64, Int.tdiv_eq_ediv_of_nonneg hx0, Int.tmod_eq_emod_of_nonneg hx0, Int.emod_eq_of_lt (by omega) (by omega), Int.emod_emod]
    rw [ih (i + 1) k sz (x / 256) _ (by omega) (by omega) (by omega) hs (by simp; omega) (by omega)]
    simp [told]
theorem Told_eq (n : Int) (h0 : 0 ≤ n) (h1 : n < 18446744073709551616) (sz : Nat) (hs : sz ≤ 1000) (k : Nat) (hk : 2002 ≤ k) : hypogeumref01_Told.f k n (sz : Int) = some (told sz n) := by
  unfold hypogeumref01_Told.f
  have := Told_l n h0 h1 sz 0 k sz n [] h0 h1 (by omega) hs rfl (by omega)
  simpa using this
theorem refTurn_l (a : Int) (h0 : 0 ≤ a) (h1 : a < 4294967296) : ∀ (d i k n : Nat), i + d = n → n < 32 → d < k →
    hypogeumref01_Turn.l0 k (ticks i a) (n : Int) (i : Int) = some (ticks n a) := by
  intro d
  induction d with
  | zero =>
    intro i k n hi hn hk
    obtain ⟨k, rfl⟩ : ∃ m, k = m + 1 := ⟨k - 1, by omega⟩
    simp only [hypogeumref01_Turn.l0]
    rw [if_neg (by omega), show i = n by omega]
  | succ d ih =>
    intro i k n hi hn hk
    obtain ⟨k, rfl⟩ : ∃ m, k = m + 1 := ⟨k - 1, by omega⟩
    simp only [hypogeumref01_Turn.l0]
    rw [if_pos (by omega), show wrap64 ((i : Int) + 1) = ((i + 1 : Nat) : Int) by unfold wrap64; omega]
    rw [← ih (i + 1) k n (by omega) hn (by omega)]
    have hr := ticks_range h0 h1 i
    have e : (((ticks i a * 2) % 4294967296) + ((Int.tdiv (ticks i a) 2147483648) % 4294967296)) % 4294967296 = ticks (i + 1) a := by
      rw [Int.tdiv_eq_ediv_of_nonneg hr.1]
      show _ = tick (ticks i a)
      unfold tick
      omega
    rw [e]
theorem refTurn_eq (a n : Int) (h0 : 0 ≤ a) (h1 : a < 4294967296) (hn : -9223372036854775808 ≤ n ∧ n ≤ 9223372036854775807) (k : Nat) (hk : 34 ≤ k) : hypogeumref01_Turn.f k a n = some (turn a n) := by
  have h : ∀ m : Nat, m < 32 → (n % 32).toNat = m → hypogeumref01_Turn.j0 k a (m : Int) = some (turn a n) := by
    intro m hm e
    obtain ⟨k, rfl⟩ : ∃ m, k = m + 1 := ⟨k - 1, by omega⟩
    simp only [hypogeumref01_Turn.j0]
    have := refTurn_l a h0 h1 m 0 k m (by omega) hm (by omega)
    unfold turn
    rw [e]
    exact this
  unfold hypogeumref01_Turn.f
  have ht : Int.tmod n 32 = n % 32 ∨ Int.tmod n 32 = n % 32 - 32 ∧ n % 32 ≠ 0 := by
    rcases Int.lt_or_le n 0 with hl | hl
    · have e : Int.tmod n 32 = -((-n) % 32) := by
        have := Int.neg_tmod (-n) 32
        rw [Int.neg_neg] at this
        rw [this, Int.tmod_eq_emod_of_nonneg (by omega)]
      omega
    · left; exact Int.tmod_eq_emod_of_nonneg hl
  rcases ht with e | ⟨e, hz⟩
  · rw [e, if_neg (by omega)]
    have := h (n % 32).toNat (by omega) rfl
    rwa [show (((n % 32).toNat : Nat) : Int) = n % 32 by omega] at this
  · rw [e, if_pos (by omega)]
    have := h (n % 32).toNat (by omega) rfl
    rwa [show (((n % 32).toNat : Nat) : Int) = wrap64 (n % 32 - 32 + 32) by unfold wrap64; omega] at this
theorem right_eq (a n : Int) (h0 : 0 ≤ a) (h1 : a < 4294967296) (hn : 0 ≤ n ∧ n ≤ 64) (k : Nat) (hk : 34 ≤ k) : hypogeumref02_right.f k a n = some (turn a (-n)) := by
  unfold hypogeumref02_right.f
  rw [show wrap64 (32 - n) = 32 - n by unfold wrap64; omega, refTurn_eq a (32 - n) h0 h1 (by omega) k hk]
  simp only [Option.bind_some]
  unfold turn
  rw [show (32 - n) % 32 = (-n) % 32 by omega]
theorem down_l (a : Int) (h0 : 0 ≤ a) (h1 : a < 4294967296) : ∀ (d i k n : Nat), i + d = n → n ≤ 64 → d < k → hypogeumref02_down.l0 k (a / 2 ^ i) (n : Int) (i : Int) = some (a / 2 ^ n) := by
  intro d
  induction d with
  | zero =>
    intro i k n hi hn hk
    obtain ⟨k, rfl⟩ : ∃ m, k = m + 1 := ⟨k - 1, by omega⟩
    simp only [hypogeumref02_down.l0]
    rw [if_neg (by omega), show i = n by omega]
  | succ d ih =>
    intro i k n hi hn hk
    obtain ⟨k, rfl⟩ : ∃ m, k = m + 1 := ⟨k - 1, by omega⟩
    simp only [hypogeumref02_down.l0]
    have hp : (0 : Int) < 2 ^ i := Int.pow_pos (by omega)
    have hr0 : 0 ≤ a / 2 ^ i := Int.ediv_nonneg h0 (by omega)
    have hr1 : a / 2 ^ i ≤ a := Int.ediv_le_self _ h0
    rw [if_pos (by omega), show wrap64 ((i : Int) + 1) = ((i + 1 : Nat) : Int) by unfold wrap64; omega, Int.tdiv_eq_ediv_of_nonneg hr0, Int.emod_eq_of_lt (by omega) (by omega)]
    rw [Int.ediv_ediv_of_nonneg (by omega), ← Int.pow_succ]
    exact ih (i + 1) k n (by omega) hn (by omega)
theorem down_eq (a : Int) (h0 : 0 ≤ a) (h1 : a < 4294967296) (n : Nat) (hn : n ≤ 64) (k : Nat) (hk : n < k) : hypogeumref02_down.f k a (n : Int) = some (a / 2 ^ n) := by
  unfold hypogeumref02_down.f
  have := down_l a h0 h1 n 0 k n (by omega) hn hk
  simpa using this
theorem worth_l (l : List Int) (hn : l.length ≤ 140737488351232) : ∀ (d i k : Nat) (x : Int), i + d = l.length → d < k →
    hypogeumref01_worth.l0 k l x (i : Int) = some ((l.drop i).foldl (fun a y => (a * 256 + y) % 18446744073709551616) (x % 18446744073709551616)) ∨ (x < 0 ∨ 18446744073709551616 ≤ x) := by
  intro d
  induction d with
  | zero =>
    intro i k x hi hk
    obtain ⟨k, rfl⟩ : ∃ m, k = m + 1 := ⟨k - 1, by omega⟩
    by_cases hx : x < 0 ∨ 18446744073709551616 ≤ x
    · exact .inr hx
    · left
      simp only [hypogeumref01_worth.l0]
      rw [if_neg (by omega), List.drop_of_length_le (by omega)]
      simp only [List.foldl_nil]
      rw [Int.emod_eq_of_lt (by omega) (by omega)]
  | succ d ih =>
    intro i k x hi hk
    obtain ⟨k, rfl⟩ : ∃ m, k = m + 1 := ⟨k - 1, by omega⟩
    by_cases hx : x < 0 ∨ 18446744073709551616 ≤ x
    · exact .inr hx
    · left
      simp only [hypogeumref01_worth.l0]
      rw [if_pos (by omega), if_pos (by omega)]
      rw [show wrap64 ((i : Int) + 1) = ((i + 1 : Nat) : Int) by unfold wrap64; omega]
      rw [IntKind.wrap_u64, IntKind.wrap_u64, IntKind.wrap_u64]
      have h := ih (i + 1) k ((x * 256 % 18446744073709551616 + rd l i % 18446744073709551616) % 18446744073709551616) (by omega) (by omega)
      rcases h with h | h
      · rw [h, List.drop_eq_getElem_cons (by omega : i < l.length)]
        simp only [List.foldl_cons]
        congr 2
        rw [show rd l (i : Int) = l[i] by simp [rd, List.getD_eq_getElem?_getD, List.getElem?_eq_getElem (by omega : i < l.length)]]
        omega
      · omega
theorem worth_eq (l : List Int) (hn : l.length ≤ 140737488351232) (k : Nat) (hk : l.length < k) : hypogeumref01_worth.f k l = some (l.foldl (fun a y => (a * 256 + y) % 18446744073709551616) 0) := by
  unfold hypogeumref01_worth.f
  rcases worth_l l hn l.length 0 k 0 (by omega) hk with h | h
  · simpa using h
  · omega
theorem refLoad_eq (l : List Int) (hb : IsB l) (low : Bool) (k : Nat) (hk : 5 ≤ k) : hypogeumref01_Load.f k l low = some (loadW l low) := by
  unfold hypogeumref01_Load.f loadW
  by_cases h4 : l.length = 4
  · rw [if_pos (by omega), if_pos h4]
    cases low
    · rw [if_neg (by simp), worth_eq l (by omega) k (by omega)]
      simp only [Option.bind_some, Bool.false_eq_true, if_false]
      rw [fold_be 4 l (by omega) (by omega) hb, Int.emod_eq_of_lt (be_range l hb).1 (by have := (be_range l hb).2; rw [h4] at this; simpa using this)]
    · rw [if_pos rfl, Back_eq l (by omega) k (by omega)]
      simp only [Option.bind_some, if_true]
      have hb' : IsB l.reverse := fun x hx => hb x (by simpa using hx)
      have h4' : l.reverse.length = 4 := by simpa using h4
      rw [worth_eq _ (by omega) k (by omega)]
      simp only [Option.bind_some]
      rw [fold_be 4 _ (by omega) (by omega) hb', Int.emod_eq_of_lt (be_range _ hb').1 (by have := (be_range _ hb').2; rw [h4'] at this; simpa using this)]
  · rw [if_neg (by omega), if_neg h4]
theorem words_l1 (b : List Int) (hb : IsB b) : ∀ (d i k : Nat), i + d = 48 → 100 + d < k → hypogeumref02_words.l1 k (extW i (upW b 16)) ((16 + i : Nat) : Int) = some (schedS b) := by
  intro d
  induction d with
  | zero =>
    intro i k hi hk
    obtain ⟨k, rfl⟩ : ∃ m, k = m + 1 := ⟨k - 1, by omega⟩
    simp only [hypogeumref02_words.l1]
    rw [if_neg (by omega), show i = 48 by omega]; rfl
  | succ d ih =>
    intro i k hi hk
    obtain ⟨k, rfl⟩ : ∃ m, k = m + 1 := ⟨k - 1, by omega⟩
    simp only [hypogeumref02_words.l1]
    have hW := extW_isW (upW_isW hb 16) i
    have hl := extW_length i (upW b 16)
    rw [upW_length] at hl
    have w2 : wrap64 (((16 + i : Nat) : Int) - 2) = ((14 + i : Nat) : Int) := by unfold wrap64; omega
    have w7 : wrap64 (((16 + i : Nat) : Int) - 7) = ((9 + i : Nat) : Int) := by unfold wrap64; omega
    have w15 : wrap64 (((16 + i : Nat) : Int) - 15) = ((1 + i : Nat) : Int) := by unfold wrap64; omega
    have w16 : wrap64 (((16 + i : Nat) : Int) - 16) = ((i : Nat) : Int) := by unfold wrap64; omega
    have w1 : wrap64 (((16 + i : Nat) : Int) + 1) = ((16 + (i + 1) : Nat) : Int) := by unfold wrap64; omega
    have r : ∀ j : Nat, rd (extW i (upW b 16)) (j : Int) = (extW i (upW b 16)).getD j 0 := fun j => by simp [rd]
    have q14 := getD_isW hW (14 + i)
    have q1 := getD_isW hW (1 + i)
    rw [w2, w7, w15, w16, w1, r, r, r, r]
    rw [if_pos (by omega), if_pos (by omega), if_pos (by omega), if_pos (by omega), if_pos (by omega)]
    rw [right_eq _ 17 q14.1 q14.2 (by omega) k (by omega)]
    simp only [Option.bind_some]
    rw [right_eq _ 19 q14.1 q14.2 (by omega) k (by omega)]
    simp only [Option.bind_some]
    have d10 := down_eq _ q14.1 q14.2 10 (by omega) k (by omega)
    have d3 := down_eq _ q1.1 q1.2 3 (by omega) k (by omega)
    rw [show ((10 : Nat) : Int) = 10 from rfl] at d10
    rw [show ((3 : Nat) : Int) = 3 from rfl] at d3
    rw [d10]
    simp only [Option.bind_some]
    rw [right_eq _ 7 q1.1 q1.2 (by omega) k (by omega)]
    simp only [Option.bind_some]
    rw [right_eq _ 18 q1.1 q1.2 (by omega) k (by omega)]
    simp only [Option.bind_some]
    rw [d3]
    simp only [Option.bind_some]
    rw [if_pos (by omega), if_pos (by omega), if_pos (by omega), if_pos (by omega), if_pos (by omega)]
    have en : ((((((Go.bits .xor .u32 (Go.bits .xor .u32 (turn ((extW i (upW b 16)).getD (14 + i) 0) (-17)) (turn ((extW i (upW b 16)).getD (14 + i) 0) (-19))) ((extW i (upW b 16)).getD (14 + i) 0 / 2 ^ 10)) + (extW i (upW b 16)).getD (9 + i) 0) % 4294967296) + (Go.bits .xor .u32 (Go.bits .xor .u32 (turn ((extW i (upW b 16)).getD (1 + i) 0) (-7)) (turn ((extW i (upW b 16)).getD (1 + i) 0) (-18))) ((extW i (upW b 16)).getD (1 + i) 0 / 2 ^ 3))) % 4294967296) + (extW i (upW b 16)).getD i 0) % 4294967296 = nextW (extW i (upW b 16)) := by
      unfold nextW lateS earlyS xor32
      rw [hl, show 16 + i - 2 = 14 + i by omega, show 16 + i - 7 = 9 + i by omega, show 16 + i - 15 = 1 + i by omega, show 16 + i - 16 = i by omega]
      rw [show (2 : Int) ^ 10 = 1024 from by decide, show (2 : Int) ^ 3 = 8 from by decide]
    rw [en]
    exact ih (i + 1) k (by omega) (by omega)
theorem words_l0 (b : List Int) (hb : IsB b) (hl : b.length = 64) : ∀ (d i k : Nat), i + d = 16 → 200 + d < k → hypogeumref02_words.l0 k b (upW b i) (i : Int) = some (schedS b) := by
  intro d
  induction d with
  | zero =>
    intro i k hi hk
    obtain ⟨k, rfl⟩ : ∃ m, k = m + 1 := ⟨k - 1, by omega⟩
    simp only [hypogeumref02_words.l0]
    rw [if_neg (by omega), show i = 16 by omega]
    exact words_l1 b hb 48 0 k (by omega) (by omega)
  | succ d ih =>
    intro i k hi hk
    obtain ⟨k, rfl⟩ : ∃ m, k = m + 1 := ⟨k - 1, by omega⟩
    simp only [hypogeumref02_words.l0]
    have w4 : wrap64 (4 * (i : Int)) = ((4 * i : Nat) : Int) := by unfold wrap64; omega
    have w44 : wrap64 (((4 * i : Nat) : Int) + 4) = ((4 * i + 4 : Nat) : Int) := by unfold wrap64; omega
    rw [w4, w44, if_pos (by omega), if_pos (by omega), if_pos (by omega), if_pos (by omega)]
    rw [Int.toNat_natCast, Int.toNat_natCast]
    have e : (b.take (4 * i + 4)).drop (4 * i) = (b.drop (4 * i)).take 4 := by rw [List.drop_take]; congr 1; omega
    have hI : IsB ((b.drop (4 * i)).take 4) := fun x hx => hb x (List.mem_of_mem_drop (List.mem_of_mem_take hx))
    rw [e, refLoad_eq _ hI false k (by omega)]
    simp only [Option.bind_some]
    have ew : (loadW ((b.drop (4 * i)).take 4) false).1 = wordAt b i := by
      unfold loadW wordAt
      rw [if_pos (by simp; omega)]; rfl
    rw [if_pos (by rw [upW_length]; omega), ew, ← upW_succ, show wrap64 ((i : Int) + 1) = ((i + 1 : Nat) : Int) by unfold wrap64; omega]
    exact ih (i + 1) k (by omega) (by omega)
theorem words_eq (b : List Int) (hb : IsB b) (hl : b.length = 64) (k : Nat) (hk : 300 ≤ k) : hypogeumref02_words.f k b = some (schedS b) :=
  words_l0 b hb hl 16 0 k (by omega) (by omega)
theorem refStore_eq (a : Int) (h0 : 0 ≤ a) (h1 : a < 4294967296) (low : Bool) (k : Nat) (hk : 2002 ≤ k) : hypogeumref01_Store.f k a low = some (storeW a low) := by
  unfold hypogeumref01_Store.f storeW
  rw [IntKind.wrap_u64, Int.emod_eq_of_lt (by omega) (by omega)]
  have := Told_eq a h0 (by omega) 4 (by omega) k hk
  rw [show ((4 : Nat) : Int) = 4 from rfl] at this
  rw [this]
  simp only [Option.bind_some]
  cases low
  · rfl
  · rw [if_pos rfl, Back_eq _ (by simp [told_length]) k (by simp [told_length]; omega)]; rfl
theorem Join_eq (a b : List Int) (h : a.length + b.length < 140737488355328) : hypogeumref02_Join.f a b = some (a ++ b) := by
  unfold hypogeumref02_Join.f
  simp only [Option.bind_some]
  rw [if_pos (by simp; omega), List.nil_append, if_pos h]
end Go.Proofs.YtmmbonlidcbkcaaDoor.PlainLabelRings
