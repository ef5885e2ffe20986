/- Plain facts on the printed functions of NonceBytes: what each gives at every input that comes up, told in the words of YtlaoodlfkcnnnaaNum. -/
import Derived.Test.YtlaoodlfkcnnnaaPNonceBytesx1
import Derived.Test.YtlaoodlfkcnnnaaPNonceBytesx2
import Derived.Test.YtlaoodlfkcnnnaaNum
namespace Go.Proofs.Ytlaoodlfkcnnnaa.PlainNonceBytes
open Go.RowKit Go.Proofs.Ytlaoodlfkcnnnaa.PNonceBytes Go.Proofs.YtlaoodlfkcnnnaaW.PrintWords Go.Proofs.Ytlaoodlfkcnnnaa.Num
set_option linter.unusedVariables false
theorem Load_eq (l : List Int) (hb : IsB l) (low : Bool) (k : Nat) (hk : 5 ≤ k) : word_Load.f k l low = some (loadW l low) := by
  obtain ⟨j, rfl⟩ : ∃ j, k = j + 5 := ⟨k - 5, by omega⟩
  unfold word_Load.f loadW
  by_cases h4 : l.length = 4
  · rw [if_pos (by omega), if_pos h4]
    match l, h4, hb with
    | [a, b, c, d], _, hb =>
      have ha := hb a (by simp)
      have hb' := hb b (by simp)
      have hc := hb c (by simp)
      have hd := hb d (by simp)
      cases low <;> simp only [word_Load.l0, wrap64, rd, be, List.length_cons, List.length_nil] <;> simp (disch := omega) [first32, join32]
  · rw [if_neg (by omega), if_neg h4]
theorem Long_eq (l : List Int) (hb : IsB l) (k : Nat) (hk : 9 ≤ k) : word_Long.f k l = some (longW l) := by
  obtain ⟨j, rfl⟩ : ∃ j, k = j + 9 := ⟨k - 9, by omega⟩
  unfold word_Long.f longW
  by_cases h8 : l.length = 8
  · rw [if_pos (by omega), if_pos h8]
    match l, h8, hb with
    | [a, b, c, d, e, f, g, h], _, hb =>
      have ha := hb a (by simp)
      have hb' := hb b (by simp)
      have hc := hb c (by simp)
      have hd := hb d (by simp)
      have he := hb e (by simp)
      have hf := hb f (by simp)
      have hg := hb g (by simp)
      have hh := hb h (by simp)
      simp only [word_Long.l0, wrap64, rd, be, List.length_cons, List.length_nil, IntKind.wrap_u64]
      simp (disch := omega) [first64, join64']
  · rw [if_neg (by omega), if_neg h8]
theorem Back_l (l : List Int) (hn : l.length ≤ 140737488351232) : ∀ (i k : Nat) (out : List Int), i ≤ l.length → out.length + i ≤ l.length → i < k →
    hypogeumref01_Back.l0 k l out ((i : Int) - 1) = some (out ++ (l.take i).reverse) := by
  intro i
  induction i with
  | zero =>
    intro k out _ _ hk
    obtain ⟨k, rfl⟩ : ∃ m, k = m + 1 := ⟨k - 1, by omega⟩
    simp only [hypogeumref01_Back.l0]
    rw [if_neg (by omega)]; simp
  | succ i ih =>
    intro k out hi ho hk
    obtain ⟨k, rfl⟩ : ∃ m, k = m + 1 := ⟨k - 1, by omega⟩
    simp only [hypogeumref01_Back.l0]
    rw [if_pos (by omega), if_pos (by omega), if_pos (by omega), if_pos (by omega)]
    rw [show wrap64 (((i + 1 : Nat) : Int) - 1 - 1) = (i : Int) - 1 by unfold wrap64; omega]
    rw [ih k _ (by omega) (by simp; omega) (by omega)]
    rw [List.take_add_one, List.getElem?_eq_getElem (by omega)]
    simp only [rd, Option.toList_some, List.reverse_append, List.reverse_cons, List.reverse_nil, List.nil_append, List.append_assoc, List.cons_append]
    rw [show (((i + 1 : Nat) : Int) - 1).toNat = i by omega, List.getD_eq_getElem?_getD, List.getElem?_eq_getElem (by omega)]
    rfl
theorem Back_eq (l : List Int) (hn : l.length ≤ 140737488351232) (k : Nat) (hk : l.length < k) : hypogeumref01_Back.f k l = some l.reverse := by
  unfold hypogeumref01_Back.f
  rw [show wrap64 ((l.length : Int) - 1) = (l.length : Int) - 1 by unfold wrap64; omega, Back_l l hn l.length k [] (by omega) (by simp) hk]
  simp
theorem worth_l (l : List Int) (hn : l.length ≤ 140737488351232) : ∀ (d i k : Nat) (x : Int), i + d = l.length → d < k →
    hypogeumref01_worth.l0 k l x (i : Int) = some ((l.drop i).foldl (fun a y => (a * 256 + y) % 18446744073709551616) (x % 18446744073709551616)) ∨ (x < 0 ∨ 18446744073709551616 ≤ x) := by
  intro d
  induction d with
  | zero =>
    intro i k x hi hk
    obtain ⟨k, rfl⟩ : ∃ m, k = m + 1 := ⟨k - 1, by omega⟩
    by_cases hx : x < 0 ∨ 18446744073709551616 ≤ x
    · exact .inr hx
    · left
      simp only [hypogeumref01_worth.l0]
      rw [if_neg (by omega), List.drop_of_length_le (by omega)]
      simp only [List.foldl_nil]
      rw [Int.emod_eq_of_lt (by omega) (by omega)]
  | succ d ih =>
    intro i k x hi hk
    obtain ⟨k, rfl⟩ : ∃ m, k = m + 1 := ⟨k - 1, by omega⟩
    by_cases hx : x < 0 ∨ 18446744073709551616 ≤ x
    · exact .inr hx
    · left
      simp only [hypogeumref01_worth.l0]
      rw [if_pos (by omega), if_pos (by omega)]
      rw [show wrap64 ((i : Int) + 1) = ((i + 1 : Nat) : Int) by unfold wrap64; omega]
      rw [IntKind.wrap_u64, IntKind.wrap_u64, IntKind.wrap_u64]
      have h := ih (i + 1) k ((x * 256 % 18446744073709551616 + rd l i % 18446744073709551616) % 18446744073709551616) (by omega) (by omega)
      rcases h with h | h
      · rw [h, List.drop_eq_getElem_cons (by omega : i < l.length)]
        simp only [List.foldl_cons]
        congr 2
        rw [show rd l (i : Int) = l[i] by simp [rd, List.getD_eq_getElem?_getD, List.getElem?_eq_getElem (by omega : i < l.length)]]
        omega
      · omega
theorem worth_eq (l : List Int) (hn : l.length ≤ 140737488351232) (k : Nat) (hk : l.length < k) : hypogeumref01_worth.f k l = some (l.foldl (fun a y => (a * 256 + y) % 18446744073709551616) 0) := by
  unfold hypogeumref01_worth.f
  rcases worth_l l hn l.length 0 k 0 (by omega) hk with h | h
  · simpa using h
  · omega
theorem refLoad_eq (l : List Int) (hb : IsB l) (low : Bool) (k : Nat) (hk : 5 ≤ k) : hypogeumref01_Load.f k l low = some (loadW l low) := by
  unfold hypogeumref01_Load.f loadW
  by_cases h4 : l.length = 4
  · rw [if_pos (by omega), if_pos h4]
    cases low
    · rw [if_neg (by simp), worth_eq l (by omega) k (by omega)]
      simp only [Option.bind_some, Bool.false_eq_true, if_false]
      rw [fold_be 4 l (by omega) (by omega) hb, Int.emod_eq_of_lt (be_range l hb).1 (by have := (be_range l hb).2; rw [h4] at this; simpa using this)]
    · rw [if_pos rfl, Back_eq l (by omega) k (by omega)]
      simp only [Option.bind_some, if_true]
      have hb' : IsB l.reverse := fun x hx => hb x (by simpa using hx)
      have h4' : l.reverse.length = 4 := by simpa using h4
      rw [worth_eq _ (by omega) k (by omega)]
      simp only [Option.bind_some]
      rw [fold_be 4 _ (by omega) (by omega) hb', Int.emod_eq_of_lt (be_range _ hb').1 (by have := (be_range _ hb').2; rw [h4'] at this; simpa using this)]
  · rw [if_neg (by omega), if_neg h4]
theorem refLong_eq (l : List Int) (hb : IsB l) (k : Nat) (hk : 9 ≤ k) : hypogeumref01_Long.f k l = some (longW l) := by
  unfold hypogeumref01_Long.f longW
  by_cases h8 : l.length = 8
  · rw [if_pos (by omega), if_pos h8, worth_eq l (by omega) k (by omega)]
    simp only [Option.bind_some]
    rw [fold_be 8 l (by omega) (by omega) hb]
  · rw [if_neg (by omega), if_neg h8]
theorem Told_l (n : Int) (h0 : 0 ≤ n) (h1 : n < 18446744073709551616) : ∀ (d i k sz : Nat) (x : Int) (out : List Int), 0 ≤ x → x < 18446744073709551616 → i + d = sz → sz ≤ 1000 → out.length = i → sz + d + 1 < k →
    hypogeumref01_Told.l0 k x (sz : Int) out (i : Int) = some (told d x ++ out.reverse) := by
  intro d
  induction d with
  | zero =>
    intro i k sz x out hx0 hx1 hi hs ho hk
    obtain ⟨k, rfl⟩ : ∃ m, k = m + 1 := ⟨k - 1, by omega⟩
    simp only [hypogeumref01_Told.l0]
    rw [if_neg (by omega), Back_eq out (by omega) k (by omega)]
    simp [told]
  | succ d ih =>
    intro i k sz x out hx0 hx1 hi hs ho hk
    obtain ⟨k, rfl⟩ : ∃ m, k = m + 1 := ⟨k - 1, by omega⟩
    simp only [hypogeumref01_Told.l0]
    rw [if_pos (by omega), if_pos (by omega), show wrap64 ((i : Int) + 1) = ((i + 1 : Nat) : Int) by unfold wrap64; omega]
    rw [IntKind.wrap_u64, Int.tdiv_eq_ediv_of_nonneg hx0, Int.tmod_eq_emod_of_nonneg hx0, Int.emod_eq_of_lt (by omega) (by omega), Int.emod_emod]
    rw [ih (i + 1) k sz (x / 256) _ (by omega) (by omega) (by omega) hs (by simp; omega) (by omega)]
    simp [told]
theorem Told_eq (n : Int) (h0 : 0 ≤ n) (h1 : n < 18446744073709551616) (sz : Nat) (hs : sz ≤ 1000) (k : Nat) (hk : 2002 ≤ k) : hypogeumref01_Told.f k n (sz : Int) = some (told sz n) := by
  unfold hypogeumref01_Told.f
  have := Told_l n h0 h1 sz 0 k sz n [] h0 h1 (by omega) hs rfl (by omega)
  simpa using this
theorem Read_eq (l : List Int) (hb : IsB l) (k : Nat) (hk : 9 ≤ k) : nonce_Read.f k l = some (readW l) := by
  unfold nonce_Read.f readW
  by_cases h : l.length = 12
  · rw [if_pos (by omega), if_pos (by omega), if_pos h]
    have h1 : IsB (l.take 4) := fun x hx => hb x (List.mem_of_mem_take hx)
    have h2 : IsB (l.drop 4) := fun x hx => hb x (List.mem_of_mem_drop hx)
    have l1 : (l.take 4).length = 4 := by simp; omega
    have l2 : (l.drop 4).length = 8 := by simp; omega
    have e1 : loadW (l.take 4) false = (be (l.take 4), 0) := by unfold loadW; rw [if_pos l1]; rfl
    have e2 : longW (l.drop 4) = (be (l.drop 4), 0) := by unfold longW; rw [if_pos l2]
    have r1 := be_range _ h1
    have r2 := be_range _ h2
    rw [l1] at r1
    rw [l2] at r2
    rw [Load_eq _ h1 false k (by omega), e1]
    simp only [Option.bind_some]
    rw [Long_eq _ h2 k hk, e2]
    simp only [Option.bind_some]
    by_cases c1 : be (l.take 4) > 64
    · rw [if_pos c1, if_pos c1]
    · rw [if_neg c1, if_neg c1]
      by_cases c2 : be (l.drop 4) > 1099511627776
      · rw [if_pos c2, if_pos c2]
      · rw [if_neg c2, if_neg c2, show wrap64 (be (l.take 4)) = be (l.take 4) by unfold wrap64; omega, show wrap64 (be (l.drop 4)) = be (l.drop 4) by unfold wrap64; omega]
  · rw [if_neg (by omega), if_neg h]
theorem refRead_eq (l : List Int) (hb : IsB l) (k : Nat) (hk : 9 ≤ k) : hypogeumref10_Read.f k l = some (readW l) := by
  unfold hypogeumref10_Read.f readW
  by_cases h : l.length = 12
  · rw [if_pos (by omega), if_pos (by omega), if_pos h]
    have h1 : IsB (l.take 4) := fun x hx => hb x (List.mem_of_mem_take hx)
    have h2 : IsB (l.drop 4) := fun x hx => hb x (List.mem_of_mem_drop hx)
    have l1 : (l.take 4).length = 4 := by simp; omega
    have l2 : (l.drop 4).length = 8 := by simp; omega
    have e1 : loadW (l.take 4) false = (be (l.take 4), 0) := by unfold loadW; rw [if_pos l1]; rfl
    have e2 : longW (l.drop 4) = (be (l.drop 4), 0) := by unfold longW; rw [if_pos l2]
    have r1 := be_range _ h1
    have r2 := be_range _ h2
    rw [l1] at r1
    rw [l2] at r2
    rw [refLoad_eq _ h1 false k (by omega), e1]
    simp only [Option.bind_some]
    rw [refLong_eq _ h2 k hk, e2]
    simp only [Option.bind_some]
    by_cases c1 : be (l.take 4) > 64
    · rw [if_pos c1, if_pos c1]
    · rw [if_neg c1, if_neg c1]
      by_cases c2 : be (l.drop 4) > 1099511627776
      · rw [if_pos c2, if_pos c2]
      · rw [if_neg c2, if_neg c2, show wrap64 (be (l.take 4)) = be (l.take 4) by unfold wrap64; omega, show wrap64 (be (l.drop 4)) = be (l.drop 4) by unfold wrap64; omega]
  · rw [if_neg (by omega), if_neg h]
theorem refRightW_eq (e n : Int) : hypogeumref10_Right.f e n = some (rightW e n) := by
  unfold hypogeumref10_Right.f rightW
  by_cases h1 : e ≥ 0 <;> by_cases h2 : e ≤ 64 <;> by_cases h3 : n ≥ 0 <;> simp [h1, h2, h3] <;> omega
theorem refOf_eq (e n : Int) (k : Nat) (hk : 2002 ≤ k) : hypogeumref10_Of.f k e n = some (if rightW e n = true then (told 4 e ++ told 8 n, 0) else ([], 1)) := by
  unfold hypogeumref10_Of.f
  rw [refRightW_eq]
  simp only [Option.bind_some]
  by_cases h : rightW e n = true
  · rw [if_pos h, if_pos h]
    have hr := rightW_iff.1 h
    have h4 := Told_eq e hr.1 (by omega) 4 (by omega) k hk
    have h8 := Told_eq n hr.2.2.1 (by omega) 8 (by omega) k hk
    rw [show ((4 : Nat) : Int) = 4 from rfl] at h4
    rw [show ((8 : Nat) : Int) = 8 from rfl] at h8
    rw [IntKind.wrap_u64, IntKind.wrap_u64, Int.emod_eq_of_lt hr.1 (by omega), Int.emod_eq_of_lt hr.2.2.1 (by omega), h4]
    simp only [Option.bind_some]
    rw [h8]
    simp only [Option.bind_some]
    rw [if_pos (by simp [told_length])]
  · rw [if_neg h, if_neg h]
end Go.Proofs.Ytlaoodlfkcnnnaa.PlainNonceBytes
