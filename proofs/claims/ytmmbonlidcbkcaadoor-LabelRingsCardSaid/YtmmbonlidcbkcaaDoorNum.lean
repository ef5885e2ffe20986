/-
  Plain facts on whole numbers: bytes joined to words, words turned. No program is named here.
-/
import Derived.Laws.BitsAllLaws
import Derived.Laws.BytesArg
import Derived.RowKit
import Derived.Test.YtmmbonlidcbkcaaDoorWMore
set_option linter.unusedVariables false
namespace Go.Proofs.YtmmbonlidcbkcaaDoor.Num
open Go.RowKit Go.Proofs.YtmmbonlidcbkcaaDoorW.PrintWords

theorem wf_u8 {x : Int} (h : (Lit.int .u8 x).wf = true) : 0 ≤ x ∧ x < 256 := by
  have h' : 0 ≤ x ∧ x ≤ 255 := by simpa [Lit.wf, IntKind.min, IntKind.max, IntKind.signed, IntKind.bits] using h
  omega
theorem wf_u32 {x : Int} (h : (Lit.int .u32 x).wf = true) : 0 ≤ x ∧ x < 4294967296 := by
  have h' : 0 ≤ x ∧ x ≤ 4294967295 := by simpa [Lit.wf, IntKind.min, IntKind.max, IntKind.signed, IntKind.bits] using h
  omega
theorem wf_u64 {x : Int} (h : (Lit.int .u64 x).wf = true) : 0 ≤ x ∧ x < 18446744073709551616 := by
  have h' : 0 ≤ x ∧ x ≤ 18446744073709551615 := by simpa [Lit.wf, IntKind.min, IntKind.max, IntKind.signed, IntKind.bits] using h
  omega
theorem wf_i64 {x : Int} (h : (Lit.int .i64 x).wf = true) : -9223372036854775808 ≤ x ∧ x ≤ 9223372036854775807 := by
  simpa [Lit.wf, IntKind.min, IntKind.max, IntKind.signed, IntKind.bits] using h

/-! ### Bytes joined -/
theorem join32 (x y : Int) (h0 : 0 ≤ x) (h1 : x < 16777216) (h2 : 0 ≤ y) (h3 : y < 256) :
    Go.bits .or .u32 ((x * 256) % 4294967296) (y % 4294967296) = x * 256 + y := by
  rw [Int.emod_eq_of_lt (by omega) (by omega), Int.emod_eq_of_lt (by omega) (by omega), u32_or _ _ (by omega) (by omega) (by omega) (by omega)]
  rw [nat_join 8 _ _ (by omega) (by omega)]
  omega
theorem join64 (x y : Int) (h0 : 0 ≤ x) (h1 : x < 72057594037927936) (h2 : 0 ≤ y) (h3 : y < 256) :
    Go.bits .or .u64 (IntKind.u64.wrap (x * 256)) (IntKind.u64.wrap y) = x * 256 + y := by
  rw [IntKind.wrap_u64, IntKind.wrap_u64, Int.emod_eq_of_lt (by omega) (by omega), Int.emod_eq_of_lt (by omega) (by omega), u64_or _ _ (by omega) (by omega) (by omega) (by omega)]
  rw [nat_join 8 _ _ (by omega) (by omega)]
  omega
theorem join64' (x y : Int) (h0 : 0 ≤ x) (h1 : x < 72057594037927936) (h2 : 0 ≤ y) (h3 : y < 256) :
    Go.bits .or .u64 ((x * 256) % 18446744073709551616) (y % 18446744073709551616) = x * 256 + y := by
  have := join64 x y h0 h1 h2 h3
  rwa [IntKind.wrap_u64, IntKind.wrap_u64] at this
theorem first32 (y : Int) (h2 : 0 ≤ y) (h3 : y < 256) : Go.bits .or .u32 0 (y % 4294967296) = y := by
  have := join32 0 y (by omega) (by omega) h2 h3
  simpa using this
theorem first64 (y : Int) (h2 : 0 ≤ y) (h3 : y < 256) : Go.bits .or .u64 0 (y % 18446744073709551616) = y := by
  have := join64' 0 y (by omega) (by omega) h2 h3
  simpa using this
/-- What bytes are worth, the first the highest. -/
def be (l : List Int) : Int := l.foldl (fun a x => a * 256 + x) 0
def IsB (l : List Int) : Prop := ∀ x ∈ l, 0 ≤ x ∧ x < 256
theorem isB_of_wf {l : List Int} (h : ∀ x ∈ l, (Lit.int .u8 x).wf = true) : IsB l := fun x hx => wf_u8 (h x hx)

theorem be_snoc (l : List Int) (x : Int) : be (l ++ [x]) = be l * 256 + x := by simp [be, List.foldl_append]
theorem pow256 (m : Nat) (h : m ≤ 7) : (256 : Int) ^ m ≤ 72057594037927936 := by
  have hc : m = 0 ∨ m = 1 ∨ m = 2 ∨ m = 3 ∨ m = 4 ∨ m = 5 ∨ m = 6 ∨ m = 7 := by omega
  rcases hc with rfl | rfl | rfl | rfl | rfl | rfl | rfl | rfl <;> decide
theorem be_range (l : List Int) (h : IsB l) : 0 ≤ be l ∧ be l < 256 ^ l.length := by
  have key : ∀ (l : List Int) (m : Nat) (a : Int), IsB l → 0 ≤ a → a < 256 ^ m → 0 ≤ l.foldl (fun a x => a * 256 + x) a ∧ l.foldl (fun a x => a * 256 + x) a < 256 ^ (m + l.length) := by
    intro l
    induction l with
    | nil => intro m a _ h0 h1; exact ⟨h0, by simpa using h1⟩
    | cons x l ih =>
      intro m a hb h0 h1
      have hx := hb x (by simp)
      have hs : (256 : Int) ^ (m + 1) = 256 ^ m * 256 := Int.pow_succ _ _
      have := ih (m + 1) (a * 256 + x) (fun y hy => hb y (by simp [hy])) (by omega) (by omega)
      simp only [List.foldl_cons, List.length_cons]
      rw [show m + (l.length + 1) = m + 1 + l.length by omega]
      exact this
  have := key l 0 0 h (by omega) (by simp)
  simpa [be] using this
/-- What the document's reader of bytes counts modulo 2^64 is what they are worth, up to eight of them. -/
theorem fold_be (n : Nat) (l : List Int) (hn : n ≤ 8) (hl : l.length ≤ n) (h : IsB l) : l.foldl (fun a y => (a * 256 + y) % 18446744073709551616) 0 = be l := by
  have key : ∀ (l : List Int) (m : Nat) (a : Int), IsB l → 0 ≤ a → a < 256 ^ m → m + l.length ≤ 8 → l.foldl (fun a y => (a * 256 + y) % 18446744073709551616) a = l.foldl (fun a x => a * 256 + x) a := by
    intro l
    induction l with
    | nil => intros; rfl
    | cons x l ih =>
      intro m a hb h0 h1 hm
      have hx := hb x (by simp)
      simp only [List.foldl_cons]
      have hp := pow256 m (by simp at hm; omega)
      have hs : (256 : Int) ^ (m + 1) = 256 ^ m * 256 := Int.pow_succ _ _
      have e : (a * 256 + x) % 18446744073709551616 = a * 256 + x := Int.emod_eq_of_lt (by omega) (by omega)
      rw [e]
      exact ih (m + 1) _ (fun y hy => hb y (by simp [hy])) (by omega) (by omega) (by simp at hm; omega)
  exact key l 0 0 h (by omega) (by simp) (by omega)
def loadW (l : List Int) (low : Bool) : Int × Int := if l.length = 4 then (be (if low = true then l.reverse else l), 0) else (0, 1)
def longW (l : List Int) : Int × Int := if l.length = 8 then (be l, 0) else (0, 1)
/-- A number in so many bytes, the highest first. -/
def told : Nat → Int → List Int
  | 0, _ => []
  | n + 1, x => told n (x / 256) ++ [x % 256]
theorem told_length (n : Nat) : ∀ x, (told n x).length = n := by
  induction n with
  | zero => intro x; rfl
  | succ n ih => intro x; simp [told, ih]
theorem told_isB (n : Nat) : ∀ x, IsB (told n x) := by
  induction n with
  | zero => intro x y hy; simp [told] at hy
  | succ n ih =>
    intro x y hy
    simp only [told, List.mem_append, List.mem_singleton] at hy
    rcases hy with hy | rfl
    · exact ih _ y hy
    · omega
theorem be_told (n : Nat) : ∀ x : Int, 0 ≤ x → x < 256 ^ n → be (told n x) = x := by
  induction n with
  | zero => intro x h0 h1; simp at h1; simp [told, be]; omega
  | succ n ih =>
    intro x h0 h1
    rw [Int.pow_succ] at h1
    simp only [told]
    rw [be_snoc, ih (x / 256) (by omega) (by omega)]
    omega
def storeW (a : Int) (low : Bool) : List Int := if low = true then (told 4 a).reverse else told 4 a
theorem storeW_length (a : Int) (low : Bool) : (storeW a low).length = 4 := by unfold storeW; split <;> simp [told_length]
theorem storeW_isB (a : Int) (low : Bool) : IsB (storeW a low) := by
  unfold storeW; split
  · intro x hx; exact told_isB 4 a x (by simpa using hx)
  · exact told_isB 4 a
theorem load_store (a : Int) (h0 : 0 ≤ a) (h1 : a < 4294967296) (low : Bool) : loadW (storeW a low) low = (a, 0) := by
  unfold loadW
  rw [if_pos (storeW_length a low)]
  cases low <;> simp [storeW, be_told 4 a h0 (by simpa using h1)]
theorem long_told (a : Int) (h0 : 0 ≤ a) (h1 : a < 18446744073709551616) : longW (told 8 a) = (a, 0) := by
  unfold longW
  rw [if_pos (told_length 8 a), be_told 8 a h0 (by simpa using h1)]
/-- Which of two, by a mask. -/
theorem choose_bits (b x y : Int) (h0 : 0 ≤ b) (h1 : b < 4294967296) (h2 : 0 ≤ x) (h3 : x < 4294967296) (h4 : 0 ≤ y) (h5 : y < 4294967296) :
    Go.bits .or .u32 (Go.bits .andNot .u32 x ((-((Go.bits .or .u32 b ((-b) % 4294967296)) / 2147483648)) % 4294967296)) (Go.bits .and .u32 y ((-((Go.bits .or .u32 b ((-b) % 4294967296)) / 2147483648)) % 4294967296)) = if b = 0 then x else y := by
  by_cases hb : b = 0
  · subst hb
    rw [if_pos rfl]
    have e1 : (-((Go.bits .or .u32 0 ((-0) % 4294967296)) / 2147483648)) % 4294967296 = (0 : Int) := by decide
    rw [e1, u32_andNot x 0 h2 h3 (by omega) (by omega), u32_and y 0 h4 h5 (by omega) (by omega)]
    have e2 : x.toNat &&& (4294967295 - (0 : Int).toNat) = x.toNat := by
      rw [show 4294967295 - (0 : Int).toNat = 4294967295 from rfl, nat_mask32]; omega
    rw [e2, show (0 : Int).toNat = 0 from rfl, Nat.and_zero, u32_or_nat _ _ (by omega) (by omega), Nat.or_zero]
    omega
  · rw [if_neg hb]
    have e1 : (Go.bits .or .u32 b ((-b) % 4294967296)) / 2147483648 = 1 := by
      obtain ⟨B, rfl⟩ := Int.eq_ofNat_of_zero_le h0
      have eN : (-(B : Int)) % 4294967296 = ((4294967296 - B : Nat) : Int) := by omega
      rw [eN, u32_or_nat _ _ (by omega) (by omega)]
      have l1 : B ≤ B ||| (4294967296 - B) := Nat.left_le_or
      have l2 : 4294967296 - B ≤ B ||| (4294967296 - B) := Nat.right_le_or
      have l3 : B ||| (4294967296 - B) < 2 ^ 32 := Nat.or_lt_two_pow (by omega) (by omega)
      omega
    rw [e1, show (-1 : Int) % 4294967296 = 4294967295 from by decide, u32_andNot x _ h2 h3 (by omega) (by omega), u32_and y _ h4 h5 (by omega) (by omega)]
    rw [show 4294967295 - (4294967295 : Int).toNat = 0 from rfl, Nat.and_zero, show (4294967295 : Int).toNat = 4294967295 from rfl, nat_mask32, u32_or_nat _ _ (by omega) (by omega), Nat.zero_or]
    omega

/-- Are two lists the same? -/
def eqB (l l' : List Int) : Bool := l == l'
theorem eqB_self (l : List Int) : eqB l l = true := by simp [eqB]
theorem eqB_iff {l l' : List Int} : eqB l l' = true ↔ l = l' := by simp [eqB]
theorem u8_inj {x y : Int} (hx : 0 ≤ x ∧ x < 256) (hy : 0 ≤ y ∧ y < 256) (h : UInt8.ofNat x.toNat = UInt8.ofNat y.toNat) : x = y := by
  have := congrArg UInt8.toNat h
  simp only [UInt8.toNat_ofNat'] at this
  omega
theorem str_inj {l l' : List Int} (h : IsB l) (h' : IsB l') (e : (strOfNums l).toList = (strOfNums l').toList) : l = l' := by
  rw [ByteArray.toList_eq, ByteArray.toList_eq, strOfNums_data, strOfNums_data] at e
  induction l generalizing l' with
  | nil => cases l' with
    | nil => rfl
    | cons y l' => simp at e
  | cons x l ih => cases l' with
    | nil => simp at e
    | cons y l' =>
      simp only [List.map_cons, List.cons.injEq] at e
      rw [u8_inj (h x (by simp)) (h' y (by simp)) e.1, ih (fun z hz => h z (by simp [hz])) (fun z hz => h' z (by simp [hz])) e.2]
theorem str_eq {l l' : List Int} (h : IsB l) (h' : IsB l') : ((strOfNums l).toList == (strOfNums l').toList) = eqB l l' := by
  rw [Bool.eq_iff_iff]
  simp only [eqB, beq_iff_eq]
  exact ⟨str_inj h h', fun e => by rw [e]⟩
theorem str_self (l : List Int) : ((strOfNums l).toList == (strOfNums l).toList) = true := by simp
/-- How the program holds two bytes against each other. -/
theorem unlike (x a b : Int) (hx : 0 ≤ x ∧ x < 256) (ha : 0 ≤ a ∧ a < 256) (hb : 0 ≤ b ∧ b < 256) :
    (0 ≤ Go.bits .or .u8 x (Go.bits .xor .u8 a b) ∧ Go.bits .or .u8 x (Go.bits .xor .u8 a b) < 256) ∧ (Go.bits .or .u8 x (Go.bits .xor .u8 a b) = 0 ↔ x = 0 ∧ a = b) := by
  obtain ⟨X, rfl⟩ := Int.eq_ofNat_of_zero_le hx.1
  obtain ⟨A, rfl⟩ := Int.eq_ofNat_of_zero_le ha.1
  obtain ⟨B, rfl⟩ := Int.eq_ofNat_of_zero_le hb.1
  have hxb : A ^^^ B < 2 ^ 8 := Nat.xor_lt_two_pow (by omega) (by omega)
  rw [u8_xor_nat _ _ (by omega) (by omega), u8_or_nat _ _ (by omega) (by omega)]
  have ho : X ||| (A ^^^ B) < 2 ^ 8 := Nat.or_lt_two_pow (by omega) hxb
  refine ⟨by omega, ?_⟩
  rw [show (((X ||| (A ^^^ B) : Nat) : Int) = 0 ↔ X ||| (A ^^^ B) = 0) by omega, Nat.or_eq_zero_iff]
  constructor
  · rintro ⟨h1, h2⟩
    have h3 : A = B := by
      have := congrArg (· ^^^ B) h2
      simpa [Nat.xor_assoc, Nat.xor_self] using this
    omega
  · rintro ⟨h1, h2⟩
    have h3 : A = B := by omega
    subst h3
    exact ⟨by omega, Nat.xor_self _⟩

/-- How many noughts fill n bytes up to a multiple of s. -/
def pad (n s : Nat) : Nat := (s - n % s) % s
theorem pad_int (n s : Nat) (h : 1 ≤ s) : ((s : Int) - (n : Int) % (s : Int)) % (s : Int) = (pad n s : Nat) := by
  unfold pad
  have := Nat.mod_lt n (show 0 < s by omega)
  rw [Int.natCast_emod, Int.natCast_sub (by omega), Int.natCast_emod]
theorem pad_lt (n s : Nat) (h : 1 ≤ s) : pad n s < s := Nat.mod_lt _ (by omega)
theorem pad_zero (n s : Nat) (hz : n % s = 0) : pad n s = 0 := by unfold pad; rw [hz, Nat.sub_zero, Nat.mod_self]
theorem pad_step (n s : Nat) (h : 1 ≤ s) (hz : n % s ≠ 0) : pad n s = pad (n + 1) s + 1 := by
  unfold pad
  have h1 := Nat.mod_lt n (show 0 < s by omega)
  have hn : (n + 1) % s = (n % s + 1 % s) % s := Nat.add_mod _ _ _
  generalize n % s = r at *
  have h2 : 1 < s := by omega
  rw [Nat.mod_eq_of_lt h2] at hn
  have e : (s - r) % s = s - r := Nat.mod_eq_of_lt (by omega)
  rw [e, hn]
  by_cases hl : r + 1 = s
  · rw [hl, Nat.mod_self, Nat.sub_zero, Nat.mod_self]; omega
  · rw [Nat.mod_eq_of_lt (show r + 1 < s by omega), Nat.mod_eq_of_lt (show s - (r + 1) < s by omega)]; omega
def filled (l : List Int) (s : Nat) : List Int := l ++ List.replicate (pad l.length s) 0
theorem filled_isB {l : List Int} (h : IsB l) (s : Nat) : IsB (filled l s) := by
  intro x hx
  simp only [filled, List.mem_append, List.mem_replicate] at hx
  rcases hx with hx | ⟨_, rfl⟩
  · exact h x hx
  · omega

/-! ### A word turned -/
/-- A word turned by one place to the left. -/
def tick (a : Int) : Int := (a * 2) % 4294967296 + a / 2147483648
def ticks : Nat → Int → Int
  | 0, a => a
  | k + 1, a => tick (ticks k a)
theorem ticks_add (i j : Nat) (a : Int) : ticks (i + j) a = ticks i (ticks j a) := by
  induction i with
  | zero => simp [ticks]
  | succ i ih => rw [show i + 1 + j = (i + j) + 1 by omega]; simp only [ticks]; rw [ih]
theorem tick_range {a : Int} (h0 : 0 ≤ a) (h1 : a < 4294967296) : 0 ≤ tick a ∧ tick a < 4294967296 := by
  unfold tick; omega
theorem ticks_range {a : Int} (h0 : 0 ≤ a) (h1 : a < 4294967296) (k : Nat) : 0 ≤ ticks k a ∧ ticks k a < 4294967296 := by
  induction k with
  | zero => exact ⟨h0, h1⟩
  | succ k ih => exact tick_range ih.1 ih.2
theorem tick_step (P Q : Nat) (hP : 0 < P) (hPQ : P * Q = 2147483648) (A : Nat) (hA : A < 4294967296) :
    ((A * Q % 4294967296 + A / (2 * P)) * 2) % 4294967296 + (A * Q % 4294967296 + A / (2 * P)) / 2147483648 = A * (2 * Q) % 4294967296 + A / P := by
  have hM : 4294967296 = 2 * P * Q := by rw [Nat.mul_assoc, hPQ]
  have hM' : 4294967296 = P * (2 * Q) := by rw [Nat.mul_left_comm, hPQ]
  have e1 : A * Q % 4294967296 = (A % (2 * P)) * Q := by rw [hM, Nat.mul_mod_mul_right]
  have e2 : A * (2 * Q) % 4294967296 = (A % P) * (2 * Q) := by rw [hM', Nat.mul_mod_mul_right]
  have hq : A / (2 * P) < Q := Nat.div_lt_of_lt_mul (by omega)
  have d2 := Nat.mod_add_div A (2 * P)
  have hm : A % (2 * P) < 2 * P := Nat.mod_lt _ (by omega)
  generalize A % (2 * P) = m at *
  generalize A / (2 * P) = q at *
  obtain ⟨t, r, hmt, ht, hr⟩ : ∃ t r, m = P * t + r ∧ t < 2 ∧ r < P :=
    ⟨m / P, m % P, by have := Nat.mod_add_div m P; omega, Nat.div_lt_of_lt_mul (by omega), Nat.mod_lt _ hP⟩
  have eA : A = r + P * (2 * q + t) := by rw [← d2, hmt, Nat.mul_add, Nat.mul_assoc, Nat.mul_left_comm 2 P q]; omega
  have e3 : A % P = r := by rw [eA, Nat.add_mul_mod_self_left, Nat.mod_eq_of_lt hr]
  have e4 : A / P = 2 * q + t := by rw [eA, Nat.add_mul_div_left _ _ hP, Nat.div_eq_of_lt hr]; omega
  rw [e1, e2, e3, e4, hmt]
  have e5 : (P * t + r) * Q = 2147483648 * t + r * Q := by rw [Nat.add_mul, Nat.mul_right_comm, hPQ]
  have e6 : r * (2 * Q) = 2 * (r * Q) := by rw [Nat.mul_left_comm]
  have e7 : r * Q + Q ≤ 2147483648 := by rw [← hPQ, ← Nat.succ_mul]; exact Nat.mul_le_mul_right _ hr
  rw [e5, e6]
  generalize r * Q = s at *
  omega
theorem ticks_nat (A : Nat) (hA : A < 4294967296) : ∀ k, k ≤ 32 → ticks k (A : Int) = ((A * 2 ^ k % 4294967296 + A / 2 ^ (32 - k) : Nat) : Int) := by
  intro k
  induction k with
  | zero => intro _; simp only [ticks]; rw [show A / 2 ^ (32 - 0) = 0 from Nat.div_eq_of_lt hA]; simp; omega
  | succ k ih =>
    intro hk
    have hr := ih (by omega)
    simp only [ticks]
    rw [hr]
    have h := tick_step (2 ^ (31 - k)) (2 ^ k) (Nat.two_pow_pos _) (by rw [← Nat.pow_add, show 31 - k + k = 31 by omega]) A hA
    rw [show 2 * 2 ^ (31 - k) = 2 ^ (32 - k) by rw [← Nat.pow_succ', show (31 - k).succ = 32 - k by omega], ← Nat.pow_succ'] at h
    rw [show 32 - (k + 1) = 31 - k by omega, show k + 1 = k.succ from rfl, ← h]
    unfold tick
    generalize A * 2 ^ k % 4294967296 + A / 2 ^ (32 - k) = z
    omega
theorem ticks_by (a : Int) (h0 : 0 ≤ a) (h1 : a < 4294967296) (k : Nat) (hk : k ≤ 32) : ticks k a = (a * 2 ^ k) % 4294967296 + a / 2 ^ (32 - k) := by
  obtain ⟨A, rfl⟩ := Int.eq_ofNat_of_zero_le h0
  rw [ticks_nat A (by omega) k hk]
  simp [Int.natCast_emod, Int.natCast_mul, Int.natCast_pow, Int.natCast_ediv]
theorem ticks_32 (a : Int) (h0 : 0 ≤ a) (h1 : a < 4294967296) : ticks 32 a = a := by
  rw [ticks_by a h0 h1 32 (by omega)]; simp
/-- A word turned by any number of places. -/
def turn (a n : Int) : Int := ticks (n % 32).toNat a
theorem turn_range {a : Int} (n : Int) (h0 : 0 ≤ a) (h1 : a < 4294967296) : 0 ≤ turn a n ∧ turn a n < 4294967296 := ticks_range h0 h1 _
theorem turn_turn {a : Int} (h0 : 0 ≤ a) (h1 : a < 4294967296) (i j : Int) (h : (i + j) % 32 = 0) : turn (turn a i) j = a := by
  unfold turn
  rw [← ticks_add]
  have hc : (j % 32).toNat + (i % 32).toNat = 0 ∨ (j % 32).toNat + (i % 32).toNat = 32 := by omega
  rcases hc with e | e <;> rw [e]
  · rfl
  · exact ticks_32 a h0 h1
theorem turn_awake : turn 1 (-1) = 2147483648 := by
  unfold turn
  rw [show ((-1 : Int) % 32).toNat = 31 from by decide, ticks_by 1 (by omega) (by omega) 31 (by omega)]; decide
theorem mask5 (n : Int) : Go.bits .and .u32 (n % 4294967296) 31 = n % 32 := by
  rw [u32_and _ _ (by omega) (by omega) (by omega) (by omega)]
  rw [show (31 : Int).toNat = 31 from rfl, nat_mask5]
  omega
theorem nat_turn (A k : Nat) (hA : A < 2 ^ 32) (hk : k < 32) : (A * 2 ^ k % 2 ^ 32) ||| (A / 2 ^ (32 - k)) = A * 2 ^ k % 2 ^ 32 + A / 2 ^ (32 - k) := by
  have e : 2 ^ 32 = 2 ^ k * 2 ^ (32 - k) := by rw [← Nat.pow_add]; congr 1; omega
  refine nat_join k _ _ ?_ ?_
  · rw [e, Nat.mul_comm A, Nat.mul_mod_mul_left]; exact Nat.mul_mod_right _ _
  · refine Nat.div_lt_of_lt_mul ?_
    rw [Nat.mul_comm, ← e]; exact hA
/-- How the program turns a word: two shifts and an or. -/
theorem turn_shifts (a n : Int) (h0 : 0 ≤ a) (h1 : a < 4294967296) :
    Go.bits .or .u32 (shl .u32 a (Go.bits .and .u32 (n % 4294967296) 31)) (shr .u32 a (Go.bits .and .u32 ((32 - (Go.bits .and .u32 (n % 4294967296) 31)) % 4294967296) 31)) = turn a n := by
  rw [mask5, mask5]
  obtain ⟨k, hk⟩ : ∃ k : Nat, n % 32 = k := ⟨(n % 32).toNat, by omega⟩
  have hlt : k < 32 := by omega
  unfold turn
  rw [hk, Int.toNat_natCast, ticks_by a h0 h1 _ (by omega)]
  by_cases hz : k = 0
  · subst hz
    have e1 : shl .u32 a ((0 : Nat) : Int) = a := by
      unfold shl; rw [show min ((0 : Nat) : Int).toNat IntKind.u32.bits = 0 from by decide, IntKind.wrap_u32']; omega
    have e2 : shr .u32 a ((32 - ((0 : Nat) : Int)) % 32) = a := by
      unfold shr; rw [show min ((32 - ((0 : Nat) : Int)) % 32).toNat IntKind.u32.bits = 0 from by decide]; omega
    rw [e1, e2, u32_or _ _ h0 h1 h0 h1, Nat.or_self]
    simp; omega
  · have e1 : shl .u32 a (k : Int) = (a * 2 ^ k) % 4294967296 := by
      unfold shl; rw [show min ((k : Nat) : Int).toNat IntKind.u32.bits = k from by simp [IntKind.bits]; omega, IntKind.wrap_u32']
    have e2 : shr .u32 a ((32 - (k : Int)) % 32) = a / 2 ^ (32 - k) := by
      unfold shr; rw [show min ((32 - (k : Int)) % 32).toNat IntKind.u32.bits = 32 - k from by simp [IntKind.bits]; omega]
    rw [e1, e2]
    obtain ⟨A, rfl⟩ := Int.eq_ofNat_of_zero_le h0
    have hA : A < 2 ^ 32 := by omega
    have c1 : ((A : Int) * 2 ^ k) % 4294967296 = ((A * 2 ^ k % 2 ^ 32 : Nat) : Int) := by simp [Int.natCast_emod, Int.natCast_mul, Int.natCast_pow]
    have c2 : ((A : Int)) / 2 ^ (32 - k) = ((A / 2 ^ (32 - k) : Nat) : Int) := by simp [Int.natCast_ediv, Int.natCast_pow]
    have b1 : A * 2 ^ k % 2 ^ 32 < 2 ^ 32 := Nat.mod_lt _ (by decide)
    have b2 : A / 2 ^ (32 - k) ≤ A := Nat.div_le_self _ _
    rw [c1, c2, u32_or_nat _ _ (by omega) (by omega), nat_turn A k hA hlt]
    omega
/-! ### Nonces -/
def rightW (e n : Int) : Bool := decide (0 ≤ e) && decide (e ≤ 64) && decide (0 ≤ n) && decide (n ≤ 1099511627776)
theorem rightW_iff {e n : Int} : rightW e n = true ↔ 0 ≤ e ∧ e ≤ 64 ∧ 0 ≤ n ∧ n ≤ 1099511627776 := by simp [rightW, and_assoc]
def readW (l : List Int) : Int × Int × Int :=
  if l.length = 12 then (if be (l.take 4) > 64 then (0, 0, 5) else if be (l.drop 4) > 1099511627776 then (0, 0, 5) else (be (l.take 4), be (l.drop 4), 0)) else (0, 0, 5)
end Go.Proofs.YtmmbonlidcbkcaaDoor.Num
