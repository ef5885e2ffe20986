/- HMAC with SHA-256, and what is stretched out of it, told plainly over lists of whole numbers. No program is named here. -/
import Derived.Test.YtmmbonlidcbkcaaDoorSha
set_option linter.unusedVariables false
namespace Go.Proofs.YtmmbonlidcbkcaaDoor.Hmac
open Go.RowKit Go.Proofs.YtmmbonlidcbkcaaDoor.Num Go.Proofs.YtmmbonlidcbkcaaDoor.Sha

def xor8 (a b : Int) : Int := Go.bits .xor .u8 a b
theorem xor8_range {a b : Int} (ha : 0 ≤ a ∧ a < 256) (hb : 0 ≤ b ∧ b < 256) : 0 ≤ xor8 a b ∧ xor8 a b < 256 := by
  unfold xor8
  obtain ⟨A, rfl⟩ := Int.eq_ofNat_of_zero_le ha.1
  obtain ⟨B, rfl⟩ := Int.eq_ofNat_of_zero_le hb.1
  rw [u8_xor_nat _ _ (by omega) (by omega)]
  have : A ^^^ B < 2 ^ 8 := Nat.xor_lt_two_pow (by omega) (by omega)
  omega
theorem xor8_zero_iff {a b : Int} (ha : 0 ≤ a ∧ a < 256) (hb : 0 ≤ b ∧ b < 256) : xor8 a b = a ↔ b = 0 := by
  unfold xor8
  obtain ⟨A, rfl⟩ := Int.eq_ofNat_of_zero_le ha.1
  obtain ⟨B, rfl⟩ := Int.eq_ofNat_of_zero_le hb.1
  rw [u8_xor_nat _ _ (by omega) (by omega)]
  constructor
  · intro h
    have h' : A ^^^ B = A := by omega
    have : A ^^^ (A ^^^ B) = A ^^^ A := by rw [h']
    rw [← Nat.xor_assoc, Nat.xor_self, Nat.zero_xor] at this
    omega
  · intro h
    have h' : B = 0 := by omega
    rw [h', Nat.xor_zero]
/-- What of a key is used, and the block that it fills. -/
def keyS (k : List Int) : List Int := if 64 < k.length then shaS k else k
theorem keyS_length (k : List Int) : (keyS k).length ≤ 64 := by
  unfold keyS; split
  · rw [shaS_length]; omega
  · omega
theorem keyS_isB {k : List Int} (h : IsB k) : IsB (keyS k) := by
  unfold keyS; split
  · exact shaS_isB k
  · exact h
def key64 (k : List Int) : List Int := keyS k ++ List.replicate (64 - (keyS k).length) 0
theorem key64_length (k : List Int) : (key64 k).length = 64 := by have := keyS_length k; simp [key64]; omega
theorem key64_isB {k : List Int} (h : IsB k) : IsB (key64 k) := by
  intro x hx
  simp only [key64, List.mem_append, List.mem_replicate] at hx
  rcases hx with hx | ⟨_, rfl⟩
  · exact keyS_isB h x hx
  · omega
def padS (k : List Int) (y : Int) : List Int := (key64 k).map (fun x => xor8 x y)
theorem padS_length (k : List Int) (y : Int) : (padS k y).length = 64 := by simp [padS, key64_length]
theorem padS_isB {k : List Int} (h : IsB k) {y : Int} (hy : 0 ≤ y ∧ y < 256) : IsB (padS k y) := by
  intro x hx
  obtain ⟨z, hz, rfl⟩ := List.mem_map.1 hx
  exact xor8_range (key64_isB h z hz) hy
/-- The tag of bytes by a key. -/
def tagS (k m : List Int) : List Int := shaS (padS k 92 ++ shaS (padS k 54 ++ m))
theorem tagS_length (k m : List Int) : (tagS k m).length = 32 := shaS_length _
theorem tagS_isB (k m : List Int) : IsB (tagS k m) := shaS_isB _
theorem tagS_key {k k' : List Int} (h : key64 k = key64 k') (m : List Int) : tagS k m = tagS k' m := by unfold tagS padS; rw [h]
/-- A long key does as its sum. -/
theorem tagS_long (k m : List Int) (h : 64 < k.length) : tagS (shaS k) m = tagS k m := by
  refine tagS_key ?_ m
  have e1 : keyS k = shaS k := if_pos h
  have e2 : keyS (shaS k) = shaS k := if_neg (by rw [shaS_length]; omega)
  unfold key64; rw [e1, e2]
/-- Noughts behind a short one change nothing. -/
theorem tagS_short (k m : List Int) (h : k.length ≤ 64) : tagS (k ++ List.replicate (64 - k.length) 0) m = tagS k m := by
  refine tagS_key ?_ m
  have e1 : keyS k = k := if_neg (by omega)
  have e2 : keyS (k ++ List.replicate (64 - k.length) 0) = k ++ List.replicate (64 - k.length) 0 := if_neg (by simp; omega)
  unfold key64; rw [e1, e2]
  have : 64 - (k ++ List.replicate (64 - k.length) (0 : Int)).length = 0 := by simp; omega
  rw [this]; simp

/-! ### Stretched -/
def xorL (a b : List Int) : List Int := List.zipWith xor8 a b
theorem xorL_length {a b : List Int} (h : a.length = b.length) : (xorL a b).length = a.length := by simp [xorL, h]
theorem xorL_isB {a b : List Int} (ha : IsB a) (hb : IsB b) : IsB (xorL a b) := by
  intro x hx
  obtain ⟨i, hi, rfl⟩ := List.mem_iff_getElem.1 hx
  simp only [xorL, List.getElem_zipWith]
  simp only [xorL, List.length_zipWith] at hi
  exact xor8_range (ha _ (List.getElem_mem _)) (hb _ (List.getElem_mem _))
/-- The k-th tag of a block: the first is the tag of the salt and the block's number. -/
def stepS (pass : List Int) (u0 : List Int) : Nat → List Int
  | 0 => u0
  | k + 1 => tagS pass (stepS pass u0 k)
/-- The first k + 1 tags, exclusive-ored. -/
def sumS (pass : List Int) (u0 : List Int) : Nat → List Int
  | 0 => u0
  | k + 1 => xorL (sumS pass u0 k) (stepS pass u0 (k + 1))
theorem stepS_length (pass u0 : List Int) (h : u0.length = 32) (k : Nat) : (stepS pass u0 k).length = 32 := by
  cases k with
  | zero => exact h
  | succ k => exact tagS_length _ _
theorem stepS_isB (pass u0 : List Int) (h : IsB u0) (k : Nat) : IsB (stepS pass u0 k) := by
  cases k with
  | zero => exact h
  | succ k => exact tagS_isB _ _
theorem sumS_length (pass u0 : List Int) (h : u0.length = 32) (k : Nat) : (sumS pass u0 k).length = 32 := by
  induction k with
  | zero => exact h
  | succ k ih => simp only [sumS]; rw [xorL_length (by rw [ih, stepS_length _ _ h]), ih]
theorem sumS_isB (pass u0 : List Int) (h : IsB u0) (k : Nat) : IsB (sumS pass u0 k) := by
  induction k with
  | zero => exact h
  | succ k ih => exact xorL_isB ih (stepS_isB _ _ h _)
/-- The i-th block (from 1 on) of so many rounds. -/
def blkS (pass salt : List Int) (rounds i : Nat) : List Int := sumS pass (tagS pass (salt ++ told 4 (i : Int))) (rounds - 1)
theorem blkS_length (pass salt : List Int) (rounds i : Nat) : (blkS pass salt rounds i).length = 32 := sumS_length _ _ (tagS_length _ _) _
theorem blkS_isB (pass salt : List Int) (rounds i : Nat) : IsB (blkS pass salt rounds i) := sumS_isB _ _ (tagS_isB _ _) _
/-- The first m blocks. -/
def blksS (pass salt : List Int) (rounds : Nat) : Nat → List Int
  | 0 => []
  | m + 1 => blksS pass salt rounds m ++ blkS pass salt rounds (m + 1)
theorem blksS_length (pass salt : List Int) (rounds m : Nat) : (blksS pass salt rounds m).length = 32 * m := by
  induction m with
  | zero => rfl
  | succ m ih => simp [blksS, ih, blkS_length]; omega
theorem blksS_isB (pass salt : List Int) (rounds m : Nat) : IsB (blksS pass salt rounds m) := by
  induction m with
  | zero => intro x hx; simp [blksS] at hx
  | succ m ih =>
    intro x hx
    simp only [blksS, List.mem_append] at hx
    rcases hx with hx | hx
    · exact ih x hx
    · exact blkS_isB _ _ _ _ x hx
theorem blksS_prefix (pass salt : List Int) (rounds : Nat) (m m' : Nat) (h : m ≤ m') : (blksS pass salt rounds m').take (32 * m) = blksS pass salt rounds m := by
  induction m' with
  | zero => obtain rfl : m = 0 := by omega
            rfl
  | succ k ih =>
    rcases Nat.lt_or_ge m (k + 1) with hl | hl
    · simp only [blksS]
      rw [List.take_append_of_le_length (by rw [blksS_length]; omega), ih (by omega)]
    · obtain rfl : m = k + 1 := by omega
      rw [List.take_of_length_le (by rw [blksS_length]; omega)]
/-- The key: its first n bytes. -/
def stretchS (pass salt : List Int) (rounds n : Nat) : List Int := (blksS pass salt rounds ((n + 31) / 32)).take n
theorem stretchS_length (pass salt : List Int) (rounds n : Nat) : (stretchS pass salt rounds n).length = n := by
  simp only [stretchS, List.length_take, blksS_length]; omega
theorem stretchS_take (pass salt : List Int) (rounds n k : Nat) (h : k ≤ n) : (stretchS pass salt rounds n).take k = stretchS pass salt rounds k := by
  unfold stretchS
  rw [List.take_take, Nat.min_eq_left h, ← blksS_prefix pass salt rounds ((k + 31) / 32) ((n + 31) / 32) (by omega), List.take_take, Nat.min_eq_left (by omega)]
theorem stretchS_one (pass salt : List Int) (rounds : Nat) : stretchS pass salt rounds 32 = blkS pass salt rounds 1 := by
  have h : blksS pass salt rounds 1 = blkS pass salt rounds 1 := by simp [blksS]
  unfold stretchS
  rw [show (32 + 31) / 32 = 1 from rfl, h, List.take_of_length_le (by rw [blkS_length]; omega)]
end Go.Proofs.YtmmbonlidcbkcaaDoor.Hmac
