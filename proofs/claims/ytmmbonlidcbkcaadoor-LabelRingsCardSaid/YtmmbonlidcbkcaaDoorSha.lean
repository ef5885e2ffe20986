/- SHA-256, told plainly over lists of whole numbers: one block, any number of blocks, the padding, the sum. No program is named here. -/
import Derived.Test.YtmmbonlidcbkcaaDoorNum
set_option linter.unusedVariables false
namespace Go.Proofs.YtmmbonlidcbkcaaDoor.Sha
open Go.RowKit Go.Proofs.YtmmbonlidcbkcaaDoor.Num

def IsW (l : List Int) : Prop := ∀ x ∈ l, 0 ≤ x ∧ x < 4294967296
def xor32 (a b : Int) : Int := Go.bits .xor .u32 a b
def and32 (a b : Int) : Int := Go.bits .and .u32 a b
theorem xor32_range {a b : Int} (ha : 0 ≤ a ∧ a < 4294967296) (hb : 0 ≤ b ∧ b < 4294967296) : 0 ≤ xor32 a b ∧ xor32 a b < 4294967296 := by
  unfold xor32
  rw [u32_xor a b ha.1 ha.2 hb.1 hb.2]
  have : a.toNat ^^^ b.toNat < 2 ^ 32 := Nat.xor_lt_two_pow (by omega) (by omega)
  omega
theorem and32_range {a b : Int} (ha : 0 ≤ a ∧ a < 4294967296) (hb : 0 ≤ b ∧ b < 4294967296) : 0 ≤ and32 a b ∧ and32 a b < 4294967296 := by
  unfold and32
  rw [u32_and a b ha.1 ha.2 hb.1 hb.2]
  have : a.toNat &&& b.toNat < 2 ^ 32 := Nat.and_lt_two_pow _ (by omega)
  omega
def lateS (w : Int) : Int := xor32 (xor32 (turn w (-17)) (turn w (-19))) (w / 1024)
def earlyS (w : Int) : Int := xor32 (xor32 (turn w (-7)) (turn w (-18))) (w / 8)
def highS (w : Int) : Int := xor32 (xor32 (turn w (-6)) (turn w (-11))) (turn w (-25))
def lowS (w : Int) : Int := xor32 (xor32 (turn w (-2)) (turn w (-13))) (turn w (-22))
section
variable {w : Int} (h : 0 ≤ w ∧ w < 4294967296)
include h
theorem lateS_range : 0 ≤ lateS w ∧ lateS w < 4294967296 := xor32_range (xor32_range (turn_range _ h.1 h.2) (turn_range _ h.1 h.2)) (by omega)
theorem earlyS_range : 0 ≤ earlyS w ∧ earlyS w < 4294967296 := xor32_range (xor32_range (turn_range _ h.1 h.2) (turn_range _ h.1 h.2)) (by omega)
theorem highS_range : 0 ≤ highS w ∧ highS w < 4294967296 := xor32_range (xor32_range (turn_range _ h.1 h.2) (turn_range _ h.1 h.2)) (turn_range _ h.1 h.2)
theorem lowS_range : 0 ≤ lowS w ∧ lowS w < 4294967296 := xor32_range (xor32_range (turn_range _ h.1 h.2) (turn_range _ h.1 h.2)) (turn_range _ h.1 h.2)
end

/-! ### The words of a block -/
def wordAt (b : List Int) (t : Nat) : Int := be ((b.drop (4 * t)).take 4)
theorem wordAt_range {b : List Int} (hb : IsB b) (t : Nat) : 0 ≤ wordAt b t ∧ wordAt b t < 4294967296 := by
  have hI : IsB ((b.drop (4 * t)).take 4) := fun x hx => hb x (List.mem_of_mem_drop (List.mem_of_mem_take hx))
  have := be_range _ hI
  have hl : ((b.drop (4 * t)).take 4).length ≤ 4 := List.length_take_le _ _
  unfold wordAt
  refine ⟨this.1, Int.lt_of_lt_of_le this.2 ?_⟩
  have hc : ((b.drop (4 * t)).take 4).length = 0 ∨ ((b.drop (4 * t)).take 4).length = 1 ∨ ((b.drop (4 * t)).take 4).length = 2 ∨ ((b.drop (4 * t)).take 4).length = 3 ∨ ((b.drop (4 * t)).take 4).length = 4 := by omega
  rcases hc with e | e | e | e | e <;> rw [e] <;> decide
def upW (b : List Int) (n : Nat) : List Int := (List.range n).map (wordAt b)
theorem upW_succ (b : List Int) (n : Nat) : upW b (n + 1) = upW b n ++ [wordAt b n] := by simp [upW, List.range_succ]
theorem upW_length (b : List Int) (n : Nat) : (upW b n).length = n := by simp [upW]
theorem upW_isW {b : List Int} (hb : IsB b) (n : Nat) : IsW (upW b n) := by
  intro x hx
  obtain ⟨t, _, rfl⟩ := List.mem_map.1 hx
  exact wordAt_range hb t
def nextW (l : List Int) : Int := ((((lateS (l.getD (l.length - 2) 0) + l.getD (l.length - 7) 0) % 4294967296 + earlyS (l.getD (l.length - 15) 0)) % 4294967296) + l.getD (l.length - 16) 0) % 4294967296
theorem nextW_range (l : List Int) : 0 ≤ nextW l ∧ nextW l < 4294967296 := by unfold nextW; omega
def extW : Nat → List Int → List Int
  | 0, l => l
  | n + 1, l => extW n l ++ [nextW (extW n l)]
theorem extW_length (n : Nat) (l : List Int) : (extW n l).length = l.length + n := by
  induction n with
  | zero => rfl
  | succ n ih => simp [extW, ih]; omega
theorem extW_isW {l : List Int} (h : IsW l) (n : Nat) : IsW (extW n l) := by
  induction n with
  | zero => exact h
  | succ n ih =>
    intro x hx
    simp only [extW, List.mem_append, List.mem_singleton] at hx
    rcases hx with hx | rfl
    · exact ih x hx
    · exact nextW_range _
def schedS (b : List Int) : List Int := extW 48 (upW b 16)
theorem schedS_length (b : List Int) : (schedS b).length = 64 := by simp [schedS, extW_length, upW_length]
theorem schedS_isW {b : List Int} (hb : IsB b) : IsW (schedS b) := extW_isW (upW_isW hb 16) 48
theorem getD_isW {l : List Int} (h : IsW l) (i : Nat) : 0 ≤ l.getD i 0 ∧ l.getD i 0 < 4294967296 := by
  rw [List.getD_eq_getElem?_getD]
  rcases Nat.lt_or_ge i l.length with hl | hl
  · rw [List.getElem?_eq_getElem hl]; exact h _ (List.getElem_mem hl)
  · rw [List.getElem?_eq_none hl]; simp

/-! ### One block -/
def keysS : List Int := [1116352408, 1899447441, 3049323471, 3921009573, 961987163, 1508970993, 2453635748, 2870763221, 3624381080, 310598401, 607225278, 1426881987, 1925078388, 2162078206, 2614888103, 3248222580, 3835390401, 4022224774, 264347078, 604807628, 770255983, 1249150122, 1555081692, 1996064986, 2554220882, 2821834349, 2952996808, 3210313671, 3336571891, 3584528711, 113926993, 338241895, 666307205, 773529912, 1294757372, 1396182291, 1695183700, 1986661051, 2177026350, 2456956037, 2730485921, 2820302411, 3259730800, 3345764771, 3516065817, 3600352804, 4094571909, 275423344, 430227734, 506948616, 659060556, 883997877, 958139571, 1322822218, 1537002063, 1747873779, 1955562222, 2024104815, 2227730452, 2361852424, 2428436474, 2756734187, 3204031479, 3329325298]
def firstS : List Int := [1779033703, 3144134277, 1013904242, 2773480762, 1359893119, 2600822924, 528734635, 1541459225]
theorem keysS_isW : IsW keysS := by
  have : keysS.all (fun x => decide (0 ≤ x) && decide (x < 4294967296)) = true := by decide
  intro x hx
  have := List.all_eq_true.1 this x hx
  simpa using this
/-- The eight words that a block is begun with and left with. -/
structure H8 where
  (a b c d e f g h : Int)
def H8.list (s : H8) : List Int := [s.a, s.b, s.c, s.d, s.e, s.f, s.g, s.h]
def H8.ok (s : H8) : Prop := IsW s.list
def uS (s : H8) (k w : Int) : Int := ((((s.h + highS s.e) % 4294967296 + xor32 (and32 s.e s.f) (and32 (xor32 4294967295 s.e) s.g)) % 4294967296 + k) % 4294967296 + w) % 4294967296
def vS (s : H8) : Int := (lowS s.a + xor32 (xor32 (and32 s.a s.b) (and32 s.a s.c)) (and32 s.b s.c)) % 4294967296
def roundS (s : H8) (k w : Int) : H8 := ⟨(uS s k w + vS s) % 4294967296, s.a, s.b, s.c, (s.d + uS s k w) % 4294967296, s.e, s.f, s.g⟩
theorem H8.ok_iff {s : H8} : s.ok ↔ (0 ≤ s.a ∧ s.a < 4294967296) ∧ (0 ≤ s.b ∧ s.b < 4294967296) ∧ (0 ≤ s.c ∧ s.c < 4294967296) ∧ (0 ≤ s.d ∧ s.d < 4294967296) ∧ (0 ≤ s.e ∧ s.e < 4294967296) ∧ (0 ≤ s.f ∧ s.f < 4294967296) ∧ (0 ≤ s.g ∧ s.g < 4294967296) ∧ (0 ≤ s.h ∧ s.h < 4294967296) := by
  simp [H8.ok, H8.list, IsW]
theorem roundS_ok {s : H8} (h : s.ok) (k w : Int) : (roundS s k w).ok := by
  rw [H8.ok_iff] at h ⊢
  simp only [roundS]
  omega
def roundsS (s : H8) (W : List Int) : Nat → H8
  | 0 => s
  | t + 1 => roundS (roundsS s W t) (keysS.getD t 0) (W.getD t 0)
theorem roundsS_ok {s : H8} (h : s.ok) (W : List Int) (t : Nat) : (roundsS s W t).ok := by
  induction t with
  | zero => exact h
  | succ t ih => exact roundS_ok ih _ _
def addS (s t : H8) : H8 := ⟨(s.a + t.a) % 4294967296, (s.b + t.b) % 4294967296, (s.c + t.c) % 4294967296, (s.d + t.d) % 4294967296, (s.e + t.e) % 4294967296, (s.f + t.f) % 4294967296, (s.g + t.g) % 4294967296, (s.h + t.h) % 4294967296⟩
def blockS (s : H8) (b : List Int) : H8 := addS s (roundsS s (schedS b) 64)
theorem blockS_ok (s : H8) (b : List Int) : (blockS s b).ok := by
  rw [H8.ok_iff]; simp only [blockS, addS]; omega

/-! ### Many blocks; the sum -/
def blocksS : Nat → H8 → List Int → H8
  | 0, s, _ => s
  | n + 1, s, p => blocksS n (blockS s (p.take 64)) (p.drop 64)
theorem blocksS_ok {s : H8} (h : s.ok) (n : Nat) : ∀ p, (blocksS n s p).ok := by
  induction n generalizing s with
  | zero => intro p; exact h
  | succ n ih => intro p; exact ih (blockS_ok _ _) _
theorem blocksS_add (m n : Nat) : ∀ (s : H8) (p : List Int), blocksS (m + n) s p = blocksS n (blocksS m s p) (p.drop (64 * m)) := by
  induction m with
  | zero => intro s p; simp [blocksS]
  | succ m ih =>
    intro s p
    rw [show m + 1 + n = (m + n) + 1 by omega]
    simp only [blocksS]
    rw [ih, List.drop_drop]
    congr 2
    omega
theorem blocksS_take (n : Nat) : ∀ (s : H8) (p q : List Int), p.take (64 * n) = q.take (64 * n) → blocksS n s p = blocksS n s q := by
  induction n with
  | zero => intro s p q _; rfl
  | succ n ih =>
    intro s p q h
    simp only [blocksS]
    have h1 : p.take 64 = q.take 64 := by
      have := congrArg (List.take 64) h
      rwa [List.take_take, List.take_take, Nat.min_eq_left (by omega)] at this
    have h2 : (p.drop 64).take (64 * n) = (q.drop 64).take (64 * n) := by
      have := congrArg (List.drop 64) h
      rwa [List.drop_take, List.drop_take, show 64 * (n + 1) - 64 = 64 * n by omega] at this
    rw [h1]; exact ih _ _ _ h2
theorem blocksS_append (n : Nat) (s : H8) (p q : List Int) (h : 64 * n ≤ p.length) : blocksS n s (p ++ q) = blocksS n s p :=
  blocksS_take n s _ _ (by rw [List.take_append_of_le_length h])
def first8 : H8 := ⟨1779033703, 3144134277, 1013904242, 2773480762, 1359893119, 2600822924, 528734635, 1541459225⟩
theorem first8_ok : first8.ok := by rw [H8.ok_iff]; simp [first8]
/-- How many noughts stand behind the 128. -/
def zerosS (n : Nat) : Nat := (119 - n % 64) % 64
def endS (n : Nat) : List Int := 128 :: (List.replicate (zerosS n) 0 ++ told 8 ((n * 8 : Nat) : Int))
def paddedS (b : List Int) : List Int := b ++ endS b.length
theorem endS_length (n : Nat) : (endS n).length = 9 + zerosS n := by simp [endS, told_length]; omega
theorem padded_blocks (b : List Int) : (paddedS b).length % 64 = 0 := by
  simp only [paddedS, List.length_append, endS_length, zerosS]; omega
theorem paddedS_isB {b : List Int} (hb : IsB b) : IsB (paddedS b) := by
  intro x hx
  simp only [paddedS, endS, List.mem_append, List.mem_cons, List.mem_replicate] at hx
  rcases hx with hx | rfl | ⟨_, rfl⟩ | hx
  · exact hb x hx
  · omega
  · omega
  · exact told_isB 8 _ x hx
def outS (s : H8) : List Int := s.list.flatMap (told 4)
theorem outS_length (s : H8) : (outS s).length = 32 := by simp [outS, H8.list, told_length]
theorem outS_isB (s : H8) : IsB (outS s) := by
  intro x hx
  obtain ⟨y, _, hy⟩ := List.mem_flatMap.1 hx
  exact told_isB 4 y x hy
/-- The sum of bytes. -/
def shaS (b : List Int) : List Int := outS (blocksS ((paddedS b).length / 64) first8 (paddedS b))
theorem shaS_length (b : List Int) : (shaS b).length = 32 := outS_length _
theorem shaS_isB (b : List Int) : IsB (shaS b) := outS_isB _
/-- What a sum has gone through so far, and what is still to come. -/
def goneS (b : List Int) : H8 := blocksS (b.length / 64) first8 b
def restS (b : List Int) : List Int := b.drop (64 * (b.length / 64))
theorem goneS_ok (b : List Int) : (goneS b).ok := blocksS_ok first8_ok _ _
theorem restS_length (b : List Int) : (restS b).length = b.length % 64 := by simp only [restS, List.length_drop]; omega
/-- The sum out of what has been gone through and the rest. -/
theorem shaS_of (b : List Int) : shaS b = outS (blocksS (((restS b).length + (endS b.length).length) / 64) (goneS b) (restS b ++ endS b.length)) := by
  have hl : (paddedS b).length / 64 = b.length / 64 + ((restS b).length + (endS b.length).length) / 64 := by
    have := padded_blocks b
    simp only [paddedS, List.length_append] at this ⊢
    rw [restS_length]; omega
  have hd : (paddedS b).drop (64 * (b.length / 64)) = restS b ++ endS b.length := by
    unfold paddedS restS
    rw [List.drop_append_of_le_length (by omega)]
  unfold shaS goneS
  rw [hl, blocksS_add, hd]
  congr 2
  exact blocksS_append _ _ _ _ (by omega)
/-- More bytes: block by block. -/
theorem goneS_append (a b : List Int) : goneS (a ++ b) = blocksS (((restS a).length + b.length) / 64) (goneS a) (restS a ++ b) := by
  have hl : (a ++ b).length / 64 = a.length / 64 + ((restS a).length + b.length) / 64 := by
    rw [restS_length, List.length_append]; omega
  have hd : (a ++ b).drop (64 * (a.length / 64)) = restS a ++ b := by
    unfold restS
    rw [List.drop_append_of_le_length (by omega)]
  unfold goneS
  rw [hl, blocksS_add, hd]
  congr 1
  exact blocksS_append _ _ _ _ (by omega)
theorem restS_append (a b : List Int) : restS (a ++ b) = (restS a ++ b).drop (64 * (((restS a).length + b.length) / 64)) := by
  have hd : (a ++ b).drop (64 * (a.length / 64)) = restS a ++ b := by
    unfold restS
    rw [List.drop_append_of_le_length (by omega)]
  rw [← hd, List.drop_drop, ← Nat.mul_add]
  unfold restS
  congr 2
  rw [List.length_drop, List.length_append]; omega
theorem goneS_nil : goneS [] = first8 := rfl
theorem restS_nil : restS [] = [] := rfl
end Go.Proofs.YtmmbonlidcbkcaaDoor.Sha
