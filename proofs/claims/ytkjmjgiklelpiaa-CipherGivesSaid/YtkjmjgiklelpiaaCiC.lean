/- Contracts of the cipher's leaves. -/
import Derived.Test.YtkjmjgiklelpiaaApp
import Derived.Test.YtkjmjgiklelpiaaQuart
import Derived.Test.YtkjmjgiklelpiaaPlainCipherBlocks
import Derived.Deep.RegionHeld3
import Derived.Deep.Cut
namespace Go.Proofs.Ytkjmjgiklelpiaa.CiC
open Go.RowKit Go.Proofs.YtkjmjgiklelpiaaW.PrintWords Go.Proofs.Ytkjmjgiklelpiaa.Num Go.Proofs.Ytkjmjgiklelpiaa.WordC Go.Proofs.Ytkjmjgiklelpiaa.Arr Go.Proofs.Ytkjmjgiklelpiaa.App
set_option linter.unusedVariables false
set_option linter.unusedSimpArgs false

def IsW (l : List Int) : Prop := ∀ x ∈ l, 0 ≤ x ∧ x < 4294967296
theorem getD_isW {l : List Int} (h : IsW l) (i : Nat) : 0 ≤ l.getD i 0 ∧ l.getD i 0 < 4294967296 := by
  rw [List.getD_eq_getElem?_getD]
  by_cases hi : i < l.length
  · rw [List.getElem?_eq_getElem hi]; exact h _ (List.getElem_mem hi)
  · rw [List.getElem?_eq_none (by omega)]; exact ⟨Int.le_refl _, by decide⟩
theorem set_isW {l : List Int} (h : IsW l) (i : Nat) {x : Int} (h0 : 0 ≤ x) (h1 : x < 4294967296) : IsW (l.set i x) := by
  intro y hy
  rcases List.mem_or_eq_of_mem_set hy with hy | rfl
  · exact h y hy
  · exact ⟨h0, h1⟩
theorem xor_range {a b : Int} (h0 : 0 ≤ a) (h1 : a < 4294967296) (h2 : 0 ≤ b) (h3 : b < 4294967296) : 0 ≤ Go.bits .xor .u32 a b ∧ Go.bits .xor .u32 a b < 4294967296 := by
  obtain ⟨A, rfl⟩ := Int.eq_ofNat_of_zero_le h0
  obtain ⟨B, rfl⟩ := Int.eq_ofNat_of_zero_le h2
  rw [u32_xor_nat _ _ (by omega) (by omega)]
  have : A ^^^ B < 2 ^ 32 := Nat.xor_lt_two_pow (by omega) (by omega)
  omega
/-- One word added to another; one word turned by another. -/
def qa (l : List Int) (a b : Nat) : List Int := l.set a ((l.getD a 0 + l.getD b 0) % 4294967296)
def qx (l : List Int) (d a : Nat) (n : Int) : List Int := l.set d (turn (Go.bits .xor .u32 (l.getD d 0) (l.getD a 0)) n)
def qr (l : List Int) (a b c d : Nat) : List Int := qx (qa (qx (qa (qx (qa (qx (qa l a b) d a 16) c d) b c 12) a b) d a 8) c d) b c 7
theorem qa_length (l : List Int) (a b : Nat) : (qa l a b).length = l.length := by simp [qa]
theorem qx_length (l : List Int) (a b : Nat) (n : Int) : (qx l a b n).length = l.length := by simp [qx]
theorem qr_length (l : List Int) (a b c d : Nat) : (qr l a b c d).length = l.length := by simp [qr, qx_length, qa_length]
theorem qa_isW {l : List Int} (h : IsW l) (a b : Nat) : IsW (qa l a b) := set_isW h a (by omega) (by omega)
theorem qx_isW {l : List Int} (h : IsW l) (a b : Nat) (n : Int) : IsW (qx l a b n) := by
  have x := xor_range (getD_isW h a).1 (getD_isW h a).2 (getD_isW h b).1 (getD_isW h b).2
  have := turn_range n x.1 x.2
  exact set_isW h a this.1 this.2
theorem qr_isW {l : List Int} (h : IsW l) (a b c d : Nat) : IsW (qr l a b c d) :=
  qx_isW (qa_isW (qx_isW (qa_isW (qx_isW (qa_isW (qx_isW (qa_isW h _ _) _ _ _) _ _) _ _ _) _ _) _ _ _) _ _) _ _ _
theorem rd_nat (l : List Int) (i : Nat) : rd l (i : Int) = l.getD i 0 := by simp [rd]
theorem refQuarter_eq {l : List Int} (hl : l.length = 16) (h : IsW l) {a b c d : Nat} (ha : a < 16) (hb : b < 16) (hc : c < 16) (hd : d < 16) (k : Nat) (hk : 40 ≤ k) :
    Quart.hypogeumref05_quarter.f k l a b c d = some (qr l a b c d) := by
  unfold Quart.hypogeumref05_quarter.f
  simp only [Option.bind_some, List.nil_append, List.length_nil]
  have T : ∀ {m : List Int} (i j : Nat) (n : Int), IsW m → 0 ≤ n → n < 32 → PCipherBlocks.hypogeumref01_Turn.f k (Go.bits .xor .u32 (m.getD i 0) (m.getD j 0)) n = some (turn (Go.bits .xor .u32 (m.getD i 0) (m.getD j 0)) n) := by
    intro m i j n hm h0 h1
    have x := xor_range (getD_isW hm i).1 (getD_isW hm i).2 (getD_isW hm j).1 (getD_isW hm j).2
    exact PlainCipherBlocks.refTurn_eq _ _ x.1 x.2 (by omega) k (by omega)
  rw [if_pos (by omega), if_pos (by omega), if_pos (by omega), if_pos (by omega), if_pos (by omega), if_pos (by omega), if_pos (by omega)]
  simp only [rd_nat, Int.toNat_natCast]
  have e1 : l.set a ((l.getD a 0 + l.getD b 0) % 4294967296) = qa l a b := rfl
  rw [e1, T _ _ _ (qa_isW h a b) (by omega) (by omega)]
  simp only [Option.bind_some]
  rw [if_pos (by omega), if_pos (by omega)]
  have h2 := qx_isW (qa_isW h a b) d a 16
  have e2 : (qa l a b).set d (turn (Go.bits .xor .u32 ((qa l a b).getD d 0) ((qa l a b).getD a 0)) 16) = qx (qa l a b) d a 16 := rfl
  rw [e2]
  generalize hm2 : qx (qa l a b) d a 16 = m2 at h2 ⊢
  have e3 : m2.set c ((m2.getD c 0 + m2.getD d 0) % 4294967296) = qa m2 c d := rfl
  rw [e3, T _ _ _ (qa_isW h2 c d) (by omega) (by omega)]
  simp only [Option.bind_some]
  have h4 := qx_isW (qa_isW h2 c d) b c 12
  have e4 : (qa m2 c d).set b (turn (Go.bits .xor .u32 ((qa m2 c d).getD b 0) ((qa m2 c d).getD c 0)) 12) = qx (qa m2 c d) b c 12 := rfl
  rw [e4]
  generalize hm4 : qx (qa m2 c d) b c 12 = m4 at h4 ⊢
  have e5 : m4.set a ((m4.getD a 0 + m4.getD b 0) % 4294967296) = qa m4 a b := rfl
  rw [e5, T _ _ _ (qa_isW h4 a b) (by omega) (by omega)]
  simp only [Option.bind_some]
  have h6 := qx_isW (qa_isW h4 a b) d a 8
  have e6 : (qa m4 a b).set d (turn (Go.bits .xor .u32 ((qa m4 a b).getD d 0) ((qa m4 a b).getD a 0)) 8) = qx (qa m4 a b) d a 8 := rfl
  rw [e6]
  generalize hm6 : qx (qa m4 a b) d a 8 = m6 at h6 ⊢
  have e7 : m6.set c ((m6.getD c 0 + m6.getD d 0) % 4294967296) = qa m6 c d := rfl
  rw [e7, T _ _ _ (qa_isW h6 c d) (by omega) (by omega)]
  simp only [Option.bind_some]
  rw [← hm6, ← hm4, ← hm2]; rfl
/-- A slice of words of the call's own. -/
abbrev OwW (w : World) (base : Nat) (v : Value) (l : List Int) : Prop := Kd.R (Kd.int .u32) 23 w base (fun _ => True) v l
theorem own16_c {A : Option Addr} {n c : Nat} {l : List Int} {w : World} (hr : Rd w A n c l) (hn : n ≤ 140737488351232) :
    Calls Try.prog 16 #[.slice A n c] w fun e w' => ∃ v, e = .returned v ∧ Ow w' w.heap.size v l ∧ Below w.heap.size w w' := by
  obtain ⟨rfl, hc, hC⟩ := hr
  exact PCipherBlocks.hypogeumlaw05_own.calls A c l l w hC hc (PlainCipherBlocks.own_eq l hn)
theorem Load_c {A : Option Addr} {n c : Nat} {l : List Int} {w : World} (hr : Rd w A n c l) (hb : IsB l) (low : Bool) :
    Calls Try.prog 54 #[.slice A n c, .bool low] w fun e w' => e = .returned (.tuple #[.int .u32 (loadW l low).1, .int .i64 (loadW l low).2]) ∧ Drawn0 w w' := by
  obtain ⟨rfl, hc, hC⟩ := hr
  exact PCipherBlocks.word_Load.calls 5 A c l low _ _ w hC hc (PlainCipherBlocks.Load_eq l hb low 5 (by omega))
theorem refLoad_c {A : Option Addr} {n c : Nat} {l : List Int} {w : World} (hr : Rd w A n c l) (hb : IsB l) (low : Bool) :
    Calls Try.prog 65 #[.slice A n c, .bool low] w fun e w' => e = .returned (.tuple #[.int .u32 (loadW l low).1, .int .i64 (loadW l low).2]) ∧ Below w.heap.size w w' := by
  obtain ⟨rfl, hc, hC⟩ := hr
  exact PCipherBlocks.hypogeumref01_Load.calls 5 A c l low _ _ w hC hc (PlainCipherBlocks.refLoad_eq l hb low 5 (by omega))
theorem Turn_c {a : Int} (n : Int) {w : World} (h0 : 0 ≤ a) (h1 : a < 4294967296) :
    Calls Try.prog 75 #[.int .u32 a, .int .i64 n] w fun e w' => e = .returned (.int .u32 (turn a n)) ∧ Drawn0 w w' :=
  PCipherBlocks.word_Turn.calls a n _ w (PlainCipherBlocks.Turn_eq a n h0 h1)
theorem Store_c {a : Int} {w : World} (h0 : 0 ≤ a) (h1 : a < 4294967296) (low : Bool) :
    Calls Try.prog 57 #[.int .u32 a, .bool low] w fun e w' => ∃ v, e = .returned v ∧ Ow w' w.heap.size v (storeW a low) ∧ Below w.heap.size w w' :=
  PCipherBlocks.word_Store.calls 5 a low _ w (PlainCipherBlocks.Store_eq a h0 h1 low 5 (by omega))
theorem refStore_c {a : Int} {w : World} (h0 : 0 ≤ a) (h1 : a < 4294967296) (low : Bool) :
    Calls Try.prog 45 #[.int .u32 a, .bool low] w fun e w' => ∃ v, e = .returned v ∧ Ow w' w.heap.size v (storeW a low) ∧ Below w.heap.size w w' :=
  PCipherBlocks.hypogeumref01_Store.calls 2002 a low _ w (PlainCipherBlocks.refStore_eq a h0 h1 low 2002 (by omega))
/-- May a key and a nonce be? -/
def rightC (n m : Nat) : Bool := decide (n = 32) && decide (m = 12)
theorem refRight_c {A B : Option Addr} {n m c d : Nat} {k o : List Int} {w : World} (hk : Rd w A n c k) (ho : Rd w B m d o) :
    Calls Try.prog 18 #[.slice A n c, .slice B m d] w fun e w' => e = .returned (.bool (rightC n m)) ∧ Drawn0 w w' := by
  obtain ⟨rfl, hc, hC⟩ := hk
  obtain ⟨rfl, hd, hD⟩ := ho
  refine PCipherBlocks.hypogeumref05_Right.calls A c k B d o _ w hC hc hD hd ?_
  unfold PCipherBlocks.hypogeumref05_Right.f rightC
  by_cases h1 : k.length = 32
  · rw [if_pos (by omega)]
    by_cases h2 : o.length = 12
    · simp [h1, h2]
    · have h3 : ((o.length : Int) == 12) = false := by rw [beq_eq_false_iff_ne]; omega
      simp [h1, h2, h3]
  · rw [if_neg (by omega)]; simp [h1]
/-- Bytes as words, four by four. -/
def ws : List Int → List Int
  | a :: b :: c :: d :: l => (loadW [a, b, c, d] true).1 :: ws l
  | _ => []
theorem ws_append (x l : List Int) (h : x.length = 4) : ws (x ++ l) = (loadW x true).1 :: ws l := by
  match x, h with
  | [a, b, c, d], _ => rfl
theorem ws_length (m : Nat) : ∀ l : List Int, l.length = 4 * m → (ws l).length = m := by
  induction m with
  | zero => intro l h; obtain rfl : l = [] := List.eq_nil_of_length_eq_zero (by omega); rfl
  | succ m ih =>
    intro l h
    have e : l = l.take 4 ++ l.drop 4 := (List.take_append_drop 4 l).symm
    rw [e, ws_append _ _ (by rw [List.length_take]; omega), List.length_cons, ih _ (by rw [List.length_drop]; omega)]
theorem load_range {l : List Int} (hb : IsB l) (low : Bool) : 0 ≤ (loadW l low).1 ∧ (loadW l low).1 < 4294967296 := by
  unfold loadW
  split
  · rename_i h
    cases low
    · have := be_range l hb; rw [h] at this; simpa using this
    · have := be_range l.reverse (fun x hx => hb x (by simpa using hx)); rw [List.length_reverse, h] at this; simpa using this
  · exact ⟨Int.le_refl _, by decide⟩
theorem ws_isW (m : Nat) : ∀ l : List Int, l.length = 4 * m → IsB l → IsW (ws l) := by
  induction m with
  | zero => intro l h _; obtain rfl : l = [] := List.eq_nil_of_length_eq_zero (by omega); intro x hx; simp [ws] at hx
  | succ m ih =>
    intro l h hb
    have e : l = l.take 4 ++ l.drop 4 := (List.take_append_drop 4 l).symm
    rw [e, ws_append _ _ (by rw [List.length_take]; omega)]
    intro x hx
    rcases List.mem_cons.1 hx with rfl | hx
    · exact load_range (fun y hy => hb y (List.mem_of_mem_take hy)) true
    · exact ih _ (by rw [List.length_drop]; omega) (fun y hy => hb y (List.mem_of_mem_drop hy)) x hx
/-- The words of the list from word i on: the first i, and one more. -/
theorem ws_get (l : List Int) (m : Nat) (h : l.length = 4 * m) (i : Nat) (hi : i < m) : (ws l)[i]? = some (loadW ((l.take (4 * i + 4)).drop (4 * i)) true).1 := by
  induction i generalizing l m with
  | zero =>
    have e : l = l.take 4 ++ l.drop 4 := (List.take_append_drop 4 l).symm
    conv => lhs; rw [e]
    rw [ws_append _ _ (by rw [List.length_take]; omega)]; rfl
  | succ i ih =>
    have e : l = l.take 4 ++ l.drop 4 := (List.take_append_drop 4 l).symm
    conv => lhs; rw [e]
    rw [ws_append _ _ (by rw [List.length_take]; omega), List.getElem?_cons_succ, ih (l.drop 4) (m - 1) (by rw [List.length_drop]; omega) (by omega)]
    rw [List.take_drop, List.drop_drop]
    rw [show 4 * (i + 1) = 4 + 4 * i by omega, show 4 + 4 * i + 4 = 4 + (4 * i + 4) by omega]
theorem ws_take (l : List Int) (m : Nat) (h : l.length = 4 * m) (i : Nat) (hi : i < m) : (ws l).take (i + 1) = (ws l).take i ++ [(loadW ((l.take (4 * i + 4)).drop (4 * i)) true).1] := by
  rw [List.take_add_one, ws_get l m h i hi]; rfl
theorem refWords_l (l : List Int) (m : Nat) (hl : l.length = 4 * m) (hb : IsB l) (hm : m ≤ 100) : ∀ (d i k : Nat), i + d = m → d + 6 ≤ k →
    PCipherBlocks.hypogeumref05_words.l0 k l ((ws l).take i) ((4 * i : Nat) : Int) = some (ws l) := by
  intro d
  induction d with
  | zero =>
    intro i k hi hk
    obtain ⟨k, rfl⟩ : ∃ j, k = j + 1 := ⟨k - 1, by omega⟩
    simp only [PCipherBlocks.hypogeumref05_words.l0]
    rw [show wrap64 (((4 * i : Nat) : Int) + 4) = ((4 * i + 4 : Nat) : Int) by unfold wrap64; omega, if_neg (by omega), List.take_of_length_le (by rw [ws_length m l hl]; omega)]
  | succ d ih =>
    intro i k hi hk
    obtain ⟨k, rfl⟩ : ∃ j, k = j + 1 := ⟨k - 1, by omega⟩
    simp only [PCipherBlocks.hypogeumref05_words.l0]
    rw [show wrap64 (((4 * i : Nat) : Int) + 4) = ((4 * i + 4 : Nat) : Int) by unfold wrap64; omega, if_pos (by omega), if_pos (by omega), if_pos (by omega)]
    simp only [Int.toNat_natCast]
    rw [PlainCipherBlocks.refLoad_eq _ (fun x hx => hb x (List.mem_of_mem_take (List.mem_of_mem_drop hx))) true k (by omega)]
    simp only [Option.bind_some]
    rw [if_pos (by rw [List.length_take, ws_length m l hl]; omega), ← ws_take l m hl i (by omega), show 4 * i + 4 = 4 * (i + 1) by omega]
    exact ih (i + 1) k (by omega) (by omega)
theorem refWords_c {A : Option Addr} {n c : Nat} {l : List Int} {w : World} (hr : Rd w A n c l) (hb : IsB l) (m : Nat) (hn : n = 4 * m) (hm : m ≤ 100) :
    Calls Try.prog 43 #[.slice A n c] w fun e w' => ∃ v, e = .returned v ∧ OwW w' w.heap.size v (ws l) ∧ Below w.heap.size w w' := by
  obtain ⟨rfl, hc, hC⟩ := hr
  exact PCipherBlocks.hypogeumref05_words.calls 107 A c l _ w hC hc (refWords_l l m hn hb hm m 0 107 (by omega) (by omega))
theorem refQuarter_c {v : Value} {l : List Int} {base : Nat} {w : World} {A : Option Addr} {n co : Nat} (hr : Kd.C (Kd.int .u32) w A n l) (hn : l.length = n) (hco : n ≤ co) (hl : l.length = 16) (h : IsW l) (a b c d : Nat) (ha : a < 16) (hb : b < 16) (hc : c < 16) (hd : d < 16) {x y z u : Int} (hx : x = a) (hy : y = b) (hz : z = c) (hu : u = d) :
    Calls Try.prog 44 #[.slice A n co, .int .i64 x, .int .i64 y, .int .i64 z, .int .i64 u] w fun e w' => ∃ v, e = .returned v ∧ OwW w' w.heap.size v (qr l a b c d) ∧ Below w.heap.size w w' := by
  subst hx hy hz hu hn
  exact Quart.hypogeumref05_quarter.calls 40 A co l a b c d _ w hr hco (refQuarter_eq hl h ha hb hc hd 40 (by omega))
theorem blk_num {w : World} {g t : Nat} {k : IntKind} {l : List Int} (h : Blk w g t (nums k l)) (i : Nat) (hi : i < l.length) : w.cell? ⟨g, i, none⟩ = some (.int k (l.getD i 0)) := by
  rw [Blk.cell h, nums_get k l i hi]
theorem blk_put {w : World} {g t : Nat} {k : IntKind} {l : List Int} (h : Blk w g t (nums k l)) (i : Nat) (x : Int) : Blk (w.setCell ⟨g, i, none⟩ (.int k x)) g t (nums k (l.set i x)) := by
  have := Blk.set_ h i (.int k x)
  rwa [nums_set] at this
theorem size65 : (Try.prog.info? 65).map (·.size) = some 16 := by kernel_rfl
theorem size25 : (Try.prog.info? 25).map (·.size) = some 64 := by kernel_rfl
end Go.Proofs.Ytkjmjgiklelpiaa.CiC
