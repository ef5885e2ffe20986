/- Merged out of CiC, CiQ, CiB, CiD, CiK, CiL, CiM, Rz, ItA, MxA, MxB, MxC; what the box laws do not use is left out. -/
import Derived.Test.YtkjmjgiklelpiaaBkW
import Derived.Test.YtkjmjgiklelpiaaBkQ
import Derived.Test.YtkjmjgiklelpiaaBkP
import Derived.Deep.RegionHeld3
import Derived.Deep.Cut
import Derived.Deep.CutRange
import Derived.Laws.ResultCell
import Derived.ScopeJumps
import Derived.WalkMore
import Derived.Outline
import Derived.RangeFuncNested
import Derived.RangeFuncCalls
import Derived.RangeFuncLeaves
import Derived.Shelf.Abstract
import Derived.OrdersIn
import Derived.Deep.MidRow
import Derived.OpenShut
import Derived.RangeFuncBound
import Derived.Shelf.RegionOpen
import Derived.WalkKit
import Derived.OwnWalkIn
import Derived.TacticsInMore
import Derived.LoopNIn
import Derived.LoopIn
/- Contracts of the cipher's leaves. -/
namespace Go.Proofs.Ytkjmjgiklelpiaa.CiC
open Go.RowKit Go.Proofs.YtkjmjgiklelpiaaW.PrintWords Go.Proofs.Ytkjmjgiklelpiaa.Num Go.Proofs.Ytkjmjgiklelpiaa.WordC Go.Proofs.Ytkjmjgiklelpiaa.Arr Go.Proofs.Ytkjmjgiklelpiaa.App
set_option linter.unusedVariables false
set_option linter.unusedSimpArgs false

def IsW (l : List Int) : Prop := ∀ x ∈ l, 0 ≤ x ∧ x < 4294967296
theorem getD_isW {l : List Int} (h : IsW l) (i : Nat) : 0 ≤ l.getD i 0 ∧ l.getD i 0 < 4294967296 := by
  rw [List.getD_eq_getElem?_getD]
  by_cases hi : i < l.length
  · rw [List.getElem?_eq_getElem hi]; exact h _ (List.getElem_mem hi)
  · rw [List.getElem?_eq_none (by omega)]; exact ⟨Int.le_refl _, by decide⟩
theorem set_isW {l : List Int} (h : IsW l) (i : Nat) {x : Int} (h0 : 0 ≤ x) (h1 : x < 4294967296) : IsW (l.set i x) := by
  intro y hy
  rcases List.mem_or_eq_of_mem_set hy with hy | rfl
  · exact h y hy
  · exact ⟨h0, h1⟩
theorem xor_range {a b : Int} (h0 : 0 ≤ a) (h1 : a < 4294967296) (h2 : 0 ≤ b) (h3 : b < 4294967296) : 0 ≤ Go.bits .xor .u32 a b ∧ Go.bits .xor .u32 a b < 4294967296 := by
  obtain ⟨A, rfl⟩ := Int.eq_ofNat_of_zero_le h0
  obtain ⟨B, rfl⟩ := Int.eq_ofNat_of_zero_le h2
  rw [u32_xor_nat _ _ (by omega) (by omega)]
  have : A ^^^ B < 2 ^ 32 := Nat.xor_lt_two_pow (by omega) (by omega)
  omega
/-- One word added to another; one word turned by another. -/
def qa (l : List Int) (a b : Nat) : List Int := l.set a ((l.getD a 0 + l.getD b 0) % 4294967296)
def qx (l : List Int) (d a : Nat) (n : Int) : List Int := l.set d (turn (Go.bits .xor .u32 (l.getD d 0) (l.getD a 0)) n)
def qr (l : List Int) (a b c d : Nat) : List Int := qx (qa (qx (qa (qx (qa (qx (qa l a b) d a 16) c d) b c 12) a b) d a 8) c d) b c 7
theorem qa_length (l : List Int) (a b : Nat) : (qa l a b).length = l.length := by simp [qa]
theorem qx_length (l : List Int) (a b : Nat) (n : Int) : (qx l a b n).length = l.length := by simp [qx]
theorem qr_length (l : List Int) (a b c d : Nat) : (qr l a b c d).length = l.length := by simp [qr, qx_length, qa_length]
theorem qa_isW {l : List Int} (h : IsW l) (a b : Nat) : IsW (qa l a b) := set_isW h a (by omega) (by omega)
theorem qx_isW {l : List Int} (h : IsW l) (a b : Nat) (n : Int) : IsW (qx l a b n) := by
  have x := xor_range (getD_isW h a).1 (getD_isW h a).2 (getD_isW h b).1 (getD_isW h b).2
  have := turn_range n x.1 x.2
  exact set_isW h a this.1 this.2
theorem qr_isW {l : List Int} (h : IsW l) (a b c d : Nat) : IsW (qr l a b c d) :=
  qx_isW (qa_isW (qx_isW (qa_isW (qx_isW (qa_isW (qx_isW (qa_isW h _ _) _ _ _) _ _) _ _ _) _ _) _ _ _) _ _) _ _ _
theorem rd_nat (l : List Int) (i : Nat) : rd l (i : Int) = l.getD i 0 := by simp [rd]
theorem refQuarter_eq {l : List Int} (hl : l.length = 16) (h : IsW l) {a b c d : Nat} (ha : a < 16) (hb : b < 16) (hc : c < 16) (hd : d < 16) (k : Nat) (hk : 40 ≤ k) :
    Quart.hypogeumref05_quarter.f k l a b c d = some (qr l a b c d) := by
  unfold Quart.hypogeumref05_quarter.f
  simp only [Option.bind_some, List.nil_append, List.length_nil]
  have T : ∀ {m : List Int} (i j : Nat) (n : Int), IsW m → 0 ≤ n → n < 32 → PCipherBlocks.hypogeumref01_Turn.f k (Go.bits .xor .u32 (m.getD i 0) (m.getD j 0)) n = some (turn (Go.bits .xor .u32 (m.getD i 0) (m.getD j 0)) n) := by
    intro m i j n hm h0 h1
    have x := xor_range (getD_isW hm i).1 (getD_isW hm i).2 (getD_isW hm j).1 (getD_isW hm j).2
    exact PlainCipherBlocks.refTurn_eq _ _ x.1 x.2 (by omega) k (by omega)
  rw [if_pos (by omega), if_pos (by omega), if_pos (by omega), if_pos (by omega), if_pos (by omega), if_pos (by omega), if_pos (by omega)]
  simp only [rd_nat, Int.toNat_natCast]
  have e1 : l.set a ((l.getD a 0 + l.getD b 0) % 4294967296) = qa l a b := rfl
  rw [e1, T _ _ _ (qa_isW h a b) (by omega) (by omega)]
  simp only [Option.bind_some]
  rw [if_pos (by omega), if_pos (by omega)]
  have h2 := qx_isW (qa_isW h a b) d a 16
  have e2 : (qa l a b).set d (turn (Go.bits .xor .u32 ((qa l a b).getD d 0) ((qa l a b).getD a 0)) 16) = qx (qa l a b) d a 16 := rfl
  rw [e2]
  generalize hm2 : qx (qa l a b) d a 16 = m2 at h2 ⊢
  have e3 : m2.set c ((m2.getD c 0 + m2.getD d 0) % 4294967296) = qa m2 c d := rfl
  rw [e3, T _ _ _ (qa_isW h2 c d) (by omega) (by omega)]
  simp only [Option.bind_some]
  have h4 := qx_isW (qa_isW h2 c d) b c 12
  have e4 : (qa m2 c d).set b (turn (Go.bits .xor .u32 ((qa m2 c d).getD b 0) ((qa m2 c d).getD c 0)) 12) = qx (qa m2 c d) b c 12 := rfl
  rw [e4]
  generalize hm4 : qx (qa m2 c d) b c 12 = m4 at h4 ⊢
  have e5 : m4.set a ((m4.getD a 0 + m4.getD b 0) % 4294967296) = qa m4 a b := rfl
  rw [e5, T _ _ _ (qa_isW h4 a b) (by omega) (by omega)]
  simp only [Option.bind_some]
  have h6 := qx_isW (qa_isW h4 a b) d a 8
  have e6 : (qa m4 a b).set d (turn (Go.bits .xor .u32 ((qa m4 a b).getD d 0) ((qa m4 a b).getD a 0)) 8) = qx (qa m4 a b) d a 8 := rfl
  rw [e6]
  generalize hm6 : qx (qa m4 a b) d a 8 = m6 at h6 ⊢
  have e7 : m6.set c ((m6.getD c 0 + m6.getD d 0) % 4294967296) = qa m6 c d := rfl
  rw [e7, T _ _ _ (qa_isW h6 c d) (by omega) (by omega)]
  simp only [Option.bind_some]
  rw [← hm6, ← hm4, ← hm2]; rfl
/-- A slice of words of the call's own. -/
abbrev OwW (w : World) (base : Nat) (v : Value) (l : List Int) : Prop := Kd.R (Kd.int .u32) 23 w base (fun _ => True) v l
theorem Load_c {A : Option Addr} {n c : Nat} {l : List Int} {w : World} (hr : Rd w A n c l) (hb : IsB l) (low : Bool) :
    Calls Try.prog 54 #[.slice A n c, .bool low] w fun e w' => e = .returned (.tuple #[.int .u32 (loadW l low).1, .int .i64 (loadW l low).2]) ∧ Drawn0 w w' := by
  obtain ⟨rfl, hc, hC⟩ := hr
  exact PCipherBlocks.word_Load.calls 5 A c l low _ _ w hC hc (PlainCipherBlocks.Load_eq l hb low 5 (by omega))
theorem Turn_c {a : Int} (n : Int) {w : World} (h0 : 0 ≤ a) (h1 : a < 4294967296) :
    Calls Try.prog 75 #[.int .u32 a, .int .i64 n] w fun e w' => e = .returned (.int .u32 (turn a n)) ∧ Drawn0 w w' :=
  PCipherBlocks.word_Turn.calls a n _ w (PlainCipherBlocks.Turn_eq a n h0 h1)
theorem Store_c {a : Int} {w : World} (h0 : 0 ≤ a) (h1 : a < 4294967296) (low : Bool) :
    Calls Try.prog 57 #[.int .u32 a, .bool low] w fun e w' => ∃ v, e = .returned v ∧ Ow w' w.heap.size v (storeW a low) ∧ Below w.heap.size w w' :=
  PCipherBlocks.word_Store.calls 5 a low _ w (PlainCipherBlocks.Store_eq a h0 h1 low 5 (by omega))
theorem refStore_c {a : Int} {w : World} (h0 : 0 ≤ a) (h1 : a < 4294967296) (low : Bool) :
    Calls Try.prog 45 #[.int .u32 a, .bool low] w fun e w' => ∃ v, e = .returned v ∧ Ow w' w.heap.size v (storeW a low) ∧ Below w.heap.size w w' :=
  PCipherBlocks.hypogeumref01_Store.calls 2002 a low _ w (PlainCipherBlocks.refStore_eq a h0 h1 low 2002 (by omega))
/-- May a key and a nonce be? -/
def rightC (n m : Nat) : Bool := decide (n = 32) && decide (m = 12)
theorem refRight_c {A B : Option Addr} {n m c d : Nat} {k o : List Int} {w : World} (hk : Rd w A n c k) (ho : Rd w B m d o) :
    Calls Try.prog 18 #[.slice A n c, .slice B m d] w fun e w' => e = .returned (.bool (rightC n m)) ∧ Drawn0 w w' := by
  obtain ⟨rfl, hc, hC⟩ := hk
  obtain ⟨rfl, hd, hD⟩ := ho
  refine PCipherBlocks.hypogeumref05_Right.calls A c k B d o _ w hC hc hD hd ?_
  unfold PCipherBlocks.hypogeumref05_Right.f rightC
  by_cases h1 : k.length = 32
  · rw [if_pos (by omega)]
    by_cases h2 : o.length = 12
    · simp [h1, h2]
    · have h3 : ((o.length : Int) == 12) = false := by rw [beq_eq_false_iff_ne]; omega
      simp [h1, h2, h3]
  · rw [if_neg (by omega)]; simp [h1]
/-- Bytes as words, four by four. -/
def ws : List Int → List Int
  | a :: b :: c :: d :: l => (loadW [a, b, c, d] true).1 :: ws l
  | _ => []
theorem ws_append (x l : List Int) (h : x.length = 4) : ws (x ++ l) = (loadW x true).1 :: ws l := by
  match x, h with
  | [a, b, c, d], _ => rfl
theorem ws_length (m : Nat) : ∀ l : List Int, l.length = 4 * m → (ws l).length = m := by
  induction m with
  | zero => intro l h; obtain rfl : l = [] := List.eq_nil_of_length_eq_zero (by omega); rfl
  | succ m ih =>
    intro l h
    have e : l = l.take 4 ++ l.drop 4 := (List.take_append_drop 4 l).symm
    rw [e, ws_append _ _ (by rw [List.length_take]; omega), List.length_cons, ih _ (by rw [List.length_drop]; omega)]
theorem load_range {l : List Int} (hb : IsB l) (low : Bool) : 0 ≤ (loadW l low).1 ∧ (loadW l low).1 < 4294967296 := by
  unfold loadW
  split
  · rename_i h
    cases low
    · have := be_range l hb; rw [h] at this; simpa using this
    · have := be_range l.reverse (fun x hx => hb x (by simpa using hx)); rw [List.length_reverse, h] at this; simpa using this
  · exact ⟨Int.le_refl _, by decide⟩
theorem ws_isW (m : Nat) : ∀ l : List Int, l.length = 4 * m → IsB l → IsW (ws l) := by
  induction m with
  | zero => intro l h _; obtain rfl : l = [] := List.eq_nil_of_length_eq_zero (by omega); intro x hx; simp [ws] at hx
  | succ m ih =>
    intro l h hb
    have e : l = l.take 4 ++ l.drop 4 := (List.take_append_drop 4 l).symm
    rw [e, ws_append _ _ (by rw [List.length_take]; omega)]
    intro x hx
    rcases List.mem_cons.1 hx with rfl | hx
    · exact load_range (fun y hy => hb y (List.mem_of_mem_take hy)) true
    · exact ih _ (by rw [List.length_drop]; omega) (fun y hy => hb y (List.mem_of_mem_drop hy)) x hx
/-- The words of the list from word i on: the first i, and one more. -/
theorem ws_get (l : List Int) (m : Nat) (h : l.length = 4 * m) (i : Nat) (hi : i < m) : (ws l)[i]? = some (loadW ((l.take (4 * i + 4)).drop (4 * i)) true).1 := by
  induction i generalizing l m with
  | zero =>
    have e : l = l.take 4 ++ l.drop 4 := (List.take_append_drop 4 l).symm
    conv => lhs; rw [e]
    rw [ws_append _ _ (by rw [List.length_take]; omega)]; rfl
  | succ i ih =>
    have e : l = l.take 4 ++ l.drop 4 := (List.take_append_drop 4 l).symm
    conv => lhs; rw [e]
    rw [ws_append _ _ (by rw [List.length_take]; omega), List.getElem?_cons_succ, ih (l.drop 4) (m - 1) (by rw [List.length_drop]; omega) (by omega)]
    rw [List.take_drop, List.drop_drop]
    rw [show 4 * (i + 1) = 4 + 4 * i by omega, show 4 + 4 * i + 4 = 4 + (4 * i + 4) by omega]
theorem ws_take (l : List Int) (m : Nat) (h : l.length = 4 * m) (i : Nat) (hi : i < m) : (ws l).take (i + 1) = (ws l).take i ++ [(loadW ((l.take (4 * i + 4)).drop (4 * i)) true).1] := by
  rw [List.take_add_one, ws_get l m h i hi]; rfl
theorem refWords_l (l : List Int) (m : Nat) (hl : l.length = 4 * m) (hb : IsB l) (hm : m ≤ 100) : ∀ (d i k : Nat), i + d = m → d + 6 ≤ k →
    PCipherBlocks.hypogeumref05_words.l0 k l ((ws l).take i) ((4 * i : Nat) : Int) = some (ws l) := by
  intro d
  induction d with
  | zero =>
    intro i k hi hk
    obtain ⟨k, rfl⟩ : ∃ j, k = j + 1 := ⟨k - 1, by omega⟩
    simp only [PCipherBlocks.hypogeumref05_words.l0]
    rw [show wrap64 (((4 * i : Nat) : Int) + 4) = ((4 * i + 4 : Nat) : Int) by unfold wrap64; omega, if_neg (by omega), List.take_of_length_le (by rw [ws_length m l hl]; omega)]
  | succ d ih =>
    intro i k hi hk
    obtain ⟨k, rfl⟩ : ∃ j, k = j + 1 := ⟨k - 1, by omega⟩
    simp only [PCipherBlocks.hypogeumref05_words.l0]
    rw [show wrap64 (((4 * i : Nat) : Int) + 4) = ((4 * i + 4 : Nat) : Int) by unfold wrap64; omega, if_pos (by omega), if_pos (by omega), if_pos (by omega)]
    simp only [Int.toNat_natCast]
    rw [PlainCipherBlocks.refLoad_eq _ (fun x hx => hb x (List.mem_of_mem_take (List.mem_of_mem_drop hx))) true k (by omega)]
    simp only [Option.bind_some]
    rw [if_pos (by rw [List.length_take, ws_length m l hl]; omega), ← ws_take l m hl i (by omega), show 4 * i + 4 = 4 * (i + 1) by omega]
    exact ih (i + 1) k (by omega) (by omega)
theorem refWords_c {A : Option Addr} {n c : Nat} {l : List Int} {w : World} (hr : Rd w A n c l) (hb : IsB l) (m : Nat) (hn : n = 4 * m) (hm : m ≤ 100) :
    Calls Try.prog 43 #[.slice A n c] w fun e w' => ∃ v, e = .returned v ∧ OwW w' w.heap.size v (ws l) ∧ Below w.heap.size w w' := by
  obtain ⟨rfl, hc, hC⟩ := hr
  exact PCipherBlocks.hypogeumref05_words.calls 107 A c l _ w hC hc (refWords_l l m hn hb hm m 0 107 (by omega) (by omega))
theorem refQuarter_c {v : Value} {l : List Int} {base : Nat} {w : World} {A : Option Addr} {n co : Nat} (hr : Kd.C (Kd.int .u32) w A n l) (hn : l.length = n) (hco : n ≤ co) (hl : l.length = 16) (h : IsW l) (a b c d : Nat) (ha : a < 16) (hb : b < 16) (hc : c < 16) (hd : d < 16) {x y z u : Int} (hx : x = a) (hy : y = b) (hz : z = c) (hu : u = d) :
    Calls Try.prog 44 #[.slice A n co, .int .i64 x, .int .i64 y, .int .i64 z, .int .i64 u] w fun e w' => ∃ v, e = .returned v ∧ OwW w' w.heap.size v (qr l a b c d) ∧ Below w.heap.size w w' := by
  subst hx hy hz hu hn
  exact Quart.hypogeumref05_quarter.calls 40 A co l a b c d _ w hr hco (refQuarter_eq hl h ha hb hc hd 40 (by omega))
theorem blk_num {w : World} {g t : Nat} {k : IntKind} {l : List Int} (h : Blk w g t (nums k l)) (i : Nat) (hi : i < l.length) : w.cell? ⟨g, i, none⟩ = some (.int k (l.getD i 0)) := by
  rw [Blk.cell h, nums_get k l i hi]
theorem blk_put {w : World} {g t : Nat} {k : IntKind} {l : List Int} (h : Blk w g t (nums k l)) (i : Nat) (x : Int) : Blk (w.setCell ⟨g, i, none⟩ (.int k x)) g t (nums k (l.set i x)) := by
  have := Blk.set_ h i (.int k x)
  rwa [nums_set] at this
theorem size65 : (Try.prog.info? 65).map (·.size) = some 16 := by kernel_rfl
theorem size25 : (Try.prog.info? 25).map (·.size) = some 64 := by kernel_rfl
end Go.Proofs.Ytkjmjgiklelpiaa.CiC
/- cipher's quarter, walked. -/
namespace Go.Proofs.Ytkjmjgiklelpiaa.CiQ
open Go.RowKit Go.Proofs.YtkjmjgiklelpiaaW.PrintWords Go.Proofs.Ytkjmjgiklelpiaa.Num Go.Proofs.Ytkjmjgiklelpiaa.WordC Go.Proofs.Ytkjmjgiklelpiaa.Arr Go.Proofs.Ytkjmjgiklelpiaa.App Go.Proofs.Ytkjmjgiklelpiaa.CiC
set_option linter.unusedVariables false
set_option linter.unusedSimpArgs false

set_option maxHeartbeats 8000000 in
set_option maxRecDepth 100000 in
theorem quarter_c {g t : Nat} {l : List Int} {w : World} (hg : Blk w g t (nums .u32 l)) (hl : l.length = 16) (h : IsW l) (a b c d : Nat) (ha : a < 16) (hb : b < 16) (hc : c < 16) (hd : d < 16) {x y z u : Int} (hx : x = a) (hy : y = b) (hz : z = c) (hu : u = d) :
    Calls Try.prog 64 #[.pointer (some ⟨g, 0, none⟩), .int .i64 x, .int .i64 y, .int .i64 z, .int .i64 u] w fun e w' => e = .returned (.tuple #[]) ∧ Blk w' g t (nums .u32 (qr l a b c d)) ∧ Below g w w' := by
  subst hx hy hz hu
  have ia : (a : Int) < 16 := by omega
  have ib : (b : Int) < 16 := by omega
  have ic : (c : Int) < 16 := by omega
  have id_ : (d : Int) < 16 := by omega
  have na : (0 : Int) ≤ (a : Int) := by omega
  have nb : (0 : Int) ≤ (b : Int) := by omega
  have nc : (0 : Int) ≤ (c : Int) := by omega
  have nd : (0 : Int) ≤ (d : Int) := by omega
  have HG0 := Aside0.mk hg
  have HL0 := Aside0.mk hl
  have HW0 := Aside0.mk h
  have HB0 : Aside0 (Below g w w) := ⟨Below.refl _ _⟩
  have HE0 : Aside0 (l = l) := ⟨rfl⟩
  clear hg hl h
  go_enter Try.func64, Try.ntmps64
  go_upto_region 0 with (fail)
  have c0 : w.cell? ⟨g, a, none⟩ = some (.int .u32 (l.getD a 0)) := blk_num HG0.out a (by rw [HL0.out]; exact ha)
  have e0 : w.cell? ⟨g, b, none⟩ = some (.int .u32 (l.getD b 0)) := blk_num HG0.out b (by rw [HL0.out]; exact hb)
  have f0 : w.frozen? ⟨g, a, none⟩ = false := Blk.frozen HG0.out a
  have n0 : qa l a b = qa l a b := rfl
  have N0 : qa l a b = l.set a ((l.getD a 0 + l.getD b 0) % 4294967296) := rfl
  generalize hP0 : l.getD a 0 = P0 at *
  generalize hQ0 : l.getD b 0 = Q0 at *
  have NN0 := Aside0.mk N0
  clear hP0 hQ0 n0 N0
  go_region
  have HG1 : Aside0 (Blk (((w).setCell ⟨g, a, none⟩ (.int .u32 ((P0 + Q0) % 4294967296))).drew) g t (nums .u32 (qa l a b))) := ⟨by rw [NN0.out]; exact blk_put HG0.out a _⟩
  have HB1 : Aside0 (Below g w (((w).setCell ⟨g, a, none⟩ (.int .u32 ((P0 + Q0) % 4294967296))).drew)) := ⟨(HB0.out.setCell (p := ⟨g, a, none⟩) (Nat.le_refl _) _).drew⟩
  have HL1 : Aside0 ((qa l a b).length = 16) := ⟨by rw [qa_length]; exact HL0.out⟩
  have HW1 : Aside0 (IsW (qa l a b)) := ⟨qa_isW HW0.out _ _⟩
  clear c0 e0 f0
  obtain ⟨l1, HE1⟩ : ∃ z, Aside0 (qa l a b = z) := ⟨_, ⟨rfl⟩⟩
  rw [HE1.out] at HG1 HL1 HW1
  generalize ((w).setCell ⟨g, a, none⟩ (.int .u32 ((P0 + Q0) % 4294967296))).drew = w1 at HG1 HB1 ⊢
  go_upto_region 1 with (fail)
  skip
  have c1 : w1.cell? ⟨g, d, none⟩ = some (.int .u32 (l1.getD d 0)) := blk_num HG1.out d (by rw [HL1.out]; exact hd)
  have e1 : w1.cell? ⟨g, a, none⟩ = some (.int .u32 (l1.getD a 0)) := blk_num HG1.out a (by rw [HL1.out]; exact ha)
  have f1 : w1.frozen? ⟨g, d, none⟩ = false := Blk.frozen HG1.out d
  have r1 := xor_range (getD_isW HW1.out d).1 (getD_isW HW1.out d).2 (getD_isW HW1.out a).1 (getD_isW HW1.out a).2
  have n1 : qx l1 d a 16 = qx l1 d a 16 := rfl
  have N1 : qx l1 d a 16 = l1.set d (turn (Go.bits .xor .u32 (l1.getD d 0) (l1.getD a 0)) 16) := rfl
  generalize hP1 : l1.getD d 0 = P1 at *
  generalize hQ1 : l1.getD a 0 = Q1 at *
  have NN1 := Aside0.mk N1
  clear hP1 hQ1 n1 N1
  have R1 := Aside0.mk r1
  clear r1
  go_cut [] from 23 to 38 (fun wx => ∃ n : Nat, wx = (w1.drewN n).setCell ⟨g, d, none⟩ (.int .u32 (turn (Go.bits .xor .u32 P1 Q1) 16)))
  case first =>
    go_region_with (go_at_call 75; (with_reducible refine (Turn_c 16 R1.out.1 R1.out.2).mono ?_); rintro x w9 ⟨rfl, ⟨n9, rfl⟩⟩)
    all_goals (go_wp2_with fail; go_meet; exact ⟨_, rfl⟩)
  case' rest => obtain ⟨n1, rfl⟩ := hcut
  have HG2 : Aside0 (Blk (((w1.drewN n1).setCell ⟨g, d, none⟩ (.int .u32 (turn (Go.bits .xor .u32 P1 Q1) 16)))) g t (nums .u32 (qx l1 d a 16))) := ⟨by rw [NN1.out]; exact blk_put HG1.out d _⟩
  have HB2 : Aside0 (Below g w (((w1.drewN n1).setCell ⟨g, d, none⟩ (.int .u32 (turn (Go.bits .xor .u32 P1 Q1) 16))))) := ⟨(pw_below_drewN HB1.out _).setCell (p := ⟨g, d, none⟩) (Nat.le_refl _) _⟩
  have HL2 : Aside0 ((qx l1 d a 16).length = 16) := ⟨by rw [qx_length]; exact HL1.out⟩
  have HW2 : Aside0 (IsW (qx l1 d a 16)) := ⟨qx_isW HW1.out _ _ _⟩
  clear c1 e1 f1
  obtain ⟨l2, HE2⟩ : ∃ z, Aside0 (qx l1 d a 16 = z) := ⟨_, ⟨rfl⟩⟩
  rw [HE2.out] at HG2 HL2 HW2
  generalize ((w1.drewN n1).setCell ⟨g, d, none⟩ (.int .u32 (turn (Go.bits .xor .u32 P1 Q1) 16))) = w2 at HG2 HB2 ⊢
  go_upto_region 2 with (fail)
  skip
  have c2 : w2.cell? ⟨g, c, none⟩ = some (.int .u32 (l2.getD c 0)) := blk_num HG2.out c (by rw [HL2.out]; exact hc)
  have e2 : w2.cell? ⟨g, d, none⟩ = some (.int .u32 (l2.getD d 0)) := blk_num HG2.out d (by rw [HL2.out]; exact hd)
  have f2 : w2.frozen? ⟨g, c, none⟩ = false := Blk.frozen HG2.out c
  have n2 : qa l2 c d = qa l2 c d := rfl
  have N2 : qa l2 c d = l2.set c ((l2.getD c 0 + l2.getD d 0) % 4294967296) := rfl
  generalize hP2 : l2.getD c 0 = P2 at *
  generalize hQ2 : l2.getD d 0 = Q2 at *
  have NN2 := Aside0.mk N2
  clear hP2 hQ2 n2 N2
  go_region
  have HG3 : Aside0 (Blk (((w2).setCell ⟨g, c, none⟩ (.int .u32 ((P2 + Q2) % 4294967296))).drew) g t (nums .u32 (qa l2 c d))) := ⟨by rw [NN2.out]; exact blk_put HG2.out c _⟩
  have HB3 : Aside0 (Below g w (((w2).setCell ⟨g, c, none⟩ (.int .u32 ((P2 + Q2) % 4294967296))).drew)) := ⟨(HB2.out.setCell (p := ⟨g, c, none⟩) (Nat.le_refl _) _).drew⟩
  have HL3 : Aside0 ((qa l2 c d).length = 16) := ⟨by rw [qa_length]; exact HL2.out⟩
  have HW3 : Aside0 (IsW (qa l2 c d)) := ⟨qa_isW HW2.out _ _⟩
  clear c2 e2 f2
  obtain ⟨l3, HE3⟩ : ∃ z, Aside0 (qa l2 c d = z) := ⟨_, ⟨rfl⟩⟩
  rw [HE3.out] at HG3 HL3 HW3
  generalize ((w2).setCell ⟨g, c, none⟩ (.int .u32 ((P2 + Q2) % 4294967296))).drew = w3 at HG3 HB3 ⊢
  go_upto_region 3 with (fail)
  skip
  have c3 : w3.cell? ⟨g, b, none⟩ = some (.int .u32 (l3.getD b 0)) := blk_num HG3.out b (by rw [HL3.out]; exact hb)
  have e3 : w3.cell? ⟨g, c, none⟩ = some (.int .u32 (l3.getD c 0)) := blk_num HG3.out c (by rw [HL3.out]; exact hc)
  have f3 : w3.frozen? ⟨g, b, none⟩ = false := Blk.frozen HG3.out b
  have r3 := xor_range (getD_isW HW3.out b).1 (getD_isW HW3.out b).2 (getD_isW HW3.out c).1 (getD_isW HW3.out c).2
  have n3 : qx l3 b c 12 = qx l3 b c 12 := rfl
  have N3 : qx l3 b c 12 = l3.set b (turn (Go.bits .xor .u32 (l3.getD b 0) (l3.getD c 0)) 12) := rfl
  generalize hP3 : l3.getD b 0 = P3 at *
  generalize hQ3 : l3.getD c 0 = Q3 at *
  have NN3 := Aside0.mk N3
  clear hP3 hQ3 n3 N3
  have R3 := Aside0.mk r3
  clear r3
  go_cut [] from 52 to 67 (fun wx => ∃ n : Nat, wx = (w3.drewN n).setCell ⟨g, b, none⟩ (.int .u32 (turn (Go.bits .xor .u32 P3 Q3) 12)))
  case first =>
    go_region_with (go_at_call 75; (with_reducible refine (Turn_c 12 R3.out.1 R3.out.2).mono ?_); rintro x w9 ⟨rfl, ⟨n9, rfl⟩⟩)
    all_goals (go_wp2_with fail; go_meet; exact ⟨_, rfl⟩)
  case' rest => obtain ⟨n3, rfl⟩ := hcut
  have HG4 : Aside0 (Blk (((w3.drewN n3).setCell ⟨g, b, none⟩ (.int .u32 (turn (Go.bits .xor .u32 P3 Q3) 12)))) g t (nums .u32 (qx l3 b c 12))) := ⟨by rw [NN3.out]; exact blk_put HG3.out b _⟩
  have HB4 : Aside0 (Below g w (((w3.drewN n3).setCell ⟨g, b, none⟩ (.int .u32 (turn (Go.bits .xor .u32 P3 Q3) 12))))) := ⟨(pw_below_drewN HB3.out _).setCell (p := ⟨g, b, none⟩) (Nat.le_refl _) _⟩
  have HL4 : Aside0 ((qx l3 b c 12).length = 16) := ⟨by rw [qx_length]; exact HL3.out⟩
  have HW4 : Aside0 (IsW (qx l3 b c 12)) := ⟨qx_isW HW3.out _ _ _⟩
  clear c3 e3 f3
  obtain ⟨l4, HE4⟩ : ∃ z, Aside0 (qx l3 b c 12 = z) := ⟨_, ⟨rfl⟩⟩
  rw [HE4.out] at HG4 HL4 HW4
  generalize ((w3.drewN n3).setCell ⟨g, b, none⟩ (.int .u32 (turn (Go.bits .xor .u32 P3 Q3) 12))) = w4 at HG4 HB4 ⊢
  go_upto_region 4 with (fail)
  skip
  have c4 : w4.cell? ⟨g, a, none⟩ = some (.int .u32 (l4.getD a 0)) := blk_num HG4.out a (by rw [HL4.out]; exact ha)
  have e4 : w4.cell? ⟨g, b, none⟩ = some (.int .u32 (l4.getD b 0)) := blk_num HG4.out b (by rw [HL4.out]; exact hb)
  have f4 : w4.frozen? ⟨g, a, none⟩ = false := Blk.frozen HG4.out a
  have n4 : qa l4 a b = qa l4 a b := rfl
  have N4 : qa l4 a b = l4.set a ((l4.getD a 0 + l4.getD b 0) % 4294967296) := rfl
  generalize hP4 : l4.getD a 0 = P4 at *
  generalize hQ4 : l4.getD b 0 = Q4 at *
  have NN4 := Aside0.mk N4
  clear hP4 hQ4 n4 N4
  go_region
  have HG5 : Aside0 (Blk (((w4).setCell ⟨g, a, none⟩ (.int .u32 ((P4 + Q4) % 4294967296))).drew) g t (nums .u32 (qa l4 a b))) := ⟨by rw [NN4.out]; exact blk_put HG4.out a _⟩
  have HB5 : Aside0 (Below g w (((w4).setCell ⟨g, a, none⟩ (.int .u32 ((P4 + Q4) % 4294967296))).drew)) := ⟨(HB4.out.setCell (p := ⟨g, a, none⟩) (Nat.le_refl _) _).drew⟩
  have HL5 : Aside0 ((qa l4 a b).length = 16) := ⟨by rw [qa_length]; exact HL4.out⟩
  have HW5 : Aside0 (IsW (qa l4 a b)) := ⟨qa_isW HW4.out _ _⟩
  clear c4 e4 f4
  obtain ⟨l5, HE5⟩ : ∃ z, Aside0 (qa l4 a b = z) := ⟨_, ⟨rfl⟩⟩
  rw [HE5.out] at HG5 HL5 HW5
  generalize ((w4).setCell ⟨g, a, none⟩ (.int .u32 ((P4 + Q4) % 4294967296))).drew = w5 at HG5 HB5 ⊢
  go_upto_region 5 with (fail)
  skip
  have c5 : w5.cell? ⟨g, d, none⟩ = some (.int .u32 (l5.getD d 0)) := blk_num HG5.out d (by rw [HL5.out]; exact hd)
  have e5 : w5.cell? ⟨g, a, none⟩ = some (.int .u32 (l5.getD a 0)) := blk_num HG5.out a (by rw [HL5.out]; exact ha)
  have f5 : w5.frozen? ⟨g, d, none⟩ = false := Blk.frozen HG5.out d
  have r5 := xor_range (getD_isW HW5.out d).1 (getD_isW HW5.out d).2 (getD_isW HW5.out a).1 (getD_isW HW5.out a).2
  have n5 : qx l5 d a 8 = qx l5 d a 8 := rfl
  have N5 : qx l5 d a 8 = l5.set d (turn (Go.bits .xor .u32 (l5.getD d 0) (l5.getD a 0)) 8) := rfl
  generalize hP5 : l5.getD d 0 = P5 at *
  generalize hQ5 : l5.getD a 0 = Q5 at *
  have NN5 := Aside0.mk N5
  clear hP5 hQ5 n5 N5
  have R5 := Aside0.mk r5
  clear r5
  go_cut [] from 81 to 96 (fun wx => ∃ n : Nat, wx = (w5.drewN n).setCell ⟨g, d, none⟩ (.int .u32 (turn (Go.bits .xor .u32 P5 Q5) 8)))
  case first =>
    go_region_with (go_at_call 75; (with_reducible refine (Turn_c 8 R5.out.1 R5.out.2).mono ?_); rintro x w9 ⟨rfl, ⟨n9, rfl⟩⟩)
    all_goals (go_wp2_with fail; go_meet; exact ⟨_, rfl⟩)
  case' rest => obtain ⟨n5, rfl⟩ := hcut
  have HG6 : Aside0 (Blk (((w5.drewN n5).setCell ⟨g, d, none⟩ (.int .u32 (turn (Go.bits .xor .u32 P5 Q5) 8)))) g t (nums .u32 (qx l5 d a 8))) := ⟨by rw [NN5.out]; exact blk_put HG5.out d _⟩
  have HB6 : Aside0 (Below g w (((w5.drewN n5).setCell ⟨g, d, none⟩ (.int .u32 (turn (Go.bits .xor .u32 P5 Q5) 8))))) := ⟨(pw_below_drewN HB5.out _).setCell (p := ⟨g, d, none⟩) (Nat.le_refl _) _⟩
  have HL6 : Aside0 ((qx l5 d a 8).length = 16) := ⟨by rw [qx_length]; exact HL5.out⟩
  have HW6 : Aside0 (IsW (qx l5 d a 8)) := ⟨qx_isW HW5.out _ _ _⟩
  clear c5 e5 f5
  obtain ⟨l6, HE6⟩ : ∃ z, Aside0 (qx l5 d a 8 = z) := ⟨_, ⟨rfl⟩⟩
  rw [HE6.out] at HG6 HL6 HW6
  generalize ((w5.drewN n5).setCell ⟨g, d, none⟩ (.int .u32 (turn (Go.bits .xor .u32 P5 Q5) 8))) = w6 at HG6 HB6 ⊢
  go_upto_region 6 with (fail)
  skip
  have c6 : w6.cell? ⟨g, c, none⟩ = some (.int .u32 (l6.getD c 0)) := blk_num HG6.out c (by rw [HL6.out]; exact hc)
  have e6 : w6.cell? ⟨g, d, none⟩ = some (.int .u32 (l6.getD d 0)) := blk_num HG6.out d (by rw [HL6.out]; exact hd)
  have f6 : w6.frozen? ⟨g, c, none⟩ = false := Blk.frozen HG6.out c
  have n6 : qa l6 c d = qa l6 c d := rfl
  have N6 : qa l6 c d = l6.set c ((l6.getD c 0 + l6.getD d 0) % 4294967296) := rfl
  generalize hP6 : l6.getD c 0 = P6 at *
  generalize hQ6 : l6.getD d 0 = Q6 at *
  have NN6 := Aside0.mk N6
  clear hP6 hQ6 n6 N6
  go_region
  have HG7 : Aside0 (Blk (((w6).setCell ⟨g, c, none⟩ (.int .u32 ((P6 + Q6) % 4294967296))).drew) g t (nums .u32 (qa l6 c d))) := ⟨by rw [NN6.out]; exact blk_put HG6.out c _⟩
  have HB7 : Aside0 (Below g w (((w6).setCell ⟨g, c, none⟩ (.int .u32 ((P6 + Q6) % 4294967296))).drew)) := ⟨(HB6.out.setCell (p := ⟨g, c, none⟩) (Nat.le_refl _) _).drew⟩
  have HL7 : Aside0 ((qa l6 c d).length = 16) := ⟨by rw [qa_length]; exact HL6.out⟩
  have HW7 : Aside0 (IsW (qa l6 c d)) := ⟨qa_isW HW6.out _ _⟩
  clear c6 e6 f6
  obtain ⟨l7, HE7⟩ : ∃ z, Aside0 (qa l6 c d = z) := ⟨_, ⟨rfl⟩⟩
  rw [HE7.out] at HG7 HL7 HW7
  generalize ((w6).setCell ⟨g, c, none⟩ (.int .u32 ((P6 + Q6) % 4294967296))).drew = w7 at HG7 HB7 ⊢
  go_upto_region 7 with (fail)
  skip
  have c7 : w7.cell? ⟨g, b, none⟩ = some (.int .u32 (l7.getD b 0)) := blk_num HG7.out b (by rw [HL7.out]; exact hb)
  have e7 : w7.cell? ⟨g, c, none⟩ = some (.int .u32 (l7.getD c 0)) := blk_num HG7.out c (by rw [HL7.out]; exact hc)
  have f7 : w7.frozen? ⟨g, b, none⟩ = false := Blk.frozen HG7.out b
  have r7 := xor_range (getD_isW HW7.out b).1 (getD_isW HW7.out b).2 (getD_isW HW7.out c).1 (getD_isW HW7.out c).2
  have n7 : qx l7 b c 7 = qx l7 b c 7 := rfl
  have N7 : qx l7 b c 7 = l7.set b (turn (Go.bits .xor .u32 (l7.getD b 0) (l7.getD c 0)) 7) := rfl
  generalize hP7 : l7.getD b 0 = P7 at *
  generalize hQ7 : l7.getD c 0 = Q7 at *
  have NN7 := Aside0.mk N7
  clear hP7 hQ7 n7 N7
  have R7 := Aside0.mk r7
  clear r7
  have hq : qr l a b c d = l7.set b (turn (Go.bits .xor .u32 P7 Q7) 7) := by
    rw [← NN7.out]; unfold qr; rw [HE1.out, HE2.out, HE3.out, HE4.out, HE5.out, HE6.out, HE7.out]
  have HQ := Aside0.mk hq
  clear hq
  go_region_with (go_at_call 75; (with_reducible refine (Turn_c 7 R7.out.1 R7.out.2).mono ?_); rintro x w9 ⟨rfl, ⟨n9, rfl⟩⟩)
  all_goals (go_wp2_with fail; go_end0; exact ⟨rfl, by rw [HQ.out]; exact blk_put HG7.out b _, (pw_below_drewN HB7.out _).setCell (p := ⟨g, b, none⟩) (Nat.le_refl _) _⟩)
end Go.Proofs.Ytkjmjgiklelpiaa.CiQ
/- cipher.begun, walked. -/
namespace Go.Proofs.Ytkjmjgiklelpiaa.CiB
open Go.RowKit Go.Proofs.YtkjmjgiklelpiaaW.PrintWords Go.Proofs.Ytkjmjgiklelpiaa.Num Go.Proofs.Ytkjmjgiklelpiaa.WordC Go.Proofs.Ytkjmjgiklelpiaa.Arr Go.Proofs.Ytkjmjgiklelpiaa.App Go.Proofs.Ytkjmjgiklelpiaa.CiC
set_option linter.unusedVariables false
set_option linter.unusedSimpArgs false

/-- The words at first, without the counter. -/
def c4 : List Int := [1634760805, 857760878, 2036477234, 1797285236]
def g0S (k o : List Int) : List Int := c4 ++ ws k ++ [0] ++ ws o
def gS (k o : List Int) (n : Int) : List Int := c4 ++ ws k ++ [n] ++ ws o
theorem g0_set (k o : List Int) (n : Int) (hk : (ws k).length = 8) : (g0S k o).set 12 n = gS k o n := by
  unfold g0S gS
  rw [List.append_assoc, List.set_append_right _ _ (by simp [c4, hk]), List.append_assoc]
  simp [c4, hk]
/-- So many words, and noughts behind them. -/
def fillG (l : List Int) : List Int := l ++ List.replicate (16 - l.length) 0
theorem fillG_length (l : List Int) (h : l.length ≤ 16) : (fillG l).length = 16 := by simp [fillG]; omega
theorem fillG_set (l : List Int) (x : Int) (h : l.length < 16) : (fillG l).set l.length x = fillG (l ++ [x]) := by
  unfold fillG
  rw [List.set_append_right _ _ (by omega), Nat.sub_self]
  obtain ⟨d, hd⟩ : ∃ d, 16 - l.length = d + 1 := ⟨15 - l.length, by omega⟩
  rw [hd, List.replicate_succ, List.set_cons_zero, List.length_append, List.length_singleton, show 16 - (l.length + 1) = d by omega]
  simp
theorem fillG_zero (l : List Int) (h : l.length < 16) : fillG (l ++ [0]) = fillG l := by
  unfold fillG
  obtain ⟨d, hd⟩ : ∃ d, 16 - l.length = d + 1 := ⟨15 - l.length, by omega⟩
  rw [hd, List.replicate_succ, List.length_append, List.length_singleton, show 16 - (l.length + 1) = d by omega]
  simp
theorem wsl (l : List Int) (m : Nat) (hl : l.length = 4 * m) (t : Nat) (ht : t ≤ m) : ((ws l).take t).length = t := by
  rw [List.length_take, ws_length m l hl]; omega
theorem results_two_row {P : Program} {fn : Func} {p u : Tmp} {ty : TypeId} (h : fn.results = #[.cell p ty, .tmp u]) (tmps : Array Value) (w : World) (g t n e : Nat) (k : IntKind) (l : List Int)
    (hp : tmps.getD p undef = .pointer (some ⟨g, 0, none⟩)) (hg : Blk w g t (nums k l)) (hu : P.underlying ty = some (.array n e)) (hi : (P.info? ty).map (·.size) = some n) (hl : l.length = n) :
    (results fn tmps).run P w = .ok (.tuple #[.agg (nums k l).toArray, tmps.getD u undef]) w := by
  rw [results_cell_tmp h, hp]
  simp [asAddr, run_loadVar_row w g t ty (nums k l).toArray (0, 0) (.array n e) hg hu rfl (by rw [size_nums, hl]; exact hi), Result.andThen]
set_option maxHeartbeats 8000000 in
set_option maxRecDepth 100000 in
theorem begun_yes {A B : Option Addr} {c d : Nat} {k o : List Int} {w : World} (hk : Rd w A 32 c k) (ho : Rd w B 12 d o) (bk : IsB k) (bo : IsB o) :
    Calls Try.prog 41 #[.slice A 32 c, .slice B 12 d] w fun e w' => e = .returned (.tuple #[.agg (nums .u32 (g0S k o)).toArray, .bool true]) ∧ Below w.heap.size w w' := by
  go_enter Try.func41, Try.ntmps41
  go_wp2_with fail
  generalize hW : (w.alloc _).alloc _ = W0
  have hX : Aside0 (Blk W0 (w.heap.size + 1) 65 (nums .u32 (fillG (c4 ++ (ws k).take 0)))) := ⟨by rw [← hW]; exact heap_alloc2_new _ _ _⟩
  have hY : Aside0 (Blk W0 w.heap.size 65 (nums .u32 (fillG []))) := ⟨by rw [← hW]; exact heap_alloc2_old _ _ _⟩
  have hB0 : Below w.heap.size w W0 := by rw [← hW]; exact ((Below.refl _ w).alloc (Nat.le_refl _) _).alloc (by simp) _
  clear hW
  have HK := Aside0.mk hk
  have HO := Aside0.mk ho
  clear hk ho
  have hlk : k.length = 4 * 8 := HK.out.len
  have hlo : o.length = 4 * 3 := HO.out.len
  have HLK := Aside0.mk hlk
  have HLO := Aside0.mk hlo
  clear hlk hlo
  go_loopw [19] (fun i wr => ∃ t : Nat, t ≤ 8 ∧ i = .int .i64 t ∧ Aside0 (Blk wr (w.heap.size + 1) 65 (nums .u32 (fillG (c4 ++ (ws k).take t)))) ∧ Aside0 (Blk wr w.heap.size 65 (nums .u32 (fillG []))) ∧ Below w.heap.size w wr) (fun i _ => 8 - (intOf i).toNat)
  case atStart => exact ⟨0, by omega, rfl, hX, hY, hB0⟩
  case round =>
    clear hX hY hB0
    obtain ⟨t, ht, rfl, hX, hY, hB⟩ := hrel
    by_cases hlt : t < 8
    · have hlt' : (t : Int) < 8 := by omega
      obtain ⟨A', c', hcut, hrd⟩ := rd_slice (HK.out.below hB) (4 * t) (4 * t + 4) (x := 4 * (t : Int)) (y := 4 * (t : Int) + 4) (by omega) (by omega) (by omega) (by omega)
      rw [show 4 * t + 4 - 4 * t = 4 by omega] at hcut hrd
      have hI : IsB ((k.take (4 * t + 4)).drop (4 * t)) := fun x hx => bk x (List.mem_of_mem_take (List.mem_of_mem_drop hx))
      have i0 : (0 : Int) ≤ 4 + (t : Int) := by omega
      have i1 : (4 : Int) + (t : Int) < 16 := by omega
      have it : ((4 : Int) + (t : Int)).toNat = 4 + t := by omega
      go_wp2_with fail
      refine (Load_c hrd hI true).mono ?_
      rintro x w2 ⟨rfl, ⟨n2, rfl⟩⟩
      have f0 := blk_num hX.out (4 + t) (by rw [fillG_length _ (by rw [List.length_append, wsl k 8 HLK.out t (by omega)]; simp [c4]; omega)]; omega)
      have f1 := Blk.frozen hX.out (4 + t)
      go_wp2_with fail
      have R1 : Aside0 (Blk ((wr.drewN n2).setCell ⟨w.heap.size + 1, 4 + t, none⟩ (.int .u32 (loadW ((k.take (4 * t + 4)).drop (4 * t)) true).1)) (w.heap.size + 1) 65 (nums .u32 (fillG (c4 ++ (ws k).take (t + 1))))) := ⟨by
        have h1 := blk_put hX.out (4 + t) (loadW ((k.take (4 * t + 4)).drop (4 * t)) true).1
        have h2 := fillG_set (c4 ++ (ws k).take t) (loadW ((k.take (4 * t + 4)).drop (4 * t)) true).1 (by rw [List.length_append, wsl k 8 HLK.out t (by omega)]; simp [c4]; omega)
        rw [List.length_append, wsl k 8 HLK.out t (by omega), show c4.length + t = 4 + t from rfl] at h2
        rw [h2, List.append_assoc, ← ws_take k 8 HLK.out t hlt] at h1
        exact h1⟩
      have R2 : Aside0 (Blk ((wr.drewN n2).setCell ⟨w.heap.size + 1, 4 + t, none⟩ (.int .u32 (loadW ((k.take (4 * t + 4)).drop (4 * t)) true).1)) w.heap.size 65 (nums .u32 (fillG []))) := ⟨Blk.far hY.out (p := ⟨w.heap.size + 1, 4 + t, none⟩) (by simp) _⟩
      go_roundw
      case rel => exact ⟨t + 1, by omega, by go_num, ⟨R1.out⟩, ⟨R2.out⟩, (pw_below_drewN hB _).setCell (p := ⟨w.heap.size + 1, 4 + t, none⟩) (by simp) _⟩
      case measure => simp [intOf]; omega
    · have hge : ¬ (t : Int) < 8 := by omega
      obtain rfl : t = 8 := by omega
      have hX8 : Aside0 (Blk wr (w.heap.size + 1) 65 (nums .u32 (fillG (c4 ++ ws k ++ [0] ++ (ws o).take 0)))) := ⟨by
        have h1 := hX.out
        rw [List.take_of_length_le (by rw [ws_length 8 k HLK.out]; omega)] at h1
        rw [List.take_zero, List.append_nil, fillG_zero _ (by rw [List.length_append, ws_length 8 k HLK.out]; decide)]
        exact h1⟩
      have hlk' : (c4 ++ ws k ++ [0]).length = 13 := by rw [List.length_append, List.length_append, ws_length 8 k HLK.out]; rfl
      have HLK' := Aside0.mk hlk'
      clear hlk' hX
      go_wp2_with fail
      go_loopw [37] (fun i wr => ∃ t : Nat, t ≤ 3 ∧ i = .int .i64 t ∧ Aside0 (Blk wr (w.heap.size + 1) 65 (nums .u32 (fillG (c4 ++ ws k ++ [0] ++ (ws o).take t)))) ∧ Aside0 (Blk wr w.heap.size 65 (nums .u32 (fillG []))) ∧ Below w.heap.size w wr) (fun i _ => 3 - (intOf i).toNat)
      case atStart => exact ⟨0, by omega, rfl, hX8, hY, hB⟩
      case round =>
        clear hX8 hY hB
        obtain ⟨t, ht, rfl, hX, hY, hB⟩ := hrel
        by_cases hlt : t < 3
        · have hlt' : (t : Int) < 3 := by omega
          obtain ⟨A', c', hcut, hrd⟩ := rd_slice (HO.out.below hB) (4 * t) (4 * t + 4) (x := 4 * (t : Int)) (y := 4 * (t : Int) + 4) (by omega) (by omega) (by omega) (by omega)
          rw [show 4 * t + 4 - 4 * t = 4 by omega] at hcut hrd
          have hI : IsB ((o.take (4 * t + 4)).drop (4 * t)) := fun x hx => bo x (List.mem_of_mem_take (List.mem_of_mem_drop hx))
          have i0 : (0 : Int) ≤ 13 + (t : Int) := by omega
          have i1 : (13 : Int) + (t : Int) < 16 := by omega
          have it : ((13 : Int) + (t : Int)).toNat = 13 + t := by omega
          go_wp2_with fail
          refine (Load_c hrd hI true).mono ?_
          rintro x w2 ⟨rfl, ⟨n2, rfl⟩⟩
          have f0 := blk_num hX.out (13 + t) (by rw [fillG_length _ (by rw [List.length_append, wsl o 3 HLO.out t (by omega), HLK'.out]; omega)]; omega)
          have f1 := Blk.frozen hX.out (13 + t)
          go_wp2_with fail
          have R1 : Aside0 (Blk ((wr.drewN n2).setCell ⟨w.heap.size + 1, 13 + t, none⟩ (.int .u32 (loadW ((o.take (4 * t + 4)).drop (4 * t)) true).1)) (w.heap.size + 1) 65 (nums .u32 (fillG (c4 ++ ws k ++ [0] ++ (ws o).take (t + 1))))) := ⟨by
            have h1 := blk_put hX.out (13 + t) (loadW ((o.take (4 * t + 4)).drop (4 * t)) true).1
            have h2 := fillG_set (c4 ++ ws k ++ [0] ++ (ws o).take t) (loadW ((o.take (4 * t + 4)).drop (4 * t)) true).1 (by rw [List.length_append, wsl o 3 HLO.out t (by omega), HLK'.out]; omega)
            rw [List.length_append, wsl o 3 HLO.out t (by omega), HLK'.out] at h2
            rw [h2, List.append_assoc, ← ws_take o 3 HLO.out t hlt] at h1
            exact h1⟩
          have R2 : Aside0 (Blk ((wr.drewN n2).setCell ⟨w.heap.size + 1, 13 + t, none⟩ (.int .u32 (loadW ((o.take (4 * t + 4)).drop (4 * t)) true).1)) w.heap.size 65 (nums .u32 (fillG []))) := ⟨Blk.far hY.out (p := ⟨w.heap.size + 1, 13 + t, none⟩) (by simp) _⟩
          go_roundw
          case rel => exact ⟨t + 1, by omega, by go_num, ⟨R1.out⟩, ⟨R2.out⟩, (pw_below_drewN hB _).setCell (p := ⟨w.heap.size + 1, 13 + t, none⟩) (by simp) _⟩
          case measure => simp [intOf]; omega
        · have hge : ¬ (t : Int) < 3 := by omega
          obtain rfl : t = 3 := by omega
          have hlg : (g0S k o).length = 16 := by unfold g0S; rw [List.length_append, HLK'.out, ws_length 3 o HLO.out]
          have hXX : Aside0 (Blk wr (w.heap.size + 1) 65 (nums .u32 (g0S k o))) := ⟨by
            have h1 := hX.out
            rw [List.take_of_length_le (by rw [ws_length 3 o HLO.out]; omega)] at h1
            have h2 : fillG (c4 ++ ws k ++ [0] ++ ws o) = g0S k o := by
              have h3 := hlg
              unfold g0S at h3 ⊢
              unfold fillG
              rw [h3]; simp
            rwa [h2] at h1⟩
          clear hX
          obtain ⟨S, HS⟩ : ∃ S, Aside0 (g0S k o = S) := ⟨_, ⟨rfl⟩⟩
          rw [HS.out] at hXX hlg
          have HLS := Aside0.mk hlg
          clear hlg
          go_wp2_with (first
            | (refine load_arr rfl 65 (.tmp 6) rfl (w.heap.size + 1) rfl 65 .u32 S 16 23 hXX.out Try.underlying65 size65 HLS.out ?_)
            | (refine store_arr rfl 65 (.tmp 4) (.tmp 55) rfl w.heap.size .u32 S rfl rfl 65 16 (nums .u32 (fillG [])) hY.out size65 HLS.out (by rw [nums_length]; rfl) ?_; intro w9 hZ hg9; have HZ := Aside0.mk hZ; clear hZ))
          refine bodyPost_ret (v := .tuple #[.agg (nums .u32 S).toArray, .bool true]) ?_ rfl ⟨by rw [HS.out], hB.grown hg9 hB.size (fun k hk => by cases hk; exact Nat.le_refl _)⟩
          exact results_two_row (p := 4) (u := 5) (ty := 65) rfl _ w9 w.heap.size 65 16 23 .u32 S rfl HZ.out Try.underlying65 size65 HLS.out
end Go.Proofs.Ytkjmjgiklelpiaa.CiB
/- What the cipher's block is, in plain words. -/
namespace Go.Proofs.Ytkjmjgiklelpiaa.CiD
open Go.RowKit Go.Proofs.YtkjmjgiklelpiaaW.PrintWords Go.Proofs.Ytkjmjgiklelpiaa.Num Go.Proofs.Ytkjmjgiklelpiaa.WordC Go.Proofs.Ytkjmjgiklelpiaa.Arr Go.Proofs.Ytkjmjgiklelpiaa.App Go.Proofs.Ytkjmjgiklelpiaa.CiC
set_option linter.unusedVariables false
set_option linter.unusedSimpArgs false

/-- Two rounds. -/
def rnd (l : List Int) : List Int := qr (qr (qr (qr (qr (qr (qr (qr l 0 4 8 12) 1 5 9 13) 2 6 10 14) 3 7 11 15) 0 5 10 15) 1 6 11 12) 2 7 8 13) 3 4 9 14
def rnds : Nat → List Int → List Int
  | 0, l => l
  | n + 1, l => rnd (rnds n l)
theorem rnd_length (l : List Int) : (rnd l).length = l.length := by simp [rnd, qr_length]
theorem rnd_isW {l : List Int} (h : IsW l) : IsW (rnd l) :=
  qr_isW (qr_isW (qr_isW (qr_isW (qr_isW (qr_isW (qr_isW (qr_isW h _ _ _ _) _ _ _ _) _ _ _ _) _ _ _ _) _ _ _ _) _ _ _ _) _ _ _ _) _ _ _ _
theorem rnds_length (n : Nat) (l : List Int) : (rnds n l).length = l.length := by
  induction n with
  | zero => rfl
  | succ n ih => rw [rnds, rnd_length, ih]
theorem rnds_isW {l : List Int} (h : IsW l) (n : Nat) : IsW (rnds n l) := by
  induction n with
  | zero => exact h
  | succ n ih => exact rnd_isW ih
/-- The first so many words' bytes. -/
def outS (r l : List Int) : Nat → List Int
  | 0 => []
  | t + 1 => outS r l t ++ storeW ((r.getD t 0 + l.getD t 0) % 4294967296) true
theorem outS_length (r l : List Int) (t : Nat) : (outS r l t).length = 4 * t := by
  induction t with
  | zero => rfl
  | succ t ih => rw [outS, List.length_append, ih, storeW_length]; omega
theorem outS_isB (r l : List Int) (t : Nat) : IsB (outS r l t) := by
  induction t with
  | zero => intro x hx; simp [outS] at hx
  | succ t ih =>
    intro x hx
    rcases List.mem_append.1 (show x ∈ outS r l t ++ _ from hx) with hx | hx
    · exact ih x hx
    · exact storeW_isB _ _ x hx
def blkS (l : List Int) : List Int := outS (rnds 10 l) l 16
theorem blkS_length (l : List Int) : (blkS l).length = 64 := outS_length _ _ 16
theorem blkS_isB (l : List Int) : IsB (blkS l) := outS_isB _ _ 16
def q4 (l : List Int) : Nat → List Int
  | 0 => l
  | t + 1 => qr (q4 l t) t (4 + t) (8 + t) (12 + t)
def d4 (l : List Int) : Nat → List Int
  | 0 => l
  | t + 1 => qr (d4 l t) t (4 + (t + 1) % 4) (8 + (t + 2) % 4) (12 + (t + 3) % 4)
theorem q4_length (l : List Int) (t : Nat) : (q4 l t).length = l.length := by
  induction t with
  | zero => rfl
  | succ t ih => rw [q4, qr_length, ih]
theorem d4_length (l : List Int) (t : Nat) : (d4 l t).length = l.length := by
  induction t with
  | zero => rfl
  | succ t ih => rw [d4, qr_length, ih]
theorem q4_isW {l : List Int} (h : IsW l) (t : Nat) : IsW (q4 l t) := by
  induction t with
  | zero => exact h
  | succ t ih => exact qr_isW ih _ _ _ _
theorem d4_isW {l : List Int} (h : IsW l) (t : Nat) : IsW (d4 l t) := by
  induction t with
  | zero => exact h
  | succ t ih => exact qr_isW ih _ _ _ _
theorem blk_under {w w1 : World} {g t B : Nat} {cs : List Value} (h : Blk w g t cs) (hb : Below B w w1) (hg : g < B) : Blk w1 g t cs := (hb.block g hg).trans h
theorem wp_scope_once {P : Program} {a : Act} {w : World} {Q : Exit → Act → World → Prop} {c rest : Code} (l : Nat) (J : Act → World → Prop) (μ : Act → World → Nat) (hf : findLabel c l = some (Code.seq Code.skip rest))
    (pass : ∀ a w, J a w → rest.wp P (Exit.jump l (fun a' w' => J a' w' ∧ μ a' w' < μ a w) Q) a w)
    (first : (∀ a w, J a w → rest.wp P (Exit.jump l J Q) a w) → c.wp P (Exit.jump l J Q) a w) : (Code.scope c).wp P Q a w :=
  wp_scope_jumps l J μ hf (first fun a w hJ => Code.wp_mono (fun e a' w' h => by
    cases e with
    | goto l' => exact ⟨h.1, h.2.1⟩
    | _ => exact h) (pass a w hJ)) fun a w hJ => wp_seq (wp_skip (pass a w hJ))
theorem infoU32 : (Try.prog.info? 23).map (·.size) = some 1 := by kernel_rfl
theorem sizeU8 : (Try.prog.info? 5).map (·.size) = some 1 := by kernel_rfl
theorem index_nums (l : List Int) (hl : l.length = 16) (t : Nat) (ht : t < 16) (w : World) : (Instr.index 65 (.agg (nums .u32 l).toArray) (.int .i64 t)).run Try.prog w = .ok (.int .u32 (l.getD t 0)) w := by
  obtain ⟨i, hi, hz⟩ := Option.map_eq_some_iff.1 infoU32
  have hn : (0 : Int) ≤ (t : Int) ∧ (t : Int) < 16 := by omega
  have hk := nums_get .u32 l t (by omega)
  have hg : (isAgg 23).run Try.prog w = .ok false w := by
    unfold isAgg
    rw [Sem.run_bind, run_underlying Try.underlying23]
    rfl
  simp [Instr.index, run_underlying Try.underlying65, asIntOf, hn, go_sem, Go.sizeOf, typeInfo, hi, hz, ht, hg, hk]
/-- out[4*i:], of an array of 64 bytes -/
theorem slice_arr (G T : Nat) (h : T < 16) (W : World) : (Instr.sliceAt 25 (.pointer (some ⟨G, 0, none⟩)) (some (.int .i64 (4 * (T : Int)))) none none).run Try.prog W = .ok (.slice (some ⟨G, 4 * T, none⟩) (64 - 4 * T) (64 - 4 * T)) W := by
  obtain ⟨i, hi, hz⟩ := infoX
  have h0 : (0 : Int) ≤ 4 * (T : Int) ∧ 4 * (T : Int) ≤ 64 := by omega
  have h1 : (4 * (T : Int)).toNat = 4 * T := by omega
  have h2 : ¬ 64 = 4 * T := by omega
  have h3 : (⟨G, 0, none⟩ : Addr).add (4 * T) = ⟨G, 4 * T, none⟩ := add_plain G (4 * T)
  simp [Instr.sliceAt, run_underlying Try.underlying25, Instr.sureAddr, Instr.sliceBounds, Instr.sliceBound, asIntOf, sizeOf, typeInfo, hi, hz, h0, h1, h2, h3]
/-- The bytes of the block as they stand when so many words have been told. -/
def outT (r l : List Int) (T : Nat) : List Int := outS r l T ++ List.replicate (64 - 4 * T) 0
theorem outT_length (r l : List Int) (T : Nat) (h : T ≤ 16) : (outT r l T).length = 64 := by simp [outT, outS_length]; omega
theorem outT_next (r l : List Int) (T : Nat) (h : T < 16) : (nums .u8 (outT r l T)).take (4 * T) ++ nums .u8 (storeW ((r.getD T 0 + l.getD T 0) % 4294967296) true) ++ (nums .u8 (outT r l T)).drop (4 * T + 4) = nums .u8 (outT r l (T + 1)) := by
  have hl := outS_length r l T
  unfold nums
  rw [← List.map_take, ← List.map_drop, ← List.map_append, ← List.map_append]
  congr 1
  unfold outT
  rw [outS, List.take_append_of_le_length (by omega), List.take_of_length_le (by omega), List.drop_append, List.drop_of_length_le (by omega), hl, show 4 * T + 4 - 4 * T = 4 by omega, List.drop_replicate, show 64 - 4 * T - 4 = 64 - 4 * (T + 1) by omega]
  simp
end Go.Proofs.Ytkjmjgiklelpiaa.CiD
/- cipher's block, walked. -/
namespace Go.Proofs.Ytkjmjgiklelpiaa.CiK
open Go.RowKit Go.Proofs.YtkjmjgiklelpiaaW.PrintWords Go.Proofs.Ytkjmjgiklelpiaa.Num Go.Proofs.Ytkjmjgiklelpiaa.WordC Go.Proofs.Ytkjmjgiklelpiaa.Arr Go.Proofs.Ytkjmjgiklelpiaa.App Go.Proofs.Ytkjmjgiklelpiaa.CiC Go.Proofs.Ytkjmjgiklelpiaa.CiQ Go.Proofs.Ytkjmjgiklelpiaa.CiD
set_option linter.unusedVariables false
set_option linter.unusedSimpArgs false

set_option maxHeartbeats 8000000 in
set_option maxRecDepth 100000 in
theorem block_c {l : List Int} {w : World} (hl : l.length = 16) (h : IsW l) :
    Calls Try.prog 42 #[.agg (nums .u32 l).toArray] w fun e w' => e = .returned (.agg (nums .u8 (blkS l)).toArray) ∧ Below w.heap.size w w' := by
  have HL := Aside0.mk hl
  have HW := Aside0.mk h
  clear hl h
  go_enter Try.func42, Try.ntmps42
  go_wp2_with fail
  refine wp_scope_once 0 (fun a' w' => ∃ (m : Nat) (u5 u6 u7 u8 u9 u10 u11 u12 u13 u14 u15 u16 u17 u18 u19 u20 u21 u22 u23 u24 u25 u26 u27 u28 u29 u30 u31 u32 u33 u34 u35 u36 u37 u38 u39 u40 u41 u42 u43 u44 u45 u46 u47 u48 u49 u50 u51 u52 u53 u54 u55 u56 u57 u58 u59 u60 u61 : Value), 1 ≤ m ∧ m ≤ 10 ∧ a' = { tmps := #[.agg (nums .u32 l).toArray, .pointer (some ⟨w.heap.size, 0, none⟩), .pointer (some ⟨w.heap.size + 1, 0, none⟩), .pointer (some ⟨w.heap.size + 2, 0, none⟩), .int .i64 (m : Int), u5, u6, u7, u8, u9, u10, u11, u12, u13, u14, u15, u16, u17, u18, u19, u20, u21, u22, u23, u24, u25, u26, u27, u28, u29, u30, u31, u32, u33, u34, u35, u36, u37, u38, u39, u40, u41, u42, u43, u44, u45, u46, u47, u48, u49, u50, u51, u52, u53, u54, u55, u56, u57, u58, u59, u60, u61], defers := [] } ∧ Aside0 (Blk w' w.heap.size 65 (nums .u32 l)) ∧ Aside0 (Blk w' (w.heap.size + 1) 25 (nums .u8 (List.replicate 64 0))) ∧ Aside0 (Blk w' (w.heap.size + 2) 65 (nums .u32 (rnds (10 - m) l))) ∧ Below w.heap.size w w') (fun a' _ => (intOf (a'.tmps.getD 4 undef)).toNat) rfl ?pass ?first
  case first =>
    intro key
    have KEY := Aside0.mk key
    clear key
    generalize hW : (w.alloc _).alloc _ = W1
    have hX : Blk W1 w.heap.size 65 (nums .u32 l) := by rw [← hW]; exact heap_alloc2_old _ _ _
    have hY : Blk W1 (w.heap.size + 1) 25 (nums .u8 (List.replicate 64 0)) := by rw [← hW]; exact heap_alloc2_new _ _ _
    have hB : Below w.heap.size w W1 := by rw [← hW]; exact ((Below.refl _ w).alloc (Nat.le_refl _) _).alloc (by simp) _
    have hsz : W1.heap.size = w.heap.size + 2 := by rw [← hW]; simp
    clear hW
    have hZ : Blk (W1.alloc (.cells (nums .u32 (List.replicate 16 0)).toArray 65)) W1.heap.size 65 (nums .u32 (List.replicate 16 0)) := heap_alloc_new _ _
    have hXZ := Blk.alloc hX (.cells (nums .u32 (List.replicate 16 0)).toArray 65)
    have hYZ := Blk.alloc hY (.cells (nums .u32 (List.replicate 16 0)).toArray 65)
    have hBZ := hB.alloc hB.size (.cells (nums .u32 (List.replicate 16 0)).toArray 65)
    rw [hsz] at hZ
    have HX := Aside0.mk hX
    have HXZ := Aside0.mk hXZ
    have HYZ := Aside0.mk hYZ
    have HZ := Aside0.mk hZ
    have HBZ := Aside0.mk hBZ
    clear hX hY hB hXZ hYZ hZ hBZ
    go_wp2_with (first
      | (refine load_arr rfl 65 (.tmp 1) rfl w.heap.size rfl 65 .u32 l 16 23 HX.out Try.underlying65 size65 HL.out ?_)
      | (refine store_arr rfl 65 (.tmp 3) (.tmp 10) rfl (w.heap.size + 2) .u32 l rfl rfl 65 16 (nums .u32 (List.replicate 16 0)) HZ.out size65 HL.out (by rw [nums_length]; rfl) ?_; intro w9 hV hg9; have HV := Aside0.mk hV; have HG9 := Aside0.mk hg9; clear hV hg9))
    go_step3
    rename_i K hK
    have HBU := Aside0.mk ((Below.refl (w.heap.size + 2) (W1.alloc (.cells (nums .u32 (List.replicate 16 0)).toArray 65))).grown HG9.out (by simp [hsz]) (fun k hk => by cases hk; exact Nat.le_refl _))
    refine hK _ _ (KEY.out _ _ ⟨10, _, _, _, _, _, _, _, _, _, _, _, _, _, _, _, _, _, _, _, _, _, _, _, _, _, _, _, _, _, _, _, _, _, _, _, _, _, _, _, _, _, _, _, _, _, _, _, _, _, _, _, _, _, _, _, _, _, by omega, by omega, rfl, ⟨?_⟩, ⟨?_⟩, ⟨?_⟩, ?_⟩)
    · exact blk_under HXZ.out HBU.out (by omega)
    · exact blk_under HYZ.out HBU.out (by omega)
    · exact HV.out
    · exact HBZ.out.grown HG9.out HBZ.out.size (fun k hk => by cases hk; omega)
  case pass =>
    rintro a' wj ⟨m, u5, u6, u7, u8, u9, u10, u11, u12, u13, u14, u15, u16, u17, u18, u19, u20, u21, u22, u23, u24, u25, u26, u27, u28, u29, u30, u31, u32, u33, u34, u35, u36, u37, u38, u39, u40, u41, u42, u43, u44, u45, u46, u47, u48, u49, u50, u51, u52, u53, u54, u55, u56, u57, u58, u59, u60, u61, hm1, hm2, rfl, hX, hY, hV, hB⟩
    obtain ⟨r, HR⟩ : ∃ r, Aside0 (rnds (10 - m) l = r) := ⟨_, ⟨rfl⟩⟩
    have hrl : r.length = 16 := by rw [← HR.out, rnds_length]; exact HL.out
    have hrw : IsW r := by rw [← HR.out]; exact rnds_isW HW.out _
    rw [HR.out] at hV
    have HRL := Aside0.mk hrl
    have HRW := Aside0.mk hrw
    clear hrl hrw
    go_wp2_with fail
    go_loopw [11] (fun i wr => ∃ t : Nat, t ≤ 4 ∧ i = .int .i64 t ∧ Aside0 (Blk wr w.heap.size 65 (nums .u32 l)) ∧ Aside0 (Blk wr (w.heap.size + 1) 25 (nums .u8 (List.replicate 64 0))) ∧ Aside0 (Blk wr (w.heap.size + 2) 65 (nums .u32 (q4 r t))) ∧ Below w.heap.size w wr) (fun i _ => 4 - (intOf i).toNat)
    case atStart => exact ⟨0, by omega, rfl, hX, hY, hV, hB⟩
    case round =>
      clear hX hY hV hB
      obtain ⟨t, ht, rfl, hX, hY, hV, hB⟩ := hrel
      by_cases hlt : t < 4
      · have hlt' : (t : Int) < 4 := by omega
        go_wp2_with fail
        refine (quarter_c hV.out (by rw [q4_length]; exact HRL.out) (q4_isW HRW.out t) t (4 + t) (8 + t) (12 + t) (by omega) (by omega) (by omega) (by omega) (by omega) (by omega) (by omega) (by omega)).mono ?_
        rintro x w2 ⟨rfl, hV2, hb2⟩
        have HV2 : Aside0 (Blk w2 (w.heap.size + 2) 65 (nums .u32 (q4 r (t + 1)))) := ⟨hV2⟩
        have HX2 := Aside0.mk (blk_under hX.out hb2 (by omega))
        have HY2 := Aside0.mk (blk_under hY.out hb2 (by omega))
        have hB2 : Below w.heap.size w w2 := hB.trans (hb2.mono (by omega))
        clear hV2
        go_wp2_with fail
        go_roundw
        case rel => exact ⟨t + 1, by omega, by go_num, HX2, HY2, HV2, hB2⟩
        case measure => simp [intOf]; omega
      · have hge : ¬ (t : Int) < 4 := by omega
        obtain rfl : t = 4 := by omega
        have hlq : Aside0 ((q4 r 4).length = 16) := ⟨by rw [q4_length]; exact HRL.out⟩
        have hwq : Aside0 (IsW (q4 r 4)) := ⟨q4_isW HRW.out 4⟩
        have hrn : Aside0 (rnd r = d4 (q4 r 4) 4) := ⟨rfl⟩
        obtain ⟨s, HS⟩ : ∃ s, Aside0 (q4 r 4 = s) := ⟨_, ⟨rfl⟩⟩
        rw [HS.out] at hlq hwq hrn hV
        go_wp2_with fail
        go_loopw [23] (fun i wr => ∃ t : Nat, t ≤ 4 ∧ i = .int .i64 t ∧ Aside0 (Blk wr w.heap.size 65 (nums .u32 l)) ∧ Aside0 (Blk wr (w.heap.size + 1) 25 (nums .u8 (List.replicate 64 0))) ∧ Aside0 (Blk wr (w.heap.size + 2) 65 (nums .u32 (d4 s t))) ∧ Below w.heap.size w wr) (fun i _ => 4 - (intOf i).toNat)
        case atStart => exact ⟨0, by omega, rfl, hX, hY, hV, hB⟩
        case round =>
          clear hX hY hV hB
          obtain ⟨t, ht, rfl, hX, hY, hV, hB⟩ := hrel
          by_cases hlt : t < 4
          · have hlt' : (t : Int) < 4 := by omega
            go_wp2_with fail
            refine (quarter_c hV.out (by rw [d4_length]; exact hlq.out) (d4_isW hwq.out t) t (4 + (t + 1) % 4) (8 + (t + 2) % 4) (12 + (t + 3) % 4) (by omega) (by omega) (by omega) (by omega) (by omega) (by omega) (by omega) (by omega)).mono ?_
            rintro x w2 ⟨rfl, hV2, hb2⟩
            have HV2 : Aside0 (Blk w2 (w.heap.size + 2) 65 (nums .u32 (d4 s (t + 1)))) := ⟨hV2⟩
            have HX2 := Aside0.mk (blk_under hX.out hb2 (by omega))
            have HY2 := Aside0.mk (blk_under hY.out hb2 (by omega))
            have hB2 : Below w.heap.size w w2 := hB.trans (hb2.mono (by omega))
            clear hV2
            go_wp2_with fail
            go_roundw
            case rel => exact ⟨t + 1, by omega, by go_num, HX2, HY2, HV2, hB2⟩
            case measure => simp [intOf]; omega
          · have hge : ¬ (t : Int) < 4 := by omega
            obtain rfl : t = 4 := by omega
            rw [← hrn.out] at hV
            by_cases h1 : 1 < m
            · have hc : (0 : Int) < (m : Int) - 1 := by omega
              have hVn : Blk wr (w.heap.size + 2) 65 (nums .u32 (rnds (10 - (m - 1)) l)) := by
                have h1 := hV.out
                rw [← HR.out] at h1
                rw [show 10 - (m - 1) = (10 - m) + 1 by omega]; exact h1
              have HVN := Aside0.mk hVn
              clear hVn
              have em : (m : Int) - 1 = ((m - 1 : Nat) : Int) := by omega
              go_wp2_with fail
              go_step3
              refine ⟨rfl, ⟨m - 1, _, _, _, _, _, _, _, _, _, _, _, _, _, _, _, _, _, _, _, _, _, _, _, _, _, _, _, _, _, _, _, _, _, _, _, _, _, _, _, _, _, _, _, _, _, _, _, _, _, _, _, _, _, _, _, _, _, by omega, by omega, rfl, hX, hY, HVN, hB⟩, ?_⟩
              simp [intOf]; omega
            · obtain rfl : m = 1 := by omega
              have hRR : rnds 10 l = rnd r := by rw [← HR.out]; rfl
              have hR16 : (rnd r).length = 16 := by rw [rnd_length]; exact HRL.out
              have hRW := rnd_isW HRW.out
              obtain ⟨R, HRE⟩ : ∃ R, Aside0 (rnd r = R) := ⟨_, ⟨rfl⟩⟩
              rw [HRE.out] at hV hRR hR16 hRW
              have HRR := Aside0.mk hRR
              have HR16 := Aside0.mk hR16
              have HRWW := Aside0.mk hRW
              clear hRR hR16 hRW
              have hVA : Aside0 (Blk (wr.alloc (.cells (nums .u8 (List.replicate 64 0)).toArray 25)) (w.heap.size + 2) 65 (nums .u32 R)) := ⟨Blk.alloc hV.out _⟩
              have hXA : Aside0 (Blk (wr.alloc (.cells (nums .u8 (List.replicate 64 0)).toArray 25)) w.heap.size 65 (nums .u32 l)) := ⟨Blk.alloc hX.out _⟩
              have hYA : Aside0 (Blk (wr.alloc (.cells (nums .u8 (List.replicate 64 0)).toArray 25)) (w.heap.size + 1) 25 (nums .u8 (List.replicate 64 0))) := ⟨Blk.alloc hY.out _⟩
              have hGA : Aside0 (Blk (wr.alloc (.cells (nums .u8 (List.replicate 64 0)).toArray 25)) wr.heap.size 25 (nums .u8 (outT R l 0))) := ⟨heap_alloc_new _ _⟩
              have hBA : Below w.heap.size w (wr.alloc (.cells (nums .u8 (List.replicate 64 0)).toArray 25)) := hB.alloc hB.size _
              have hYlt : w.heap.size + 2 < wr.heap.size := Blk.lt hV.out
              go_wp2_with (first
                | (refine load_arr rfl 65 (.tmp 3) rfl (w.heap.size + 2) rfl 65 .u32 R 16 23 hVA.out Try.underlying65 size65 HR16.out ?_))
              generalize hWA : wr.alloc _ = WA
              rw [show wr.alloc (.cells (nums .u8 (List.replicate 64 0)).toArray 25) = WA from hWA] at hVA hXA hYA hGA hBA
              clear hWA hV hX hY hB
              generalize wr.heap.size = G at *
              go_loopw [46] (fun i wr => ∃ T : Nat, T ≤ 16 ∧ i = .int .i64 T ∧ Aside0 (Blk wr w.heap.size 65 (nums .u32 l)) ∧ Aside0 (Blk wr (w.heap.size + 1) 25 (nums .u8 (List.replicate 64 0))) ∧ Aside0 (Blk wr G 25 (nums .u8 (outT R l T))) ∧ Below w.heap.size w wr) (fun i _ => 16 - (intOf i).toNat)
              case atStart => exact ⟨0, by omega, rfl, hXA, hYA, hGA, hBA⟩
              case round =>
                clear hXA hYA hGA hBA
                obtain ⟨T, hT, rfl, hX, hY, hG, hB⟩ := hrel
                by_cases hlt : T < 16
                · have hlt' : (T : Int) < 16 := by omega
                  have hx1 := getD_isW HRWW.out T
                  have hx2 := getD_isW HW.out T
                  have hnext := outT_next R l T hlt
                  have c2 : wr.cell? ⟨w.heap.size, T, none⟩ = some (.int .u32 (l.getD T 0)) := blk_num hX.out T (by rw [HL.out]; exact hlt)
                  have hixx : ∀ W : World, (Instr.index 65 (.agg (nums .u32 R).toArray) (.int .i64 (T : Int))).run Try.prog W = .ok (.int .u32 (R.getD T 0)) W := fun W => index_nums R HR16.out T hlt W
                  obtain ⟨x1, HX1⟩ : ∃ x1, Aside0 (R.getD T 0 = x1) := ⟨_, ⟨rfl⟩⟩
                  obtain ⟨x2, HX2⟩ : ∃ x2, Aside0 (l.getD T 0 = x2) := ⟨_, ⟨rfl⟩⟩
                  rw [HX1.out] at hx1 hnext
                  rw [HX2.out] at hx2 hnext c2
                  have hix : ∀ W : World, (Instr.index 65 (.agg (nums .u32 R).toArray) (.int .i64 (T : Int))).run Try.prog W = .ok (.int .u32 x1) W := fun W => by rw [← HX1.out]; exact hixx W
                  clear hixx
                  have hsl := slice_arr G T hlt
                  have hw4 : IntKind.i64.wrap (4 * (T : Int)) = 4 * (T : Int) := IntWalk.i64_in _ (by omega)
                  rw [← IntKind.wrap_u32'] at hnext
                  have HNEXT := Aside0.mk hnext
                  have hlen : Aside0 ((nums .u8 (outT R l T)).length = 64) := ⟨by rw [nums_length]; exact outT_length _ _ _ (by omega)⟩
                  have hsum : 0 ≤ IntKind.u32.wrap (x1 + x2) ∧ IntKind.u32.wrap (x1 + x2) < 4294967296 := by rw [IntKind.wrap_u32']; omega
                  clear hnext
                  go_wp2_with fail
                  go_region_held3 (fun w' => w'.cell? ⟨w.heap.size, T, none⟩ = some (.int .u32 x2))
                    (first | exact c2 | exact (hb3.cell (p := ⟨w.heap.size, T, none⟩) (Blk.lt hX.out)).trans c2 | exact (Blk.cell (blk_under (blk_under (w := wr.drew) hX.out hb3 (Blk.lt hX.out)) (HBG.out) (by omega)) T).trans ((Blk.cell hX.out T).symm.trans c2) | go_keep)
                    (first
                     | (go_at_call 57; (with_reducible refine (Store_c hsum.1 hsum.2 true).mono ?_); rintro x w3 ⟨v3, rfl, ho3, hb3⟩; obtain ⟨A3, c3, rfl, hx3⟩ := rd_of_own ho3)
                     | (have hx4 := hx3; have e1 : (storeW (IntKind.u32.wrap (x1 + x2)) true).length ≤ 64 - 4 * T := (by rw [storeW_length]; omega); have e2 : 4 * T + (storeW (IntKind.u32.wrap (x1 + x2)) true).length ≤ (nums .u8 (outT R l T)).length := (by rw [hlen.out, storeW_length]; omega); have e3 : Blk w3 G 25 (nums .u8 (outT R l T)) := Blk.below (w := wr.drew) hG.out hb3; refine step_copy_blk rfl (.tmp 52) (.tmp 58) 22 22 rfl 5 Try.underlying22 sizeU8 G (4 * T) (64 - 4 * T) (64 - 4 * T) A3 (storeW (IntKind.u32.wrap (x1 + x2)) true).length c3 rfl rfl (nums .u8 (outT R l T)) 25 e3 (storeW (IntKind.u32.wrap (x1 + x2)) true) hx4 e1 e2 ?_; clear e1 e2 e3 hx4; intro w4 hG4 hg4; have HBG := Aside0.mk ((Below.refl G w3).grown hg4 (Nat.le_of_lt (Nat.lt_of_lt_of_le (Blk.lt (w := wr.drew) hG.out) hb3.size)) (fun k hk => by cases hk; exact Nat.le_refl _))))
                  have hB3 : Below w.heap.size w w3 := hB.drew.trans (hb3.mono hB.drew.size)
                  have hB4 : Below w.heap.size w w4 := hB3.grown hg4 hB3.size (fun k hk => by cases hk; omega)
                  rw [storeW_length, HNEXT.out] at hG4
                  have HG4 := Aside0.mk hG4
                  have HX4 := Aside0.mk (blk_under (blk_under (w := wr.drew) hX.out hb3 (Blk.lt hX.out)) HBG.out (by omega))
                  have HY4 := Aside0.mk (blk_under (blk_under (w := wr.drew) hY.out hb3 (Blk.lt hY.out)) HBG.out (by omega))
                  clear hG4 hx3 ho3 c2
                  go_wp2_with fail
                  go_roundw
                  case rel => exact ⟨T + 1, by omega, by go_num, HX4, HY4, HG4, hB4⟩
                  case measure => simp [intOf]; omega
                · have hge : ¬ (T : Int) < 16 := by omega
                  obtain rfl : T = 16 := by omega
                  have hGT : Blk wr G 25 (nums .u8 (blkS l)) := by
                    have h1 := hG.out
                    have h2 : outT R l 16 = blkS l := by unfold outT blkS; rw [HRR.out]; simp
                    rwa [h2] at h1
                  have hbl := blkS_length l
                  obtain ⟨S, HS2⟩ : ∃ S, Aside0 (blkS l = S) := ⟨_, ⟨rfl⟩⟩
                  rw [HS2.out] at hGT hbl
                  have HGT := Aside0.mk hGT
                  have HBL := Aside0.mk hbl
                  clear hGT hbl
                  go_wp2_with (first
                    | (refine load_arr rfl 25 (.tmp 7) rfl G rfl 25 .u8 S 64 5 HGT.out Try.underlying25 size25 HBL.out ?_)
                    | (refine store_arr rfl 25 (.tmp 2) (.tmp 61) rfl (w.heap.size + 1) .u8 S rfl rfl 25 64 _ hY.out size25 HBL.out (by rw [nums_length]; rfl) ?_; intro w12 hO12 hg12; have HO12 := Aside0.mk hO12; have HG12 := Aside0.mk hg12; clear hO12 hg12))
                  simp only [Exit.jump]
                  refine bodyPost_ret (v := .agg (nums .u8 S).toArray) ?_ rfl ⟨by rw [HS2.out], hB.grown HG12.out hB.size (fun k hk => by cases hk; omega)⟩
                  exact results_arr (p := 2) (ty := 25) rfl _ w12 (w.heap.size + 1) 25 64 5 .u8 S rfl HO12.out Try.underlying25 size25 HBL.out
end Go.Proofs.Ytkjmjgiklelpiaa.CiK
/- the reference's block, walked. -/
namespace Go.Proofs.Ytkjmjgiklelpiaa.CiL
open Go.RowKit Go.Proofs.YtkjmjgiklelpiaaW.PrintWords Go.Proofs.Ytkjmjgiklelpiaa.Num Go.Proofs.Ytkjmjgiklelpiaa.WordC Go.Proofs.Ytkjmjgiklelpiaa.Arr Go.Proofs.Ytkjmjgiklelpiaa.App Go.Proofs.Ytkjmjgiklelpiaa.CiC Go.Proofs.Ytkjmjgiklelpiaa.CiB Go.Proofs.Ytkjmjgiklelpiaa.CiD
set_option linter.unusedVariables false
set_option linter.unusedSimpArgs false

theorem gS_length (k o : List Int) (n : Int) (hk : k.length = 32) (ho : o.length = 12) : (gS k o n).length = 16 := by
  unfold gS
  rw [List.length_append, List.length_append, List.length_append, ws_length 8 k hk, ws_length 3 o ho]; rfl
theorem gS_isW {k o : List Int} {n : Int} (hk : k.length = 32) (ho : o.length = 12) (bk : IsB k) (bo : IsB o) (h0 : 0 ≤ n) (h1 : n < 4294967296) : IsW (gS k o n) := by
  intro x hx
  unfold gS at hx
  rcases List.mem_append.1 hx with hx | hx
  · rcases List.mem_append.1 hx with hx | hx
    · rcases List.mem_append.1 hx with hx | hx
      · simp [c4] at hx; omega
      · exact ws_isW 8 k hk bk x hx
    · simp at hx; omega
  · exact ws_isW 3 o ho bo x hx
/-- The block of a key, a nonce and a counter. -/
def chaS (k o : List Int) (n : Int) : List Int := blkS (gS k o n)
theorem infoW : (Try.prog.info? 23).map (fun i => (i.zero, i.size, i.bytes)) = some (some (.int .u32 0), 1, 4) := by kernel_rfl
theorem append_owW {ops : Array Oper} {rest : List Oper} {o : Oper} {a : Act} {Q : Exit → Act → World → Prop} {w0 W : World} (base : Nat) (hgd : o.guard = none) (s x : Operand)
    (ho : o.op = .call { callee := .builtin .append, args := #[s, x], argTypes := #[69, 69] })
    (v : Value) (xs ys : List Int) (A : Option Addr) (m c : Nat) (hs : a.eval s = v) (hx : a.eval x = .slice A m c)
    (HO : OwW W base v xs) (HR : Kd.C (Kd.int .u32) W A m ys) (HB : Below base w0 W) (hbase : base ≤ W.heap.size) (hl : (xs.length + m) * 4 ≤ 140737488355328)
    (h : ∀ v1 w1, OwW w1 base v1 (xs ++ ys) → Below base w0 w1 → wpList Try.prog ops Q rest (a.put o.dst v1) w1) :
    wpList Try.prog ops Q (o :: rest) a W :=
  Kd.R_append_rows (Kd.int .u32) (w0 := w0) base hgd s x 69 23 (.int .u32 0) 4 ho Try.underlying69 infoW rfl (by decide) (by omega) v xs ys A m c (fun _ => True) (fun _ => False) hs hx HO HR (fun _ _ h => h) (fun _ h => h.elim) (fun _ _ => trivial) HB hbase hl (fun v1 w1 h1 h2 _ _ => h v1 w1 h1 h2)
theorem owW_lit (W : World) (base : Nat) (xs : List Int) (hb : base ≤ W.heap.size) (hm : xs.length ≤ 100) : OwW (W.alloc (.cells (nums .u32 xs).toArray 23)) base (.slice (some ⟨W.heap.size, 0, none⟩) xs.length xs.length) xs :=
  Kd.R_of_own (own_lit W base 23 .u32 xs hb (by omega)) (fun _ _ => trivial)
theorem owW_rd {w : World} {base : Nat} {v : Value} {l : List Int} (h : OwW w base v l) : ∃ A c, v = .slice A l.length c ∧ l.length ≤ c ∧ Kd.C (Kd.int .u32) w A l.length l := by
  obtain ⟨A, c, rfl⟩ := Kd.R_slice h
  have := Kd.R_reads' h
  exact ⟨A, c, rfl, this.2.1, this.2.2⟩
theorem step_append_ow {ops : Array Oper} {o : Oper} {a : Act} {Kc : Act → World → Prop} {Q : Exit → Act → World → Prop} {w0 W : World} (base : Nat) (hw : Region.wanted o (yielded ops a.tmps) = true) (s x : Operand)
    (ho : o.op = .call { callee := .builtin .append, args := #[s, x], argTypes := #[22, 22] })
    (v : Value) (xs ys : List Int) (A : Option Addr) (m c : Nat) (hs : a.eval s = v) (hx : a.eval x = .slice A m c)
    (HO : Ow W base v xs) (HR : Rd W A m c ys) (HB : Below base w0 W) (hbase : base ≤ W.heap.size) (hl : xs.length + m ≤ 140737488355328)
    (h : ∀ v1 w1, Ow w1 base v1 (xs ++ ys) → Below base w0 w1 → W.grownBy w1 v.ownBlock → (v1.ownBlock = v.ownBlock ∨ ∃ b, v1.ownBlock = some b ∧ W.heap.size ≤ b) → Kc (a.put o.dst v1) w1) :
    if Region.wanted o (yielded ops a.tmps) = true then Oper.wp Try.prog o a W Kc Q else Kc (a.put o.dst undef) W :=
  Kd.R_append_rows_step (Kd.int .u8) (w0 := w0) base hw s x 22 5 (.int .u8 0) 1 ho Try.underlying22 infoB rfl (by decide) (by omega) v xs ys A m c (fun _ => True) (fun _ => False) hs hx HO HR.cells (fun _ _ h => h) (fun _ h => h.elim) (fun _ _ => trivial) HB hbase (by omega) h
theorem one_C (w : World) (n : Int) : Kd.C (Kd.int .u32) (w.alloc (.cells (nums .u32 [n]).toArray 23)) (some ⟨w.heap.size, 0, none⟩) 1 [n] := by
  have h := Kd.R_reads' (owW_lit w 0 [n] (Nat.zero_le _) (by simp))
  exact h.2.2
theorem refQuarter_o {v : Value} {l : List Int} {base : Nat} {w : World} (ho : OwW w base v l) (hl : l.length = 16) (h : IsW l) (a b c d : Nat) (ha : a < 16) (hb : b < 16) (hc : c < 16) (hd : d < 16) {x y z u : Int} (hx : x = a) (hy : y = b) (hz : z = c) (hu : u = d) (hbase : base ≤ w.heap.size) :
    Calls Try.prog 44 #[v, .int .i64 x, .int .i64 y, .int .i64 z, .int .i64 u] w fun e w' => ∃ v', e = .returned v' ∧ OwW w' base v' (qr l a b c d) ∧ Below w.heap.size w w' := by
  obtain ⟨A, co, rfl, hco, hC⟩ := owW_rd ho
  refine (refQuarter_c (base := base) (v := .slice A l.length co) hC rfl hco hl h a b c d ha hb hc hd hx hy hz hu).mono ?_
  rintro e w' ⟨v', rfl, h1, h2⟩
  exact ⟨v', rfl, Kd.R_lower h1 hbase, h2⟩
set_option maxHeartbeats 8000000 in
set_option maxRecDepth 100000 in
theorem refBlock_c {A B : Option Addr} {c d : Nat} {k o : List Int} {n : Int} {w : World} (hk : Rd w A 32 c k) (ho : Rd w B 12 d o) (bk : IsB k) (bo : IsB o) (h0 : 0 ≤ n) (h1 : n < 4294967296) :
    Calls Try.prog 20 #[.slice A 32 c, .slice B 12 d, .int .u32 n] w fun e w' => ∃ v, e = .returned v ∧ Ow w' w.heap.size v (chaS k o n) ∧ Below w.heap.size w w' := by
  go_enter Try.func20, Try.ntmps20
  go_wp2_with fail
  have hO0 := owW_lit w w.heap.size c4 (Nat.le_refl _) (by decide)
  have hB0 : Below w.heap.size w (w.alloc (.cells (nums .u32 c4).toArray 23)) := (Below.refl _ w).alloc (Nat.le_refl _) _
  have HO0 := Aside0.mk hO0
  have HOn := Aside0.mk (ho.alloc (.cells (nums .u32 c4).toArray 23))
  refine (refWords_c (hk.alloc (.cells (nums .u32 c4).toArray 23)) bk 8 rfl (by omega)).mono ?_
  rintro x w1 ⟨v1, rfl, ho1, hb1⟩
  have hO1 := Kd.R_below HO0.out hb1
  have hB1 := hB0.trans (hb1.mono hB0.size)
  have HN1 := Aside0.mk (HOn.out.below hb1)
  obtain ⟨A1, c1, rfl, hc1, hC1⟩ := owW_rd ho1
  have hk32 : k.length = 32 := hk.len
  have ho12 : o.length = 12 := ho.len
  have l8 := ws_length 8 k hk32
  have l3 := ws_length 3 o ho12
  have HO1 := Aside0.mk hO1
  have HC1 := Aside0.mk hC1
  have HB1 := Aside0.mk hB1
  have HK32 := Aside0.mk hk32
  have HO12 := Aside0.mk ho12
  have HL8 := Aside0.mk l8
  have HL3 := Aside0.mk l3
  have HNW := Aside0.mk ho
  clear hO0 hB0 HO0 HOn hO1 ho1 hC1 hb1 hk ho hk32 ho12 l8 l3
  go_wp2_with (first
    | (refine append_owW (w0 := w) w.heap.size rfl (.tmp 12) (.tmp 14) rfl _ c4 (ws k) A1 _ c1 rfl rfl HO1.out HC1.out HB1.out HB1.out.size (by rw [HL8.out]; decide) ?_; intro v2 w2 ho2 hb2; have HO2 := Aside0.mk ho2; have HB2 := Aside0.mk hb2; clear ho2 hb2)
    | (have HO3 := Aside0.mk (Kd.R_alloc HO2.out (.cells (nums .u32 [n]).toArray 23)); have HB3 := Aside0.mk (HB2.out.alloc HB2.out.size (.cells (nums .u32 [n]).toArray 23)); refine append_owW (w0 := w) w.heap.size rfl (.tmp 16) (.tmp 18) rfl _ (c4 ++ ws k) [n] (some ⟨w2.heap.size, 0, none⟩) 1 1 rfl rfl HO3.out (one_C w2 n) HB3.out HB3.out.size (by rw [List.length_append, HL8.out]; decide) ?_; intro v4 w4 ho4 hb4; have HO4 := Aside0.mk ho4; have HB4 := Aside0.mk hb4; clear ho4 hb4))
  have HN4 : Aside0 (Rd w4 B 12 d o) := ⟨HNW.out.below HB4.out⟩
  refine (refWords_c HN4.out bo 3 rfl (by omega)).mono ?_
  rintro x w5 ⟨v5, rfl, ho5, hb5⟩
  have hO5 := Kd.R_below HO4.out hb5
  have hB5 := HB4.out.trans (hb5.mono HB4.out.size)
  obtain ⟨A5, c5, rfl, hc5, hC5⟩ := owW_rd ho5
  have HO5 := Aside0.mk hO5
  have HC5 := Aside0.mk hC5
  have HB5 := Aside0.mk hB5
  clear hO5 hC5 hB5 ho5 hb5
  go_wp2_with (first
    | (refine append_owW (w0 := w) w.heap.size rfl (.tmp 19) (.tmp 21) rfl _ (c4 ++ ws k ++ [n]) (ws o) A5 _ c5 rfl rfl HO5.out HC5.out HB5.out HB5.out.size (by rw [List.length_append, List.length_append, HL8.out, HL3.out]; exact (by decide : (4 + 8 + 1 + 3) * 4 ≤ 140737488355328)) ?_; intro v6 w6 ho6 hb6; have HO6 := Aside0.mk ho6; have HB6 := Aside0.mk hb6; clear ho6 hb6))
  have hO6 : OwW w6 w.heap.size v6 (gS k o n) := HO6.out
  obtain ⟨g, HG⟩ : ∃ g, Aside0 (gS k o n = g) := ⟨_, ⟨rfl⟩⟩
  have hgl := gS_length k o n HK32.out HO12.out
  have hgw := gS_isW HK32.out HO12.out bk bo h0 h1
  rw [HG.out] at hO6 hgl hgw
  have HGL := Aside0.mk hgl
  have HGW := Aside0.mk hgw
  have HO6' := Aside0.mk hO6
  clear hgl hgw hO6
  go_loopw [9, 8] (fun i v wr => ∃ t : Nat, t ≤ 10 ∧ i = .int .i64 t ∧ Aside0 (OwW wr w.heap.size v (rnds t g)) ∧ Aside0 (OwW wr w.heap.size v6 g) ∧ Below w.heap.size w wr) (fun i _ _ => 10 - (intOf i).toNat)
  case atStart => exact ⟨0, by omega, rfl, HO6', HO6', HB6.out⟩
  case round =>
    obtain ⟨t, ht, rfl, hV, hF, hB⟩ := hrel
    by_cases hlt : t < 10
    · have hlt' : (t : Int) < 10 := by omega
      have hl0 : Aside0 ((rnds t g).length = 16) := ⟨by rw [rnds_length]; exact HGL.out⟩
      have hw0 : Aside0 (IsW (rnds t g)) := ⟨rnds_isW HGW.out t⟩
      have hnx : Aside0 (rnd (rnds t g) = rnds (t + 1) g) := ⟨rfl⟩
      obtain ⟨r0, HR0⟩ : ∃ r, Aside0 (rnds t g = r) := ⟨_, ⟨rfl⟩⟩
      rw [HR0.out] at hl0 hw0 hnx hV
      go_wp2_with fail
      refine (refQuarter_o hV.out hl0.out hw0.out 0 4 8 12 (by omega) (by omega) (by omega) (by omega) rfl rfl rfl rfl hB.size).mono ?_
      rintro x w21 ⟨v21, rfl, hv1, hb1⟩
      have hV1 := Aside0.mk hv1
      have hF1 := Aside0.mk (Kd.R_below hF.out hb1)
      have hB1 := hB.trans (hb1.mono hB.size)
      have hl1 : Aside0 ((qr r0 0 4 8 12).length = 16) := ⟨by rw [qr_length]; exact hl0.out⟩
      have hw1 : Aside0 (IsW (qr r0 0 4 8 12)) := ⟨qr_isW hw0.out _ _ _ _⟩
      obtain ⟨r1, HR1⟩ : ∃ r, Aside0 (qr r0 0 4 8 12 = r) := ⟨_, ⟨rfl⟩⟩
      rw [HR1.out] at hl1 hw1 hV1
      clear hv1 hb1
      go_wp2_with fail
      refine (refQuarter_o hV1.out hl1.out hw1.out 1 5 9 13 (by omega) (by omega) (by omega) (by omega) rfl rfl rfl rfl hB1.size).mono ?_
      rintro x w22 ⟨v22, rfl, hv2, hb2⟩
      have hV2 := Aside0.mk hv2
      have hF2 := Aside0.mk (Kd.R_below hF1.out hb2)
      have hB2 := hB1.trans (hb2.mono hB1.size)
      have hl2 : Aside0 ((qr r1 1 5 9 13).length = 16) := ⟨by rw [qr_length]; exact hl1.out⟩
      have hw2 : Aside0 (IsW (qr r1 1 5 9 13)) := ⟨qr_isW hw1.out _ _ _ _⟩
      obtain ⟨r2, HR2⟩ : ∃ r, Aside0 (qr r1 1 5 9 13 = r) := ⟨_, ⟨rfl⟩⟩
      rw [HR2.out] at hl2 hw2 hV2
      clear hv2 hb2
      go_wp2_with fail
      refine (refQuarter_o hV2.out hl2.out hw2.out 2 6 10 14 (by omega) (by omega) (by omega) (by omega) rfl rfl rfl rfl hB2.size).mono ?_
      rintro x w23 ⟨v23, rfl, hv3, hb3⟩
      have hV3 := Aside0.mk hv3
      have hF3 := Aside0.mk (Kd.R_below hF2.out hb3)
      have hB3 := hB2.trans (hb3.mono hB2.size)
      have hl3 : Aside0 ((qr r2 2 6 10 14).length = 16) := ⟨by rw [qr_length]; exact hl2.out⟩
      have hw3 : Aside0 (IsW (qr r2 2 6 10 14)) := ⟨qr_isW hw2.out _ _ _ _⟩
      obtain ⟨r3, HR3⟩ : ∃ r, Aside0 (qr r2 2 6 10 14 = r) := ⟨_, ⟨rfl⟩⟩
      rw [HR3.out] at hl3 hw3 hV3
      clear hv3 hb3
      go_wp2_with fail
      refine (refQuarter_o hV3.out hl3.out hw3.out 3 7 11 15 (by omega) (by omega) (by omega) (by omega) rfl rfl rfl rfl hB3.size).mono ?_
      rintro x w24 ⟨v24, rfl, hv4, hb4⟩
      have hV4 := Aside0.mk hv4
      have hF4 := Aside0.mk (Kd.R_below hF3.out hb4)
      have hB4 := hB3.trans (hb4.mono hB3.size)
      have hl4 : Aside0 ((qr r3 3 7 11 15).length = 16) := ⟨by rw [qr_length]; exact hl3.out⟩
      have hw4 : Aside0 (IsW (qr r3 3 7 11 15)) := ⟨qr_isW hw3.out _ _ _ _⟩
      obtain ⟨r4, HR4⟩ : ∃ r, Aside0 (qr r3 3 7 11 15 = r) := ⟨_, ⟨rfl⟩⟩
      rw [HR4.out] at hl4 hw4 hV4
      clear hv4 hb4
      go_wp2_with fail
      refine (refQuarter_o hV4.out hl4.out hw4.out 0 5 10 15 (by omega) (by omega) (by omega) (by omega) rfl rfl rfl rfl hB4.size).mono ?_
      rintro x w25 ⟨v25, rfl, hv5, hb5⟩
      have hV5 := Aside0.mk hv5
      have hF5 := Aside0.mk (Kd.R_below hF4.out hb5)
      have hB5 := hB4.trans (hb5.mono hB4.size)
      have hl5 : Aside0 ((qr r4 0 5 10 15).length = 16) := ⟨by rw [qr_length]; exact hl4.out⟩
      have hw5 : Aside0 (IsW (qr r4 0 5 10 15)) := ⟨qr_isW hw4.out _ _ _ _⟩
      obtain ⟨r5, HR5⟩ : ∃ r, Aside0 (qr r4 0 5 10 15 = r) := ⟨_, ⟨rfl⟩⟩
      rw [HR5.out] at hl5 hw5 hV5
      clear hv5 hb5
      go_wp2_with fail
      refine (refQuarter_o hV5.out hl5.out hw5.out 1 6 11 12 (by omega) (by omega) (by omega) (by omega) rfl rfl rfl rfl hB5.size).mono ?_
      rintro x w26 ⟨v26, rfl, hv6, hb6⟩
      have hV6 := Aside0.mk hv6
      have hF6 := Aside0.mk (Kd.R_below hF5.out hb6)
      have hB6 := hB5.trans (hb6.mono hB5.size)
      have hl6 : Aside0 ((qr r5 1 6 11 12).length = 16) := ⟨by rw [qr_length]; exact hl5.out⟩
      have hw6 : Aside0 (IsW (qr r5 1 6 11 12)) := ⟨qr_isW hw5.out _ _ _ _⟩
      obtain ⟨r6, HR6⟩ : ∃ r, Aside0 (qr r5 1 6 11 12 = r) := ⟨_, ⟨rfl⟩⟩
      rw [HR6.out] at hl6 hw6 hV6
      clear hv6 hb6
      go_wp2_with fail
      refine (refQuarter_o hV6.out hl6.out hw6.out 2 7 8 13 (by omega) (by omega) (by omega) (by omega) rfl rfl rfl rfl hB6.size).mono ?_
      rintro x w27 ⟨v27, rfl, hv7, hb7⟩
      have hV7 := Aside0.mk hv7
      have hF7 := Aside0.mk (Kd.R_below hF6.out hb7)
      have hB7 := hB6.trans (hb7.mono hB6.size)
      have hl7 : Aside0 ((qr r6 2 7 8 13).length = 16) := ⟨by rw [qr_length]; exact hl6.out⟩
      have hw7 : Aside0 (IsW (qr r6 2 7 8 13)) := ⟨qr_isW hw6.out _ _ _ _⟩
      obtain ⟨r7, HR7⟩ : ∃ r, Aside0 (qr r6 2 7 8 13 = r) := ⟨_, ⟨rfl⟩⟩
      rw [HR7.out] at hl7 hw7 hV7
      clear hv7 hb7
      go_wp2_with fail
      refine (refQuarter_o hV7.out hl7.out hw7.out 3 4 9 14 (by omega) (by omega) (by omega) (by omega) rfl rfl rfl rfl hB7.size).mono ?_
      rintro x w28 ⟨v28, rfl, hv8, hb8⟩
      have hV8 := Aside0.mk hv8
      have hF8 := Aside0.mk (Kd.R_below hF7.out hb8)
      have hB8 := hB7.trans (hb8.mono hB7.size)
      have hl8 : Aside0 ((qr r7 3 4 9 14).length = 16) := ⟨by rw [qr_length]; exact hl7.out⟩
      have hw8 : Aside0 (IsW (qr r7 3 4 9 14)) := ⟨qr_isW hw7.out _ _ _ _⟩
      obtain ⟨r8, HR8⟩ : ∃ r, Aside0 (qr r7 3 4 9 14 = r) := ⟨_, ⟨rfl⟩⟩
      rw [HR8.out] at hl8 hw8 hV8
      clear hv8 hb8
      go_wp2_with fail
      go_roundw
      case rel => exact ⟨t + 1, by omega, by go_num, ⟨by rw [← hnx.out]; unfold rnd; rw [HR1.out, HR2.out, HR3.out, HR4.out, HR5.out, HR6.out, HR7.out, HR8.out]; exact hV8.out⟩, hF8, hB8⟩
      case measure => simp [intOf]; omega
    · have hge : ¬ (t : Int) < 10 := by omega
      obtain rfl : t = 10 := by omega
      have hgl : (rnds 10 g).length = 16 := by rw [rnds_length]; exact HGL.out
      obtain ⟨R, HR⟩ : ∃ R, Aside0 (rnds 10 g = R) := ⟨_, ⟨rfl⟩⟩
      rw [HR.out] at hV hgl
      have HRL := Aside0.mk hgl
      clear hgl
      obtain ⟨g8, c8, rfl, hb8, hl8, _⟩ := Kd.R_form hV.out (by rw [HRL.out]; omega)
      obtain ⟨g7, c7, rfl, hb7, hl7, _⟩ := Kd.R_form hF.out (by rw [HGL.out]; omega)
      rw [HRL.out] at hV ⊢
      rw [HGL.out] at hF ⊢
      go_wp2_with fail
      obtain ⟨wo, HWO⟩ : ∃ wo : World, Aside0 (wo = wr) := ⟨_, ⟨rfl⟩⟩
      rw [← HWO.out] at hV hF hB hl8 hl7 ⊢
      clear HWO
      have HB := Aside0.mk hB
      clear hB
      go_loopw [11, 10] (fun i v wq => ∃ (T : Nat) (vv : Value), T ≤ 16 ∧ i = .int .i64 T ∧ vv = v ∧ Aside0 (Ow wq wo.heap.size vv (outS R g T)) ∧ Below wo.heap.size wo wq) (fun i _ _ => 16 - (intOf i).toNat)
      case atStart => exact ⟨0, _, by omega, rfl, rfl, ⟨Kd.R_nil _ _ _ _ _⟩, Below.refl _ _⟩
      case round =>
        obtain ⟨T, vv, hT, rfl, rfl, hO, hQ⟩ := hrel
        by_cases hlt : T < 16
        · have hlt' : (T : Int) < 16 := by omega
          have n0 : (0 : Int) ≤ (T : Int) := by omega
          have d1 : wo.cell? ⟨g8, T, none⟩ = some (.int .u32 (R.getD T 0)) := (Kd.R_celln 0 hV.out (T : Int) n0 (by omega)).1
          have d2 : wo.cell? ⟨g7, T, none⟩ = some (.int .u32 (g.getD T 0)) := (Kd.R_celln 0 hF.out (T : Int) n0 (by omega)).1
          have hx1 : 0 ≤ IntKind.u32.wrap (R.getD T 0 + g.getD T 0) ∧ IntKind.u32.wrap (R.getD T 0 + g.getD T 0) < 4294967296 := by rw [IntKind.wrap_u32']; omega
          have hnx : Aside0 (outS R g T ++ storeW (IntKind.u32.wrap (R.getD T 0 + g.getD T 0)) true = outS R g (T + 1)) := ⟨by rw [IntKind.wrap_u32']; rfl⟩
          have hol := Aside0.mk (outS_length R g T)
          generalize R.getD T 0 = x1 at *
          generalize g.getD T 0 = x2 at *
          generalize outS R g T = OT at *
          have HX1 := Aside0.mk hx1
          have eX : ∀ w', Below wo.heap.size wo w' → w'.cell? ⟨g8, T, none⟩ = some (.int .u32 x1) := fun w' hb => (hb.cell (p := ⟨g8, T, none⟩) hl8).trans d1
          have eY : ∀ w', Below wo.heap.size wo w' → w'.cell? ⟨g7, T, none⟩ = some (.int .u32 x2) := fun w' hb => (hb.cell (p := ⟨g7, T, none⟩) hl7).trans d2
          have k1 := eX wr hQ
          have k2 := eY wr hQ
          have EX := Aside0.mk eX
          have EY := Aside0.mk eY
          clear eX eY d1 d2 hx1
          have hQd := hQ.drew
          go_wp2_with fail
          go_region_held3 (fun w' => w'.cell? ⟨g8, T, none⟩ = some (.int .u32 x1) ∧ w'.cell? ⟨g7, T, none⟩ = some (.int .u32 x2))
            (first | exact ⟨k1, k2⟩ | exact ⟨EX.out _ hQ3.out, EY.out _ hQ3.out⟩ | exact ⟨EX.out _ hb5, EY.out _ hb5⟩ | go_keep)
            (first
             | (go_at_call 45; (with_reducible refine (refStore_c HX1.out.1 HX1.out.2 true).mono ?_); rintro x w3 ⟨v3, rfl, ho3, hb3⟩; obtain ⟨A3, c3, rfl, hr3⟩ := rd_of_own ho3; have hQ3 := Aside0.mk (hQd.trans (hb3.mono hQd.size)); have hO3 := Aside0.mk (Kd.R_below (Kd.R_drew hO.out) hb3))
             | (refine step_append_ow (w0 := wo) wo.heap.size (by rfl) (.tmp 48) (.tmp 58) rfl vv OT (storeW (IntKind.u32.wrap (x1 + x2)) true) A3 (storeW (IntKind.u32.wrap (x1 + x2)) true).length c3 rfl rfl hO3.out hr3 hQ3.out hQ3.out.size (by rw [hol.out, storeW_length]; omega) ?_; intro v5 w5 ho5 hb5 hg5 ha5))
          have HO5 : Aside0 (Ow w5 wo.heap.size v5 (outS R g (T + 1))) := ⟨by rw [← hnx.out]; exact ho5⟩
          clear ho5 hg5 ha5 k1 k2
          go_wp2_with fail
          go_roundw
          case rel => exact ⟨T + 1, v5, by omega, by go_num, rfl, HO5, hb5⟩
          case measure => simp [intOf]; omega
        · have hge : ¬ (T : Int) < 16 := by omega
          obtain rfl : T = 16 := by omega
          have hE : Ow wr w.heap.size vv (chaS k o n) := by
            have h1 := Kd.R_lower hO.out HB.out.size
            have h2 : chaS k o n = outS R g 16 := by unfold chaS blkS; rw [HG.out, HR.out]
            rw [h2]; exact h1
          have HE := Aside0.mk hE
          clear hE
          go_wp2_with fail
          go_ret
          exact ⟨_, rfl, HE.out, below_next HB.out hQ⟩
end Go.Proofs.Ytkjmjgiklelpiaa.CiL
/- cipher.Block, walked. -/
namespace Go.Proofs.Ytkjmjgiklelpiaa.CiM
open Go.RowKit Go.Proofs.YtkjmjgiklelpiaaW.PrintWords Go.Proofs.Ytkjmjgiklelpiaa.Num Go.Proofs.Ytkjmjgiklelpiaa.WordC Go.Proofs.Ytkjmjgiklelpiaa.Arr Go.Proofs.Ytkjmjgiklelpiaa.App Go.Proofs.Ytkjmjgiklelpiaa.CiC Go.Proofs.Ytkjmjgiklelpiaa.CiB Go.Proofs.Ytkjmjgiklelpiaa.CiD Go.Proofs.Ytkjmjgiklelpiaa.CiL Go.Proofs.Ytkjmjgiklelpiaa.CiK
set_option linter.unusedVariables false
set_option linter.unusedSimpArgs false

theorem g0S_length (k o : List Int) (hk : k.length = 32) (ho : o.length = 12) : (g0S k o).length = 16 := by
  unfold g0S
  rw [List.length_append, List.length_append, List.length_append, ws_length 8 k hk, ws_length 3 o ho]; rfl
set_option maxHeartbeats 8000000 in
set_option maxRecDepth 100000 in
theorem Block_yes {A B : Option Addr} {c d : Nat} {k o : List Int} {n : Int} {w : World} (hk : Rd w A 32 c k) (ho : Rd w B 12 d o) (bk : IsB k) (bo : IsB o) (h0 : 0 ≤ n) (h1 : n < 4294967296) :
    Calls Try.prog 17 #[.slice A 32 c, .slice B 12 d, .int .u32 n] w fun e w' => e = .returned (.tuple #[.agg (nums .u8 (chaS k o n)).toArray, .int .i64 0]) ∧ Below w.heap.size w w' := by
  go_enter Try.func17, Try.ntmps17
  go_wp2_with fail
  generalize hW : w.alloc _ = W0
  have hY : Blk W0 w.heap.size 25 (nums .u8 (List.replicate 64 0)) := by rw [← hW]; exact heap_alloc_new _ _
  have hB : Below w.heap.size w W0 := by rw [← hW]; exact (Below.refl _ w).alloc (Nat.le_refl _) _
  clear hW
  refine (begun_yes (hk.below hB) (ho.below hB) bk bo).mono ?_
  rintro x w1 ⟨rfl, hb1⟩
  have hk32 : k.length = 32 := hk.len
  have ho12 : o.length = 12 := ho.len
  have h16 := g0S_length k o hk32 ho12
  have hset := g0_set k o n (ws_length 8 k hk32)
  have hgw := gS_isW hk32 ho12 bk bo h0 h1
  have hgl := gS_length k o n hk32 ho12
  obtain ⟨G0, HG0⟩ : ∃ G, Aside0 (g0S k o = G) := ⟨_, ⟨rfl⟩⟩
  rw [HG0.out] at h16 hset ⊢
  obtain ⟨G, HG⟩ : ∃ G, Aside0 (gS k o n = G) := ⟨_, ⟨rfl⟩⟩
  rw [HG.out] at hset hgw hgl
  have HY1 := Aside0.mk (hY.below hb1)
  have HB1 := Aside0.mk (hB.trans (hb1.mono hB.size))
  have hs0 : w.heap.size < w1.heap.size := Blk.lt HY1.out
  have H16 := Aside0.mk h16
  have HSET := Aside0.mk hset
  have HGW := Aside0.mk hgw
  have HGL := Aside0.mk hgl
  have HZ : Aside0 (Blk (w1.alloc (.cells (nums .u32 (List.replicate 16 0)).toArray 65)) w1.heap.size 65 (nums .u32 (List.replicate 16 0))) := ⟨heap_alloc_new _ _⟩
  have HYA := Aside0.mk (Blk.alloc HY1.out (.cells (nums .u32 (List.replicate 16 0)).toArray 65))
  have HBA := Aside0.mk (HB1.out.alloc HB1.out.size (.cells (nums .u32 (List.replicate 16 0)).toArray 65))
  clear h16 hset hgw hgl hY hB hb1 hk32 ho12 hk ho
  go_wp2_with (first
    | (refine store_arr rfl 65 (.tmp 8) (.tmp 14) rfl w1.heap.size .u32 G0 rfl rfl 65 16 (nums .u32 (List.replicate 16 0)) HZ.out size65 H16.out (by rw [nums_length]; rfl) ?_; intro w2 hV hg2; have HV := Aside0.mk hV; have HG2 := Aside0.mk hg2; clear hV hg2
       have HBU := Aside0.mk ((Below.refl w1.heap.size (w1.alloc (.cells (nums .u32 (List.replicate 16 0)).toArray 65))).grown HG2.out (by simp) (fun k hk => by cases hk; exact Nat.le_refl _))
       have f12 := blk_num HV.out 12 (by rw [H16.out]; decide)
       have f12' := Blk.frozen HV.out 12
       have HV2 : Aside0 (Blk (w2.setCell ⟨w1.heap.size, 12, none⟩ (.int .u32 n)) w1.heap.size 65 (nums .u32 G)) := ⟨by rw [← HSET.out]; exact blk_put HV.out 12 n⟩
       have HY2 : Aside0 (Blk (w2.setCell ⟨w1.heap.size, 12, none⟩ (.int .u32 n)) w.heap.size 25 (nums .u8 (List.replicate 64 0))) := ⟨Blk.far (blk_under HYA.out HBU.out hs0) (p := ⟨w1.heap.size, 12, none⟩) (by show w.heap.size ≠ w1.heap.size; omega) _⟩
       have HB2 : Aside0 (Below w.heap.size w (w2.setCell ⟨w1.heap.size, 12, none⟩ (.int .u32 n))) := ⟨(HBA.out.trans (HBU.out.mono (by omega))).setCell (p := ⟨w1.heap.size, 12, none⟩) (by show w.heap.size ≤ w1.heap.size; omega) _⟩)
    | (refine load_arr rfl 65 (.tmp 8) rfl w1.heap.size rfl 65 .u32 G 16 23 HV2.out Try.underlying65 size65 HGL.out ?_))
  refine (block_c HGL.out HGW.out).mono ?_
  rintro x w3 ⟨rfl, hb3⟩
  have HY3 := Aside0.mk (HY2.out.below hb3)
  have HB3 := Aside0.mk (HB2.out.trans (hb3.mono HB2.out.size))
  have hbl := blkS_length G
  have hcha : chaS k o n = blkS G := by unfold chaS; rw [HG.out]
  obtain ⟨S, HS⟩ : ∃ S, Aside0 (blkS G = S) := ⟨_, ⟨rfl⟩⟩
  rw [HS.out] at hbl hcha ⊢
  have HBL := Aside0.mk hbl
  have HCHA := Aside0.mk hcha
  clear hbl hcha f12 f12' hb3
  go_wp2_with (first
    | (refine store_arr rfl 25 (.tmp 6) (.tmp 22) rfl w.heap.size .u8 S rfl rfl 25 64 _ HY3.out size25 HBL.out (by rw [nums_length]; rfl) ?_; intro w12 hO12 hg12; have HO12 := Aside0.mk hO12; have HG12 := Aside0.mk hg12; clear hO12 hg12))
  refine bodyPost_ret (v := .tuple #[.agg (nums .u8 S).toArray, .int .i64 0]) ?_ rfl ⟨by rw [HCHA.out], HB3.out.grown HG12.out HB3.out.size (fun k hk => by cases hk; exact Nat.le_refl _)⟩
  exact results_two_row (p := 6) (u := 7) (ty := 25) rfl _ w12 w.heap.size 25 64 5 .u8 S rfl HO12.out Try.underlying25 size25 HBL.out
end Go.Proofs.Ytkjmjgiklelpiaa.CiM
/- A range over a function whose state lies in cells of its own: the law. -/
namespace Go.Proofs.Ytkjmjgiklelpiaa.Rz
open Go.RowKit Go.Proofs.YtkjmjgiklelpiaaW.PrintWords Go.Proofs.Ytkjmjgiklelpiaa.Num Go.Proofs.Ytkjmjgiklelpiaa.WordC Go.Proofs.Ytkjmjgiklelpiaa.Arr Go.Proofs.Ytkjmjgiklelpiaa.App
set_option linter.unusedVariables false
set_option linter.unusedSimpArgs false

/-- Blocks at or above N, and block b, lie as they lay. -/
structure KZ (N b : Nat) (W W' : World) : Prop where
  size : W.heap.size ≤ W'.heap.size
  same : ∀ k, k < W.heap.size → (N ≤ k ∨ k = b) → W'.heap[k]? = W.heap[k]?
theorem KZ.refl (N b : Nat) (W : World) : KZ N b W W := ⟨Nat.le_refl _, fun _ _ _ => rfl⟩
theorem KZ.trans {N b : Nat} {A B C : World} (h : KZ N b A B) (k : KZ N b B C) : KZ N b A C := ⟨Nat.le_trans h.size k.size, fun i hi hn => (k.same i (Nat.lt_of_lt_of_le hi h.size) hn).trans (h.same i hi hn)⟩
theorem KZ.setCell {N b : Nat} {A B : World} (h : KZ N b A B) {g : Nat} (hg : g < N) (hb : g ≠ b) (i : Nat) (u : Value) : KZ N b A (B.setCell ⟨g, i, none⟩ u) :=
  ⟨by simpa [World.setCell] using h.size, fun k hk hn => (Below.heap_setCell B _ u k (by rintro rfl; rcases hn with h | h <;> simp_all <;> omega)).trans (h.same k hk hn)⟩
theorem KZ.next {N b : Nat} {A B C : World} (h : KZ N b A B) (k : Below B.heap.size B C) : KZ N b A C :=
  ⟨Nat.le_trans h.size k.size, fun i hi hn => (k.block i (Nat.lt_of_lt_of_le hi h.size)).trans (h.same i hi hn)⟩
theorem KZ.drew {N b : Nat} {A B : World} (h : KZ N b A B) : KZ N b A B.drew := ⟨h.size, h.same⟩
theorem below_put {N l : Nat} {W : World} (o : Obj) (h : N ≤ l) : Below N W (W.putObj l o) := ⟨rfl, rfl, rfl, by simp, fun k hk => World.putObj_heap_other (by omega)⟩
/-- An iterator that gives N values, one behind another, to whatever loop; its own blocks may be written between two rounds. -/
def SeqZ (n : Nat) (P : Program) (g : Nat) (lb : Array Value) (encs : Nat → Array Value) (b N : Nat) (w : World) : Prop :=
  ∀ (l : Nat) (J Jx : Nat → World → Prop) (W : World), Below w.heap.size w W → (∀ s A B, J s A → Below W.heap.size A B → J s B) → (∀ s A B, Jx s A → Below W.heap.size A B → Jx s B) →
    (∀ j W1, J j W1 → j < N → YieldAt Fence.wide (n - 1) P l (encs j) W1 fun e W' =>
      (e = .returned (.bool true) ∧ J (j + 1) W' ∧ KZ W.heap.size b W1 W') ∨ (e = .returned (.bool false) ∧ Jx (j + 1) W')) →
    J 0 W →
    CallsIn Fence.wide n P g (#[.func (.yield l) #[] #[]] ++ lb) W fun e W' => (∃ v, e = .returned v) ∧ (J N W' ∨ ∃ j, j < N ∧ Jx (j + 1) W')
def postZ (N b : Nat) (I : Nat → World → Prop) (Ix : Code → Nat → World → Prop) (j : Nat) (W : World) : Exit → Act → World → Prop
  | .normal, _, W' => KZ N b W W' ∧ I j W'
  | .ret, _, W' => KZ N b W W' ∧ Ix .ret j W'
  | .exit id, _, W' => KZ N b W W' ∧ Ix (.exit id) j W'
  | .goto t, _, W' => KZ N b W W' ∧ Ix (.goto t) j W'
  | .panic _, _, _ => False
  | .outgrown, _, _ => False
theorem range_z {P : Program} {n : Nat} {g : Operand} {ps : Array Tmp} {assign body : Code} {Q : Exit → Act → World → Prop} {a : Act} {w : World}
    {gf : Nat} {lb : Array Value} (hg : a.eval g = .func (.func gf) #[] lb) (eg : ∀ args w, (callFunc gf args).run P w = .ok (.enter gf args) w)
    {encs : Nat → Array Value} {b N : Nat} (hb : b < w.heap.size) (hseq : SeqZ (n - 1) P gf lb encs b N w) (hps : ∀ x, (encs x).size = ps.size)
    (I : Nat → World → Prop) (Ix : Code → Nat → World → Prop) (hI : ∀ s A B, I s A → Below w.heap.size A B → I s B) (hIx : ∀ c s A B, Ix c s A → Below w.heap.size A B → Ix c s B) (h0 : I 0 w)
    (Ax : Nat → Act → World → Prop) (hAx : ∀ x a' W l r o, Ax x a' W → W.heap[l]? = some (.loop r) → Ax x a' (W.putObj l o))
    (hassign : ∀ (l j : Nat) (W : World) (K : Act → World → Prop), I j W → w.heap.size ≤ W.heap.size → (∀ a' W', KZ w.heap.size b W W' → I j W' → Ax j a' W' → K a' W') →
      assign.wpIn (Fence.wide.inRound l) (n - 1 - 1) P (Exit.then K (fun _ _ _ => False)) { tmps := (ps.zip (encs j)).foldl (fun t (p, v) => t.setIfInBounds p v) a.tmps, defers := [] } W)
    (hbody : ∀ (l j : Nat) (a' : Act) (W : World), I j W → Ax j a' W → j < N → w.heap.size ≤ W.heap.size → body.wpIn (Fence.wide.inRound l) (n - 1 - 1) P (postZ w.heap.size b I Ix (j + 1) W) a' W)
    (hdone : ∀ (D : Nat) (W : World), w.heap.size ≤ D → I N W → W.heap[D]? = some (.deferred (some [])) → Q .normal { a with defers := { target := .collected D, args := #[] } :: a.defers } W)
    (hstop : ∀ (D : Nat) (c : Code) (j : Nat) (W : World), w.heap.size ≤ D → j < N → Ix c (j + 1) W → W.heap[D]? = some (.deferred (some [])) → c.wpIn Fence.wide n P Q { a with defers := { target := .collected D, args := #[] } :: a.defers } W) :
    (Code.rangeFunc g ps assign body).wpIn Fence.wide n P Q a w := by
  refine wpIn_rangeFunc ?_
  intro fn hfn
  obtain ⟨rec, hrec⟩ : ∃ rec : LoopState → Option Code → Loop, rec = fun st pe => { state := st, pending := pe, fn, tmps := a.tmps, params := ps, assign, body, defers := w.heap.size } := ⟨_, rfl⟩
  obtain ⟨W1, hW1⟩ : ∃ W1, (w.alloc (.deferred (some []))).alloc (.loop (rec .ready none)) = W1 := ⟨_, rfl⟩
  have hL1 : W1.heap[w.heap.size + 1]? = some (.loop (rec .ready none)) := by
    rw [← hW1]; have := World.alloc_heap_new (w.alloc (.deferred (some []))) (.loop (rec .ready none)); rwa [World.size_alloc] at this
  have hK1 : W1.heap[w.heap.size]? = some (.deferred (some [])) := by
    rw [← hW1]; exact (Below.heap_alloc _ _ _ (by simp)).trans (World.alloc_heap_new w _)
  have hB1 : Below w.heap.size w W1 := by rw [← hW1]; exact ((Below.refl _ w).alloc (Nat.le_refl _) _).alloc (by simp) _
  have hS1 : W1.heap.size = w.heap.size + 2 := by rw [← hW1]; simp
  refine ⟨w.heap.size + 1, [{ target := .collected w.heap.size, args := #[] }], W1, { target := .fn (.func gf) lb, args := #[.func (.yield (w.heap.size + 1)) #[] #[]] }, W1, gf,
    #[.func (.yield (w.heap.size + 1)) #[] #[]] ++ lb, W1, ?_, ?_, ?_, ?_, (fun h => by cases h), ?_⟩
  · rw [← hW1, hrec]; exact run_enterLoop_outer _ _ _ _ _
  · simp only [resolve, hg]
    simp [go_sem]
  · intro f' _; trivial
  · simp [invoke, go_sem, eg]
  · refine (hseq (w.heap.size + 1)
      (fun j W => I j W ∧ W.heap[w.heap.size + 1]? = some (.loop (rec .ready none)) ∧ W.heap[w.heap.size]? = some (.deferred (some [])))
      (fun j W => ∃ c, Ix c j W ∧ W.heap[w.heap.size + 1]? = some (.loop (rec .done (some c))) ∧ W.heap[w.heap.size]? = some (.deferred (some [])))
      W1 hB1
      (fun s A B hs hk => ⟨hI s A B hs.1 (hk.mono (by omega)), (hk.block _ (by omega)).trans hs.2.1, (hk.block _ (by omega)).trans hs.2.2⟩)
      (fun s A B hs hk => by
        obtain ⟨c, h1, h2, h3⟩ := hs
        exact ⟨c, hIx c s A B h1 (hk.mono (by omega)), (hk.block _ (by omega)).trans h2, (hk.block _ (by omega)).trans h3⟩)
      ?_ ⟨hI _ _ _ h0 hB1, hL1, hK1⟩).mono ?_
    · rintro j W ⟨hi, hl, hk⟩ hlen
      have hlt : w.heap.size + 1 < W.heap.size := (Array.getElem?_eq_some_iff.1 hl).1
      have hy := run_yield (P := P) (args := encs j) hl (by rw [hrec]; exact hps j)
      rw [hrec] at hy
      refine ⟨fn, _, assign, body, hy, roundIn_of_wpIn hfn (hassign _ j W _ hi (by omega) ?_)⟩
      clear hy
      intro a' Wa hka hia hax
      have hla := (hka.same _ hlt (.inl (by omega))).trans hl
      have hka2 := (hka.same _ (by omega) (.inl (Nat.le_refl _))).trans hk
      have hlta : w.heap.size + 1 < Wa.heap.size := (Array.getElem?_eq_some_iff.1 hla).1
      refine ⟨_, run_beginRound hla (by rw [hrec]), ?_⟩
      obtain ⟨Wb, hWb⟩ : ∃ Wb, Wa.putObj (w.heap.size + 1) (.loop { rec .ready none with state := .busy }) = Wb := ⟨_, rfl⟩
      have hl2 : Wb.heap[w.heap.size + 1]? = some (.loop { rec .ready none with state := .busy }) := by rw [← hWb]; exact World.putObj_heap_same hlta
      have hk2 : Wb.heap[w.heap.size]? = some (.deferred (some [])) := by rw [← hWb]; exact (World.putObj_heap_other (by omega)).trans hka2
      have hbb : Below w.heap.size Wa Wb := by rw [← hWb]; exact below_put _ (by omega)
      have hax2 : Ax j a' Wb := by rw [← hWb]; exact hAx _ _ _ _ _ _ hax hla
      have hsb : Wb.heap.size = Wa.heap.size := by rw [← hWb]; simp
      have hkb : KZ W1.heap.size b Wa Wb := ⟨by omega, fun k hk hn => by rw [← hWb]; exact World.putObj_heap_other (by omega)⟩
      have hka3 : KZ W1.heap.size b W Wa := ⟨hka.size, fun k hk hn => hka.same k hk (hn.imp (fun h => by omega) id)⟩
      rw [hWb]
      clear hWb
      refine wpIn_mono (hbody _ j a' Wb (hI _ _ _ hia hbb) hax2 hlen (by omega)) ?_
      have fin : ∀ (jump : Option Code) (W3 : World), KZ w.heap.size b Wb W3 →
          (Instr.endRound (w.heap.size + 1) jump).run P W3 = .ok (.bool jump.isNone) (W3.putObj (w.heap.size + 1) (.loop (rec (if jump.isNone then .ready else .done) jump))) ∧
          (W3.putObj (w.heap.size + 1) (.loop (rec (if jump.isNone then .ready else .done) jump))).heap[w.heap.size + 1]? = some (.loop (rec (if jump.isNone then .ready else .done) jump)) ∧
          (W3.putObj (w.heap.size + 1) (.loop (rec (if jump.isNone then .ready else .done) jump))).heap[w.heap.size]? = some (.deferred (some [])) := fun jump W3 hk3 => by
        have hl3 := (hk3.same _ (by omega) (.inl (by omega))).trans hl2
        have := run_endRound (P := P) jump hl3
        rw [hrec] at this ⊢
        exact ⟨this, World.putObj_heap_same (Array.getElem?_eq_some_iff.1 hl3).1, (World.putObj_heap_other (by omega)).trans ((hk3.same _ (by omega) (.inl (Nat.le_refl _))).trans hk2)⟩
      rintro e a3 W3 hp
      cases e with
      | normal =>
        obtain ⟨hk3, hi3⟩ := hp
        obtain ⟨hr, hl4, hk4⟩ := fin none W3 hk3
        refine ⟨_, _, hr, .inl ⟨rfl, ⟨hI _ _ _ hi3 (below_put _ (by omega)), hl4, hk4⟩, ?_⟩⟩
        have h3 : KZ W1.heap.size b Wb W3 := ⟨hk3.size, fun k hk hn => hk3.same k hk (hn.imp (fun h => by omega) id)⟩
        have h4 : KZ W1.heap.size b W3 (W3.putObj (w.heap.size + 1) (.loop (rec (if (none : Option Code).isNone then .ready else .done) none))) := ⟨by simp, fun k hk hn => World.putObj_heap_other (by omega)⟩
        exact hka3.trans (hkb.trans (h3.trans h4))
      | ret =>
        obtain ⟨hk3, hi3⟩ := hp
        obtain ⟨hr, hl4, hk4⟩ := fin (some .ret) W3 hk3
        exact ⟨_, _, hr, .inr ⟨rfl, .ret, hIx _ _ _ _ hi3 (below_put _ (by omega)), hl4, hk4⟩⟩
      | exit id =>
        obtain ⟨hk3, hi3⟩ := hp
        obtain ⟨hr, hl4, hk4⟩ := fin (some (.exit id)) W3 hk3
        exact ⟨_, _, hr, .inr ⟨rfl, .exit id, hIx _ _ _ _ hi3 (below_put _ (by omega)), hl4, hk4⟩⟩
      | goto t =>
        obtain ⟨hk3, hi3⟩ := hp
        obtain ⟨hr, hl4, hk4⟩ := fin (some (.goto t)) W3 hk3
        exact ⟨_, _, hr, .inr ⟨rfl, .goto t, hIx _ _ _ _ hi3 (below_put _ (by omega)), hl4, hk4⟩⟩
      | panic ch => exact hp.elim
      | outgrown => exact hp.elim
    · rintro e W2 ⟨⟨v, rfl⟩, (⟨hi, hl, hk⟩ | ⟨j, hj, c, hi, hl, hk⟩)⟩
      · exact ⟨none, _, by have := run_endLoop (P := P) hl (by rw [hrec]; simp); rw [hrec] at this; exact this, hdone _ _ (Nat.le_refl _) (hI _ _ _ hi (below_put _ (by omega))) ((World.putObj_heap_other (by omega)).trans hk)⟩
      · exact ⟨some c, _, by have := run_endLoop (P := P) hl (by rw [hrec]; simp); rw [hrec] at this; exact this, hstop _ c j _ (Nat.le_refl _) hj (hIx _ _ _ _ hi (below_put _ (by omega))) ((World.putObj_heap_other (by omega)).trans hk)⟩
end Go.Proofs.Ytkjmjgiklelpiaa.Rz
/- cipher.Blocks: the iterator, walked. -/
namespace Go.Proofs.Ytkjmjgiklelpiaa.ItA
open Go.RowKit Go.Proofs.YtkjmjgiklelpiaaW.PrintWords Go.Proofs.Ytkjmjgiklelpiaa.Num Go.Proofs.Ytkjmjgiklelpiaa.WordC Go.Proofs.Ytkjmjgiklelpiaa.Arr Go.Proofs.Ytkjmjgiklelpiaa.App Go.Proofs.Ytkjmjgiklelpiaa.CiC Go.Proofs.Ytkjmjgiklelpiaa.CiD Go.Proofs.Ytkjmjgiklelpiaa.CiB Go.Proofs.Ytkjmjgiklelpiaa.CiK Go.Proofs.Ytkjmjgiklelpiaa.CiL Go.Proofs.Ytkjmjgiklelpiaa.Rz
set_option linter.unusedVariables false
set_option linter.unusedSimpArgs false

theorem round_n {P : Program} {l : Nat} {f : FuncId} {tmps : Array Value} {assign body : Code} {w : World} {R : Ending → World → Prop} (n m : Nat) (h : RoundIn Fence.wide n P l f tmps assign body w R) : RoundIn Fence.wide m P l f tmps assign body w R :=
  ⟨trivial, fun c cs _ => h.2 c cs (room_wide _)⟩
theorem in_val {P : Program} {n : Nat} {ops : Array Oper} {o : Oper} {a : Act} {w w' : World} {K : Act → World → Prop} {Q : Exit → Act → World → Prop} {v : Value} (hw : Region.wanted o (yielded ops a.tmps) = true)
    (hrun : (execOp a.eval o).run P w = .ok (.value v) w') (h : K (a.put o.dst v) w') : if Region.wanted o (yielded ops a.tmps) = true then Oper.wpIn Fence.wide n P o a w K Q else (∀ f, o.about P w a.eval = some f → Fence.wide.fn f) ∧ K (a.put o.dst undef) w := by
  rw [if_pos hw]
  refine ⟨fun _ _ => trivial, ?_⟩
  show o.uponIn Fence.wide n P a K Q ((execOp a.eval o).run P w)
  rw [hrun]; exact h
theorem run_load_arr {P : Program} {o : Oper} {ρ : Operand → Value} {w : World} (ty : TypeId) (x : Operand) (ho : o.op = .load ty x) (g : Nat) (hx : ρ x = .pointer (some ⟨g, 0, none⟩)) (t : TypeId) (k : IntKind) (l : List Int) (n e : Nat) (hg : Blk w g t (nums k l))
    (hu : P.underlying ty = some (.array n e)) (hi : (P.info? ty).map (·.size) = some n) (hl : l.length = n) : (execOp ρ o).run P w = .ok (.value (.agg (nums k l).toArray)) w := by
  have h := run_loadVar_mid (P := P) w g 0 ty (nums k l) (.array n e) (fun j v hj => by rw [Nat.zero_add, Blk.cell hg]; exact hj) hu rfl (by rw [nums_length, hl]; exact hi)
  unfold execOp
  simp only [ho, hx, Instr.loadAt, Instr.sureAddr, Sem.run_bind, Sem.run_pure, Result.andThen_ok, h]
/-- What an iterator gives: the counter, and its block. -/
def encB (G : List Int) (n : Int) (j : Nat) : Array Value := #[.int .u32 (n + j), .agg (nums .u8 (blkS (G.set 12 (n + j)))).toArray]
theorem set12_isW {G : List Int} (h : IsW G) {x : Int} (h0 : 0 ≤ x) (h1 : x < 4294967296) : IsW (G.set 12 x) := by
  intro y hy
  rcases List.mem_or_eq_of_mem_set hy with hy | rfl
  · exact h y hy
  · exact ⟨h0, h1⟩
theorem Blk.below' {A B : World} {N g t : Nat} {cs : List Value} (h : Blk A g t cs) (hb : Below N A B) (hg : g < N) : Blk B g t cs := (hb.block g hg).trans h
set_option maxHeartbeats 8000000 in
set_option maxRecDepth 100000 in
theorem blocks_seq {n gw gf go : Nat} {G : List Int} {m : Int} {ok : Bool} {w : World} (hg : Blk w gw 65 (nums .u32 G)) (hf : Blk w gf 23 [.int .u32 m]) (ho : Blk w go 4 [.bool ok]) (hl : G.length = 16) (hG : IsW G) (h0 : 0 ≤ m) (h1 : m < 4294967296) :
    SeqZ n Try.prog 46 #[.pointer (some ⟨gw, 0, none⟩), .pointer (some ⟨gf, 0, none⟩), .pointer (some ⟨go, 0, none⟩)] (encB G m) go (if ok then (4294967296 - m).toNat else 0) w := by
  intro l J Jx W hW hJ hJx hY hJ0
  refine callsIn_wide.2 ?_
  have HG0 := Aside0.mk (Blk.below hg hW)
  have HO0 := Aside0.mk (Blk.below ho hW)
  have HL := Aside0.mk hl
  have HGW := Aside0.mk hG
  have HY := Aside0.mk hY
  have HJ := Aside0.mk hJ
  have HJX := Aside0.mk hJx
  have HJ0 := Aside0.mk hJ0
  have hgo : Aside0 (go < W.heap.size) := ⟨Nat.lt_of_lt_of_le (Blk.lt ho) hW.size⟩
  have HX0 : Aside0 (Blk (W.alloc (.cells (nums .u32 (List.replicate 16 0)).toArray 65)) W.heap.size 65 (nums .u32 (List.replicate 16 0))) := ⟨heap_alloc_new _ _⟩
  have HB0 := Aside0.mk ((Below.refl W.heap.size W).alloc (Nat.le_refl _) (.cells (nums .u32 (List.replicate 16 0)).toArray 65))
  have HF0 := Aside0.mk (Blk.below hf hW)
  clear hg hf ho hl hG hW hY hJ hJx hJ0
  show Calls Try.prog 46 #[.func (.yield l) #[] #[], .pointer (some ⟨gw, 0, none⟩), .pointer (some ⟨gf, 0, none⟩), .pointer (some ⟨go, 0, none⟩)] W _
  go_enter Try.func46, Try.ntmps46
  go_wp2_with (first
    | (refine load_arr rfl 65 (.tmp 1) rfl gw rfl 65 .u32 G 16 23 HG0.out Try.underlying65 size65 HL.out ?_)
    | (refine store_arr rfl 65 (.tmp 5) (.tmp 6) rfl W.heap.size .u32 G rfl rfl 65 16 _ HX0.out size65 HL.out (by rw [nums_length]; rfl) ?_; intro w1 hX1 hg1
       have HB1 := Aside0.mk (HB0.out.grown hg1 HB0.out.size (fun k hk => by cases hk; exact Nat.le_refl _))
       have kf : w1.cell? ⟨gf, 0, none⟩ = some (.int .u32 m) := Blk.cell (HF0.out.below HB1.out) 0
       have k12 := blk_num hX1 12 (by rw [HL.out]; decide)
       have f12 := Blk.frozen hX1 12
       have HX1 := Aside0.mk hX1
       clear hX1 hg1))
  obtain ⟨N, HN⟩ : ∃ N : Nat, Aside0 ((4294967296 - m).toNat = N) := ⟨_, ⟨rfl⟩⟩
  have hNm : (N : Int) = 4294967296 - m := by have := HN.out; omega
  have HS : Aside0 (Blk (w1.setCell ⟨W.heap.size, 12, none⟩ (.int .u32 m)) W.heap.size 65 (nums .u32 (G.set 12 (m + (0 : Nat))))) := ⟨by
    have h1 := CiC.blk_put HX1.out 12 m
    rw [show m + ((0 : Nat) : Int) = m by omega]; exact h1⟩
  have HB2 := Aside0.mk (HB1.out.setCell (p := ⟨W.heap.size, 12, none⟩) (Nat.le_refl _) (.int .u32 m))
  have HJ2 : Aside0 (J 0 (w1.setCell ⟨W.heap.size, 12, none⟩ (.int .u32 m))) := ⟨HJ.out _ _ _ HJ0.out HB2.out⟩
  have HO2 : Aside0 (Blk (w1.setCell ⟨W.heap.size, 12, none⟩ (.int .u32 m)) go 4 [.bool ok]) := ⟨ItA.Blk.below' HO0.out HB2.out hgo.out⟩
  have hsz := HB2.out.size
  clear kf k12 f12
  go_loopg [9] N (fun k v wr => ∃ j : Nat, k + j = N ∧ Aside0 (Blk wr W.heap.size 65 (nums .u32 (G.set 12 (m + (j : Nat))))) ∧ Aside0 (J j wr) ∧ Aside0 (Blk wr go 4 [.bool ok]) ∧ W.heap.size < wr.heap.size ∧ (ok = true → j < N) ∧ (ok = false → j = 0))
  case atStart => exact ⟨0, by omega, HS, HJ2, HO2, Blk.lt HS.out, fun _ => by omega, fun _ => rfl⟩
  case round =>
    clear HS HJ2 HO2 hsz HB2
    obtain ⟨j, hkj, hS, hJj, hO, hlt, hjN, hj0⟩ := hrel
    have ko : wr.cell? ⟨go, 0, none⟩ = some (.bool ok) := Blk.cell hO.out 0
    cases ok with
    | false =>
      obtain rfl : j = 0 := hj0 rfl
      go_wp2_with fail
      go_end0
      first
        | exact ⟨⟨_, rfl⟩, hJj.out⟩
        | exact ⟨⟨_, rfl⟩, Or.inl hJj.out⟩
    | true =>
      have hjN' := hjN rfl
      go_wp2_with fail
      have k12 : wr.cell? ⟨W.heap.size, 12, none⟩ = some (.int .u32 (m + (j : Nat))) := by
        have h1 := blk_num hS.out 12 (by rw [List.length_set, HL.out]; decide)
        have h2 : (G.set 12 (m + (j : Nat))).getD 12 0 = m + (j : Nat) := by rw [List.getD_eq_getElem?_getD, List.getElem?_set_self (by rw [HL.out]; decide)]; rfl
        rwa [h2] at h1
      refine (wpIn_wide (n := 1)).1 ?_
      refine wpIn_region_any (by kernel_rfl) ?_
      (try (change wpAnyIn _ _ _ _ _ _ _ _ _ (World.drew _)))
      refine wpAnyIn_take (i := 0) (v := ?_) rfl (List.getElem?_toArray.trans rfl) (by kernel_rfl) (by kernel_rfl) (by kernel_rfl) (fun _ _ _ h => h) ⟨Or.inl ⟨by rfl, ?_⟩, fun _ => rfl⟩ ?_
      rotate_left
      · (intro w; go_simp; try with_reducible rfl)
      (try simp only [Act.put, List.setIfInBounds_toArray, List.set_cons_zero, List.set_cons_succ])
      refine wpAnyIn_take (i := 1) (v := ?_) rfl (List.getElem?_toArray.trans rfl) (by kernel_rfl) (by kernel_rfl) (by kernel_rfl) (fun _ _ _ h => h) ⟨Or.inl ⟨by rfl, ?_⟩, fun _ => rfl⟩ ?_
      rotate_left
      · (intro w; go_simp; try with_reducible rfl)
      (try simp only [Act.put, List.setIfInBounds_toArray, List.set_cons_zero, List.set_cons_succ])
      refine wpAnyIn_ready (rs := [2, 3]) (by kernel_rfl) (by simp) (AllReadyIn.cons (List.getElem?_toArray.trans rfl) (fun K hK => ?_) (AllReadyIn.cons (List.getElem?_toArray.trans rfl) (fun K hK => ?_) AllReadyIn.nil))
      · go_simp
        refine hK _ _ ?_
        clear hK K
        (try simp only [Act.put, List.setIfInBounds_toArray, List.set_cons_zero, List.set_cons_succ])
        refine wpAnyIn_ready (rs := [3]) (by kernel_rfl) (by simp) (AllReadyIn.cons (List.getElem?_toArray.trans rfl) (fun K hK => ?_) AllReadyIn.nil)
        refine in_val (by rfl) (run_load_arr 65 (.tmp 5) rfl W.heap.size rfl 65 .u32 (G.set 12 (m + (j : Nat))) 16 23 hS.out Try.underlying65 size65 (by rw [List.length_set]; exact HL.out)) ?_
        refine hK _ _ ?_
        clear hK K
        (try simp only [Act.put, List.setIfInBounds_toArray, List.set_cons_zero, List.set_cons_succ])
        refine wpAnyIn_ready (rs := [4]) (by kernel_rfl) (by simp) (AllReadyIn.cons (List.getElem?_toArray.trans rfl) (fun K hK => ?_) AllReadyIn.nil)
        go_simp
        refine ⟨trivial, callsIn_wide.2 ((block_c (by rw [List.length_set]; exact HL.out) (set12_isW HGW.out (by omega) (by omega))).mono ?_)⟩
        rintro x w4 ⟨rfl, hb4⟩
        have hb4' : Below W.heap.size wr w4 := (Below.refl _ wr).drew.trans (hb4.mono (Nat.le_of_lt hlt))
        have S4 := Aside0.mk (Blk.below (w := wr.drew) hS.out hb4)
        have O4 := Aside0.mk (Blk.below (w := wr.drew) hO.out hb4)
        have hz4 : wr.heap.size ≤ w4.heap.size := hb4.size
        have k12' : w4.cell? ⟨W.heap.size, 12, none⟩ = some (.int .u32 (m + (j : Nat))) := by
          have h1 := blk_num S4.out 12 (by rw [List.length_set, HL.out]; decide)
          have h2 : (G.set 12 (m + (j : Nat))).getD 12 0 = m + (j : Nat) := by rw [List.getD_eq_getElem?_getD, List.getElem?_set_self (by rw [HL.out]; decide)]; rfl
          rwa [h2] at h1
        refine hK _ _ ?_
        clear hK K
        (try simp only [Act.put, List.setIfInBounds_toArray, List.set_cons_zero, List.set_cons_succ])
        refine wpAnyIn_ready (rs := [5]) (by kernel_rfl) (by simp) (AllReadyIn.cons (List.getElem?_toArray.trans rfl) (fun K hK => ?_) AllReadyIn.nil)
        obtain ⟨fn, tmps, assign, body, hy, hR⟩ := HY.out j w4 (HJ.out _ _ _ hJj.out hb4') (by simpa [HN.out] using hjN')
        have hy' : (Instr.yield l #[.int .u32 (m + (j : Nat)), .agg (nums .u8 (blkS (G.set 12 (m + (j : Nat))))).toArray]).run Try.prog w4 = .ok (.round l fn tmps assign body) w4 := hy
        clear hy
        go_simp
        refine (round_n _ _ hR).mono ?_
        rintro x w5 (⟨rfl, hJ5, hK5⟩ | ⟨rfl, hX5⟩)
        · refine hK _ _ ?_
          clear hK K
          (try simp only [Act.put, List.setIfInBounds_toArray, List.set_cons_zero, List.set_cons_succ])
          refine wpAnyIn_ready (rs := [6]) (by kernel_rfl) (by simp) (AllReadyIn.cons (List.getElem?_toArray.trans rfl) (fun K hK => ?_) AllReadyIn.nil)
          go_simp
          refine hK _ _ ?_
          clear hK K
          (try simp only [Act.put, List.setIfInBounds_toArray, List.set_cons_zero, List.set_cons_succ])
          refine wpAnyIn_done (by kernel_rfl) ?_ _
          have S5 : Blk w5 W.heap.size 65 (nums .u32 (G.set 12 (m + (j : Nat)))) := (hK5.same _ (by omega) (.inl (Nat.le_refl _))).trans S4.out
          have O5 : Aside0 (Blk w5 go 4 [.bool true]) := ⟨(hK5.same _ (Blk.lt O4.out) (.inr rfl)).trans O4.out⟩
          have k5 : w5.cell? ⟨W.heap.size, 12, none⟩ = some (.int .u32 (m + (j : Nat))) := by
            have h1 := blk_num S5 12 (by rw [List.length_set, HL.out]; decide)
            have h2 : (G.set 12 (m + (j : Nat))).getD 12 0 = m + (j : Nat) := by rw [List.getD_eq_getElem?_getD, List.getElem?_set_self (by rw [HL.out]; decide)]; rfl
            rwa [h2] at h1
          have f5 := Blk.frozen S5 12
          have hz5 := hK5.size
          have HJ5 := Aside0.mk hJ5
          have S5' := Aside0.mk S5
          clear hJ5 S5
          by_cases hend : j + 1 < N
          · have e1 : (m + (j : Nat) + 1) % 4294967296 = m + (j : Nat) + 1 := by omega
            have e2 : ¬ (m + (j : Nat) + 1 = 0) := by omega
            have S6 : Aside0 (Blk (w5.setCell ⟨W.heap.size, 12, none⟩ (.int .u32 (m + (j : Nat) + 1))) W.heap.size 65 (nums .u32 (G.set 12 (m + ((j + 1 : Nat) : Int))))) := ⟨by have h1 := CiC.blk_put S5'.out 12 (m + (j : Nat) + 1); rw [List.set_set] at h1; rw [show m + ((j + 1 : Nat) : Int) = m + (j : Nat) + 1 by omega]; exact h1⟩
            have B6 : Below W.heap.size w5 (w5.setCell ⟨W.heap.size, 12, none⟩ (.int .u32 (m + (j : Nat) + 1))) := (Below.refl _ _).setCell (p := ⟨W.heap.size, 12, none⟩) (Nat.le_refl _) _
            have J6 : Aside0 (J (j + 1) (w5.setCell ⟨W.heap.size, 12, none⟩ (.int .u32 (m + (j : Nat) + 1)))) := ⟨HJ.out _ _ _ HJ5.out B6⟩
            have O6 : Aside0 (Blk (w5.setCell ⟨W.heap.size, 12, none⟩ (.int .u32 (m + (j : Nat) + 1))) go 4 [.bool true]) := ⟨ItA.Blk.below' O5.out B6 hgo.out⟩
            have L6 := Blk.lt S6.out
            (go_wp2_with fail; go_roundg (gk - 1); (case measure => omega); (case rel => exact ⟨j + 1, by omega, S6, J6, O6, L6, (fun _ => hend), (fun h => by cases h)⟩))
          · have e1 : (m + (j : Nat) + 1) % 4294967296 = 0 := by omega
            have B6 : Below W.heap.size w5 (w5.setCell ⟨W.heap.size, 12, none⟩ (.int .u32 0)) := (Below.refl _ _).setCell (p := ⟨W.heap.size, 12, none⟩) (Nat.le_refl _) _
            have J6 : Aside0 (J (j + 1) (w5.setCell ⟨W.heap.size, 12, none⟩ (.int .u32 0))) := ⟨HJ.out _ _ _ HJ5.out B6⟩
            have hjn : Aside0 ((4294967296 - m).toNat = j + 1) := ⟨by rw [HN.out]; omega⟩
            (go_wp2_with fail; exact bodyPost_ret (v := .tuple #[]) (by simp [results, Try.results46, go_sem]) rfl ⟨⟨_, rfl⟩, Or.inl (by rw [hjn.out]; exact J6.out)⟩)
        · refine hK _ _ ?_
          clear hK K
          (try simp only [Act.put, List.setIfInBounds_toArray, List.set_cons_zero, List.set_cons_succ])
          refine wpAnyIn_ready (rs := [6]) (by kernel_rfl) (by simp) (AllReadyIn.cons (List.getElem?_toArray.trans rfl) (fun K hK => ?_) AllReadyIn.nil)
          go_simp
          refine hK _ _ ?_
          clear hK K
          (try simp only [Act.put, List.setIfInBounds_toArray, List.set_cons_zero, List.set_cons_succ])
          refine wpAnyIn_done (by kernel_rfl) ?_ _
          (go_wp2_with fail; exact bodyPost_ret (v := .tuple #[]) (by simp [results, Try.results46, go_sem]) rfl ⟨⟨_, rfl⟩, Or.inr ⟨j, by omega, hX5⟩⟩)
      · refine in_val (by rfl) (run_load_arr 65 (.tmp 5) rfl W.heap.size rfl 65 .u32 (G.set 12 (m + (j : Nat))) 16 23 hS.out Try.underlying65 size65 (by rw [List.length_set]; exact HL.out)) ?_
        refine hK _ _ ?_
        clear hK K
        (try simp only [Act.put, List.setIfInBounds_toArray, List.set_cons_zero, List.set_cons_succ])
        refine wpAnyIn_ready (rs := [2, 4]) (by kernel_rfl) (by simp) (AllReadyIn.cons (List.getElem?_toArray.trans rfl) (fun K hK => ?_) (AllReadyIn.cons (List.getElem?_toArray.trans rfl) (fun K hK => ?_) AllReadyIn.nil))
        · go_simp
          refine hK _ _ ?_
          clear hK K
          (try simp only [Act.put, List.setIfInBounds_toArray, List.set_cons_zero, List.set_cons_succ])
          refine wpAnyIn_ready (rs := [4]) (by kernel_rfl) (by simp) (AllReadyIn.cons (List.getElem?_toArray.trans rfl) (fun K hK => ?_) AllReadyIn.nil)
          go_simp
          refine ⟨trivial, callsIn_wide.2 ((block_c (by rw [List.length_set]; exact HL.out) (set12_isW HGW.out (by omega) (by omega))).mono ?_)⟩
          rintro x w4 ⟨rfl, hb4⟩
          have hb4' : Below W.heap.size wr w4 := (Below.refl _ wr).drew.trans (hb4.mono (Nat.le_of_lt hlt))
          have S4 := Aside0.mk (Blk.below (w := wr.drew) hS.out hb4)
          have O4 := Aside0.mk (Blk.below (w := wr.drew) hO.out hb4)
          have hz4 : wr.heap.size ≤ w4.heap.size := hb4.size
          have k12' : w4.cell? ⟨W.heap.size, 12, none⟩ = some (.int .u32 (m + (j : Nat))) := by
            have h1 := blk_num S4.out 12 (by rw [List.length_set, HL.out]; decide)
            have h2 : (G.set 12 (m + (j : Nat))).getD 12 0 = m + (j : Nat) := by rw [List.getD_eq_getElem?_getD, List.getElem?_set_self (by rw [HL.out]; decide)]; rfl
            rwa [h2] at h1
          refine hK _ _ ?_
          clear hK K
          (try simp only [Act.put, List.setIfInBounds_toArray, List.set_cons_zero, List.set_cons_succ])
          refine wpAnyIn_ready (rs := [5]) (by kernel_rfl) (by simp) (AllReadyIn.cons (List.getElem?_toArray.trans rfl) (fun K hK => ?_) AllReadyIn.nil)
          obtain ⟨fn, tmps, assign, body, hy, hR⟩ := HY.out j w4 (HJ.out _ _ _ hJj.out hb4') (by simpa [HN.out] using hjN')
          have hy' : (Instr.yield l #[.int .u32 (m + (j : Nat)), .agg (nums .u8 (blkS (G.set 12 (m + (j : Nat))))).toArray]).run Try.prog w4 = .ok (.round l fn tmps assign body) w4 := hy
          clear hy
          go_simp
          refine (round_n _ _ hR).mono ?_
          rintro x w5 (⟨rfl, hJ5, hK5⟩ | ⟨rfl, hX5⟩)
          · refine hK _ _ ?_
            clear hK K
            (try simp only [Act.put, List.setIfInBounds_toArray, List.set_cons_zero, List.set_cons_succ])
            refine wpAnyIn_ready (rs := [6]) (by kernel_rfl) (by simp) (AllReadyIn.cons (List.getElem?_toArray.trans rfl) (fun K hK => ?_) AllReadyIn.nil)
            go_simp
            refine hK _ _ ?_
            clear hK K
            (try simp only [Act.put, List.setIfInBounds_toArray, List.set_cons_zero, List.set_cons_succ])
            refine wpAnyIn_done (by kernel_rfl) ?_ _
            have S5 : Blk w5 W.heap.size 65 (nums .u32 (G.set 12 (m + (j : Nat)))) := (hK5.same _ (by omega) (.inl (Nat.le_refl _))).trans S4.out
            have O5 : Aside0 (Blk w5 go 4 [.bool true]) := ⟨(hK5.same _ (Blk.lt O4.out) (.inr rfl)).trans O4.out⟩
            have k5 : w5.cell? ⟨W.heap.size, 12, none⟩ = some (.int .u32 (m + (j : Nat))) := by
              have h1 := blk_num S5 12 (by rw [List.length_set, HL.out]; decide)
              have h2 : (G.set 12 (m + (j : Nat))).getD 12 0 = m + (j : Nat) := by rw [List.getD_eq_getElem?_getD, List.getElem?_set_self (by rw [HL.out]; decide)]; rfl
              rwa [h2] at h1
            have f5 := Blk.frozen S5 12
            have hz5 := hK5.size
            have HJ5 := Aside0.mk hJ5
            have S5' := Aside0.mk S5
            clear hJ5 S5
            by_cases hend : j + 1 < N
            · have e1 : (m + (j : Nat) + 1) % 4294967296 = m + (j : Nat) + 1 := by omega
              have e2 : ¬ (m + (j : Nat) + 1 = 0) := by omega
              have S6 : Aside0 (Blk (w5.setCell ⟨W.heap.size, 12, none⟩ (.int .u32 (m + (j : Nat) + 1))) W.heap.size 65 (nums .u32 (G.set 12 (m + ((j + 1 : Nat) : Int))))) := ⟨by have h1 := CiC.blk_put S5'.out 12 (m + (j : Nat) + 1); rw [List.set_set] at h1; rw [show m + ((j + 1 : Nat) : Int) = m + (j : Nat) + 1 by omega]; exact h1⟩
              have B6 : Below W.heap.size w5 (w5.setCell ⟨W.heap.size, 12, none⟩ (.int .u32 (m + (j : Nat) + 1))) := (Below.refl _ _).setCell (p := ⟨W.heap.size, 12, none⟩) (Nat.le_refl _) _
              have J6 : Aside0 (J (j + 1) (w5.setCell ⟨W.heap.size, 12, none⟩ (.int .u32 (m + (j : Nat) + 1)))) := ⟨HJ.out _ _ _ HJ5.out B6⟩
              have O6 : Aside0 (Blk (w5.setCell ⟨W.heap.size, 12, none⟩ (.int .u32 (m + (j : Nat) + 1))) go 4 [.bool true]) := ⟨ItA.Blk.below' O5.out B6 hgo.out⟩
              have L6 := Blk.lt S6.out
              (go_wp2_with fail; go_roundg (gk - 1); (case measure => omega); (case rel => exact ⟨j + 1, by omega, S6, J6, O6, L6, (fun _ => hend), (fun h => by cases h)⟩))
            · have e1 : (m + (j : Nat) + 1) % 4294967296 = 0 := by omega
              have B6 : Below W.heap.size w5 (w5.setCell ⟨W.heap.size, 12, none⟩ (.int .u32 0)) := (Below.refl _ _).setCell (p := ⟨W.heap.size, 12, none⟩) (Nat.le_refl _) _
              have J6 : Aside0 (J (j + 1) (w5.setCell ⟨W.heap.size, 12, none⟩ (.int .u32 0))) := ⟨HJ.out _ _ _ HJ5.out B6⟩
              have hjn : Aside0 ((4294967296 - m).toNat = j + 1) := ⟨by rw [HN.out]; omega⟩
              (go_wp2_with fail; exact bodyPost_ret (v := .tuple #[]) (by simp [results, Try.results46, go_sem]) rfl ⟨⟨_, rfl⟩, Or.inl (by rw [hjn.out]; exact J6.out)⟩)
          · refine hK _ _ ?_
            clear hK K
            (try simp only [Act.put, List.setIfInBounds_toArray, List.set_cons_zero, List.set_cons_succ])
            refine wpAnyIn_ready (rs := [6]) (by kernel_rfl) (by simp) (AllReadyIn.cons (List.getElem?_toArray.trans rfl) (fun K hK => ?_) AllReadyIn.nil)
            go_simp
            refine hK _ _ ?_
            clear hK K
            (try simp only [Act.put, List.setIfInBounds_toArray, List.set_cons_zero, List.set_cons_succ])
            refine wpAnyIn_done (by kernel_rfl) ?_ _
            (go_wp2_with fail; exact bodyPost_ret (v := .tuple #[]) (by simp [results, Try.results46, go_sem]) rfl ⟨⟨_, rfl⟩, Or.inr ⟨j, by omega, hX5⟩⟩)
        · go_simp
          refine ⟨trivial, callsIn_wide.2 ((block_c (by rw [List.length_set]; exact HL.out) (set12_isW HGW.out (by omega) (by omega))).mono ?_)⟩
          rintro x w4 ⟨rfl, hb4⟩
          have hb4' : Below W.heap.size wr w4 := (Below.refl _ wr).drew.trans (hb4.mono (Nat.le_of_lt hlt))
          have S4 := Aside0.mk (Blk.below (w := wr.drew) hS.out hb4)
          have O4 := Aside0.mk (Blk.below (w := wr.drew) hO.out hb4)
          have hz4 : wr.heap.size ≤ w4.heap.size := hb4.size
          have k12' : w4.cell? ⟨W.heap.size, 12, none⟩ = some (.int .u32 (m + (j : Nat))) := by
            have h1 := blk_num S4.out 12 (by rw [List.length_set, HL.out]; decide)
            have h2 : (G.set 12 (m + (j : Nat))).getD 12 0 = m + (j : Nat) := by rw [List.getD_eq_getElem?_getD, List.getElem?_set_self (by rw [HL.out]; decide)]; rfl
            rwa [h2] at h1
          refine hK _ _ ?_
          clear hK K
          (try simp only [Act.put, List.setIfInBounds_toArray, List.set_cons_zero, List.set_cons_succ])
          refine wpAnyIn_ready (rs := [2]) (by kernel_rfl) (by simp) (AllReadyIn.cons (List.getElem?_toArray.trans rfl) (fun K hK => ?_) AllReadyIn.nil)
          go_simp
          refine hK _ _ ?_
          clear hK K
          (try simp only [Act.put, List.setIfInBounds_toArray, List.set_cons_zero, List.set_cons_succ])
          refine wpAnyIn_ready (rs := [5]) (by kernel_rfl) (by simp) (AllReadyIn.cons (List.getElem?_toArray.trans rfl) (fun K hK => ?_) AllReadyIn.nil)
          obtain ⟨fn, tmps, assign, body, hy, hR⟩ := HY.out j w4 (HJ.out _ _ _ hJj.out hb4') (by simpa [HN.out] using hjN')
          have hy' : (Instr.yield l #[.int .u32 (m + (j : Nat)), .agg (nums .u8 (blkS (G.set 12 (m + (j : Nat))))).toArray]).run Try.prog w4 = .ok (.round l fn tmps assign body) w4 := hy
          clear hy
          go_simp
          refine (round_n _ _ hR).mono ?_
          rintro x w5 (⟨rfl, hJ5, hK5⟩ | ⟨rfl, hX5⟩)
          · refine hK _ _ ?_
            clear hK K
            (try simp only [Act.put, List.setIfInBounds_toArray, List.set_cons_zero, List.set_cons_succ])
            refine wpAnyIn_ready (rs := [6]) (by kernel_rfl) (by simp) (AllReadyIn.cons (List.getElem?_toArray.trans rfl) (fun K hK => ?_) AllReadyIn.nil)
            go_simp
            refine hK _ _ ?_
            clear hK K
            (try simp only [Act.put, List.setIfInBounds_toArray, List.set_cons_zero, List.set_cons_succ])
            refine wpAnyIn_done (by kernel_rfl) ?_ _
            have S5 : Blk w5 W.heap.size 65 (nums .u32 (G.set 12 (m + (j : Nat)))) := (hK5.same _ (by omega) (.inl (Nat.le_refl _))).trans S4.out
            have O5 : Aside0 (Blk w5 go 4 [.bool true]) := ⟨(hK5.same _ (Blk.lt O4.out) (.inr rfl)).trans O4.out⟩
            have k5 : w5.cell? ⟨W.heap.size, 12, none⟩ = some (.int .u32 (m + (j : Nat))) := by
              have h1 := blk_num S5 12 (by rw [List.length_set, HL.out]; decide)
              have h2 : (G.set 12 (m + (j : Nat))).getD 12 0 = m + (j : Nat) := by rw [List.getD_eq_getElem?_getD, List.getElem?_set_self (by rw [HL.out]; decide)]; rfl
              rwa [h2] at h1
            have f5 := Blk.frozen S5 12
            have hz5 := hK5.size
            have HJ5 := Aside0.mk hJ5
            have S5' := Aside0.mk S5
            clear hJ5 S5
            by_cases hend : j + 1 < N
            · have e1 : (m + (j : Nat) + 1) % 4294967296 = m + (j : Nat) + 1 := by omega
              have e2 : ¬ (m + (j : Nat) + 1 = 0) := by omega
              have S6 : Aside0 (Blk (w5.setCell ⟨W.heap.size, 12, none⟩ (.int .u32 (m + (j : Nat) + 1))) W.heap.size 65 (nums .u32 (G.set 12 (m + ((j + 1 : Nat) : Int))))) := ⟨by have h1 := CiC.blk_put S5'.out 12 (m + (j : Nat) + 1); rw [List.set_set] at h1; rw [show m + ((j + 1 : Nat) : Int) = m + (j : Nat) + 1 by omega]; exact h1⟩
              have B6 : Below W.heap.size w5 (w5.setCell ⟨W.heap.size, 12, none⟩ (.int .u32 (m + (j : Nat) + 1))) := (Below.refl _ _).setCell (p := ⟨W.heap.size, 12, none⟩) (Nat.le_refl _) _
              have J6 : Aside0 (J (j + 1) (w5.setCell ⟨W.heap.size, 12, none⟩ (.int .u32 (m + (j : Nat) + 1)))) := ⟨HJ.out _ _ _ HJ5.out B6⟩
              have O6 : Aside0 (Blk (w5.setCell ⟨W.heap.size, 12, none⟩ (.int .u32 (m + (j : Nat) + 1))) go 4 [.bool true]) := ⟨ItA.Blk.below' O5.out B6 hgo.out⟩
              have L6 := Blk.lt S6.out
              (go_wp2_with fail; go_roundg (gk - 1); (case measure => omega); (case rel => exact ⟨j + 1, by omega, S6, J6, O6, L6, (fun _ => hend), (fun h => by cases h)⟩))
            · have e1 : (m + (j : Nat) + 1) % 4294967296 = 0 := by omega
              have B6 : Below W.heap.size w5 (w5.setCell ⟨W.heap.size, 12, none⟩ (.int .u32 0)) := (Below.refl _ _).setCell (p := ⟨W.heap.size, 12, none⟩) (Nat.le_refl _) _
              have J6 : Aside0 (J (j + 1) (w5.setCell ⟨W.heap.size, 12, none⟩ (.int .u32 0))) := ⟨HJ.out _ _ _ HJ5.out B6⟩
              have hjn : Aside0 ((4294967296 - m).toNat = j + 1) := ⟨by rw [HN.out]; omega⟩
              (go_wp2_with fail; exact bodyPost_ret (v := .tuple #[]) (by simp [results, Try.results46, go_sem]) rfl ⟨⟨_, rfl⟩, Or.inl (by rw [hjn.out]; exact J6.out)⟩)
          · refine hK _ _ ?_
            clear hK K
            (try simp only [Act.put, List.setIfInBounds_toArray, List.set_cons_zero, List.set_cons_succ])
            refine wpAnyIn_ready (rs := [6]) (by kernel_rfl) (by simp) (AllReadyIn.cons (List.getElem?_toArray.trans rfl) (fun K hK => ?_) AllReadyIn.nil)
            go_simp
            refine hK _ _ ?_
            clear hK K
            (try simp only [Act.put, List.setIfInBounds_toArray, List.set_cons_zero, List.set_cons_succ])
            refine wpAnyIn_done (by kernel_rfl) ?_ _
            (go_wp2_with fail; exact bodyPost_ret (v := .tuple #[]) (by simp [results, Try.results46, go_sem]) rfl ⟨⟨_, rfl⟩, Or.inr ⟨j, by omega, hX5⟩⟩)
end Go.Proofs.Ytkjmjgiklelpiaa.ItA
/- cipher.Mix: regions within a round; the law of what is mixed. -/
namespace Go.Proofs.Ytkjmjgiklelpiaa.MxA
open Go.RowKit Go.Proofs.YtkjmjgiklelpiaaW.PrintWords Go.Proofs.Ytkjmjgiklelpiaa.Num Go.Proofs.Ytkjmjgiklelpiaa.WordC Go.Proofs.Ytkjmjgiklelpiaa.Arr Go.Proofs.Ytkjmjgiklelpiaa.App Go.Proofs.Ytkjmjgiklelpiaa.CiC Go.Proofs.Ytkjmjgiklelpiaa.CiD Go.Proofs.Ytkjmjgiklelpiaa.CiB Go.Proofs.Ytkjmjgiklelpiaa.CiK Go.Proofs.Ytkjmjgiklelpiaa.CiL Go.Proofs.Ytkjmjgiklelpiaa.Rz Go.Proofs.Ytkjmjgiklelpiaa.ItA
set_option linter.unusedVariables false
set_option linter.unusedSimpArgs false

/-! ### regions that hold no defer, in a round -/
def plainOps (ops : Array Oper) : Bool := ops.all fun o => match o.op with | .defer _ => false | _ => true
theorem plainOps_spec {ops : Array Oper} (h : plainOps ops = true) {i : Nat} {o : Oper} (ho : ops[i]? = some o) : ∀ c, o.op ≠ .defer c := by
  intro c e
  have hm := Array.mem_of_getElem? ho
  have h2 := (Array.all_eq_true_iff_forall_mem.1 h) o hm
  simp [e] at h2
/-- The post, but False where the machine is outgrown. -/
def NoOut (Q : Exit → Act → World → Prop) : Exit → Act → World → Prop
  | .outgrown, _, _ => False
  | e, a, w => Q e a w
theorem noOut_lets {Q : Exit → Act → World → Prop} (h : LetsOut (NoOut Q)) : False := by obtain ⟨_, _, h⟩ := h; exact h
theorem oper_in {P : Program} {l n : Nat} {o : Oper} {a : Act} {w : World} {K : Act → World → Prop} {Q : Exit → Act → World → Prop} (hd : ∀ c, o.op ≠ .defer c) (h : o.wp P a w K (NoOut Q)) : o.wpIn (Fence.wide.inRound l) n P a w K Q := by
  refine ⟨fun _ _ => trivial, ?_⟩
  show o.uponIn (Fence.wide.inRound l) n P a K Q ((o.semAt (some l) a.eval).run P w)
  rw [Oper.semAt_some l _ _ hd]
  unfold Oper.wp at h
  generalize (execOp a.eval o).run P w = r at h ⊢
  cases r with
  | ok x w' =>
    cases x with
    | value v => exact h
    | skip => exact h
    | defer d => exact h
    | enter f args =>
      refine ⟨(fun hn => by cases hn), CallsIn.inRound l (callsIn_wide.2 (Calls.mono (R := _) h ?_))⟩
      rintro e w'' he
      cases e with
      | returned v => exact he
      | panicked c => exact he
      | outgrown => exact (noOut_lets he).elim
    | row r args => exact ⟨(fun hn => by cases hn), fun c cs _ => by
        obtain ⟨v, w'', hr, hs⟩ := h c cs
        exact ⟨v, w'', hr, stepsIn_wide.2 hs⟩⟩
    | round l' f t x y => exact h.elim
    | _ => exact h
  | halt x w' => cases x <;> exact h
theorem list_in {P : Program} {l n : Nat} {ops : Array Oper} {Q : Exit → Act → World → Prop} : ∀ (os : List Oper) (a : Act) (w : World), (∀ o ∈ os, ∀ c, o.op ≠ .defer c) → wpList P ops (NoOut Q) os a w → wpListIn (Fence.wide.inRound l) n P ops Q os a w
  | [], a, w, _, h => h
  | o :: os, a, w, hd, h => by
    unfold wpList at h
    unfold wpListIn
    by_cases hw : Region.wanted o (yielded ops a.tmps) = true
    · rw [if_pos hw] at h ⊢
      rcases h with h | ⟨_, h⟩
      · exact oper_in (hd o (List.mem_cons_self)) (Oper.wp_mono (fun a w h => list_in os a w (fun o ho => hd o (List.mem_cons_of_mem _ ho)) h) h)
      · exact (noOut_lets h).elim
    · rw [if_neg hw] at h ⊢
      exact ⟨fun _ _ => trivial, list_in os _ w (fun o ho => hd o (List.mem_cons_of_mem _ ho)) h⟩
theorem region_in {P : Program} {l n id : Nat} {os : List Oper} {Q : Exit → Act → World → Prop} {a : Act} {w : World} (hd : plainOps os.toArray = true) (h : wpList P os.toArray (NoOut Q) os a w) : (Code.region id os.toArray false).wpIn (Fence.wide.inRound l) n P Q a w :=
  wpIn_region_lit (list_in os a w (fun o ho c => by
    obtain ⟨i, hi, rfl⟩ := List.mem_iff_getElem.1 ho
    exact plainOps_spec hd (i := i) (by simp [hi]) c) h)
theorem ops_in {P : Program} {l n : Nat} {ops : Array Oper} {Q : Exit → Act → World → Prop} (hd : plainOps ops = true) : ∀ (is : List Nat) (a : Act) (w : World), wpOps P ops (NoOut Q) is a w → wpOpsIn (Fence.wide.inRound l) n P ops Q is a w
  | [], a, w, h => h
  | i :: is, a, w, h => by
    unfold wpOps at h
    unfold wpOpsIn
    cases ho : ops[i]? with
    | none => rw [ho] at h; exact ops_in hd is a w h
    | some o =>
      rw [ho] at h
      simp only [] at h ⊢
      by_cases hw : Region.wanted o (yielded ops a.tmps) = true
      · rw [if_pos hw] at h ⊢
        rcases h with h | ⟨_, h⟩
        · exact oper_in (plainOps_spec hd ho) (Oper.wp_mono (fun a w h => ops_in hd is a w h) h)
        · exact (noOut_lets h).elim
      · rw [if_neg hw] at h ⊢
        exact ⟨fun _ _ => trivial, ops_in hd is _ w h⟩
theorem region_any_in {P : Program} {l n id : Nat} {ops : Array Oper} {Q : Exit → Act → World → Prop} {a : Act} {w : World} (hm : P.follows .mixedOrders = true) (hd : plainOps ops = true) (h : wpAny P .any ops (NoOut Q) ops.size (Array.replicate ops.size false) a w.drew) : (Code.region id ops true).wpIn (Fence.wide.inRound l) n P Q a w :=
  wpIn_region_draw fun t => by
    simp only [Region.schedule, hm, Bool.true_or, if_true]
    exact ops_in hd _ _ _ (wpAny_sound ops.size t _ a _ h)
/-- The stream: byte i of the blocks from a counter on. -/
def ks (G : List Int) (m : Int) (i : Nat) : Int := (blkS (G.set 12 (m + ((i / 64 : Nat) : Int)))).getD (i % 64) 0
/-- Bytes mixed, in their place, up to the i-th. -/
def mixT (f : Nat → Int) (b : List Int) : Nat → List Int
  | 0 => b
  | i + 1 => (mixT f b i).set i (Go.bits .xor .u8 ((mixT f b i).getD i 0) (f i))
theorem mixT_length (f : Nat → Int) (b : List Int) (i : Nat) : (mixT f b i).length = b.length := by
  induction i with
  | zero => rfl
  | succ i ih => simp [mixT, ih]
theorem xor_u8 {x y : Int} (hx : 0 ≤ x ∧ x < 256) (hy : 0 ≤ y ∧ y < 256) : 0 ≤ Go.bits .xor .u8 x y ∧ Go.bits .xor .u8 x y < 256 := by
  have h := wf_bits .xor .u8 x y
  exact wf_u8 h
theorem getDB {l : List Int} (h : IsB l) (i : Nat) : 0 ≤ l.getD i 0 ∧ l.getD i 0 < 256 := by
  rw [List.getD_eq_getElem?_getD]
  by_cases hi : i < l.length
  · rw [List.getElem?_eq_getElem hi]; exact h _ (List.getElem_mem hi)
  · rw [List.getElem?_eq_none (by omega)]; exact ⟨Int.le_refl _, by decide⟩
theorem mixT_isB {f : Nat → Int} {b : List Int} (hb : IsB b) (hf : ∀ i, 0 ≤ f i ∧ f i < 256) (i : Nat) : IsB (mixT f b i) := by
  induction i with
  | zero => exact hb
  | succ i ih =>
    intro y hy
    rcases List.mem_or_eq_of_mem_set hy with hy | rfl
    · exact ih y hy
    · exact xor_u8 (getDB ih i) (hf i)
theorem ks_isB (G : List Int) (m : Int) (i : Nat) : 0 ≤ ks G m i ∧ ks G m i < 256 := getDB (blkS_isB _) _
set_option maxHeartbeats 8000000 in
set_option maxRecDepth 100000 in
theorem Blocks_c {A B : Option Addr} {c d : Nat} {k o : List Int} {m : Int} {w : World} (hk : Rd w A 32 c k) (ho : Rd w B 12 d o) (bk : IsB k) (bo : IsB o) :
    Calls Try.prog 21 #[.slice A 32 c, .slice B 12 d, .int .u32 m] w fun e w' => ∃ gw gf go, e = .returned (.func (.func 46) #[] #[.pointer (some ⟨gw, 0, none⟩), .pointer (some ⟨gf, 0, none⟩), .pointer (some ⟨go, 0, none⟩)]) ∧
      Blk w' gw 65 (nums .u32 (g0S k o)) ∧ Blk w' gf 23 [.int .u32 m] ∧ Blk w' go 4 [.bool true] ∧ w.heap.size ≤ gw ∧ w.heap.size ≤ gf ∧ w.heap.size ≤ go ∧ Below w.heap.size w w' := by
  have HF : Aside0 (Blk (w.alloc (.cells #[.int .u32 m] 23)) w.heap.size 23 [.int .u32 m]) := ⟨heap_alloc_new _ _⟩
  have HB := Aside0.mk ((Below.refl w.heap.size w).alloc (Nat.le_refl _) (.cells #[.int .u32 m] 23))
  have HK := Aside0.mk (hk.alloc (.cells #[.int .u32 m] 23))
  have HO := Aside0.mk (ho.alloc (.cells #[.int .u32 m] 23))
  have hl32 := hk.len
  have hl12 := ho.len
  have hGl : Aside0 ((g0S k o).length = 16) := ⟨by have := gS_length k o 0 hl32 hl12; exact this⟩
  clear hk ho hl32 hl12
  go_enter Try.func21, Try.ntmps21
  go_wp2_with fail
  refine (begun_yes HK.out HO.out bk bo).mono ?_
  rintro x w1 ⟨rfl, hb1⟩
  have HB1 := Aside0.mk (below_next HB.out hb1)
  have HF1 := Aside0.mk (Blk.below HF.out hb1)
  obtain ⟨G, HGG⟩ : ∃ z, Aside0 (g0S k o = z) := ⟨_, ⟨rfl⟩⟩
  rw [HGG.out] at hGl ⊢
  have hX : Aside0 (Blk ((w1.alloc (.cells (nums .u32 (List.replicate 16 0)).toArray 65)).alloc (.cells #[.bool false] 4)) w1.heap.size 65 (nums .u32 (List.replicate 16 0))) := ⟨heap_alloc2_old _ _ _⟩
  have hY : Aside0 (Blk ((w1.alloc (.cells (nums .u32 (List.replicate 16 0)).toArray 65)).alloc (.cells #[.bool false] 4)) (w1.heap.size + 1) 4 [.bool false]) := ⟨heap_alloc2_new _ _ _⟩
  have HB2 := Aside0.mk ((HB1.out.alloc HB1.out.size (.cells (nums .u32 (List.replicate 16 0)).toArray 65)).alloc (by simp; exact Nat.le_trans HB1.out.size (by omega)) (.cells #[.bool false] 4))
  have HF2 := Aside0.mk (Blk.below' HF1.out (((Below.refl w1.heap.size w1).alloc (Nat.le_refl _) (.cells (nums .u32 (List.replicate 16 0)).toArray 65)).alloc (by simp) (.cells #[.bool false] 4)) (Blk.lt HF1.out))
  have hs1 := HB1.out.size
  clear hb1
  go_wp2_with (first
    | (refine store_arr rfl 65 (.tmp 7) (.tmp 13) rfl w1.heap.size .u32 G rfl rfl 65 16 _ hX.out size65 hGl.out (by rw [nums_length]; rfl) ?_; intro w3 hV hg3
       have HV := Aside0.mk hV
       have HB3 := Aside0.mk (HB2.out.grown hg3 HB2.out.size (fun k hk => by cases hk; exact hs1))
       have HY3 := Aside0.mk ((hg3.block _ (Blk.lt hY.out) (by intro e; injection e with e; omega)).trans hY.out)
       have HF3 := Aside0.mk ((hg3.block _ (Blk.lt HF2.out) (by intro e; injection e with e; have := Blk.lt HF1.out; omega)).trans HF2.out)
       have k4 : w3.cell? ⟨w1.heap.size + 1, 0, none⟩ = some (.bool false) := Blk.cell HY3.out 0
       have f4 := Blk.frozen HY3.out 0
       clear hV hg3))
  go_ret
  have hlt1 := Blk.lt HF1.out
  refine ⟨_, _, _, rfl, ?_, ?_, ?_, hs1, Nat.le_refl _, by omega, ?_⟩
  · rw [HGG.out]; exact Blk.far HV.out (p := ⟨w1.heap.size + 1, 0, none⟩) (by simp) _
  · exact Blk.far HF3.out (p := ⟨w1.heap.size + 1, 0, none⟩) (by simp; omega) _
  · exact Blk.set_ HY3.out 0 (.bool true)
  · exact HB3.out.setCell (p := ⟨w1.heap.size + 1, 0, none⟩) (by simp; omega) _
theorem retM {P : Program} {n : Nat} {fn : Func} {R : Ending → World → Prop} {a : Act} {w : World} {v : Value} (hd : a.defers = []) (hres : (results fn a.tmps).run P w = .ok v w) (h : R (.returned v) w) : bodyPostM Fence.wide n P fn R .ret a w := by
  show LeavesInM Fence.wide n P fn a.tmps R a.defers .returning w
  rw [hd]
  exact ⟨v, hres, h⟩
theorem retD {P : Program} {n D : Nat} {fn : Func} {R : Ending → World → Prop} {a : Act} {w : World} {v : Value} (hd : a.defers = [{ target := .collected D, args := #[] }]) (hK : w.heap[D]? = some (.deferred (some []))) (hres : (results fn a.tmps).run P (w.putObj D (.deferred none)) = .ok v (w.putObj D (.deferred none))) (h : R (.returned v) (w.putObj D (.deferred none))) : bodyPostM Fence.wide n P fn R .ret a w := by
  show LeavesInM Fence.wide n P fn a.tmps R a.defers .returning w
  rw [hd]
  exact ⟨by simp, .inl ⟨_, _, rfl, run_takeDeferred hK, ⟨v, hres, h⟩⟩⟩
theorem wpList_min {ops : Array Oper} {rest : List Oper} {o : Oper} {a : Act} {w : World} {Q : Exit → Act → World → Prop} (hgd : o.guard = none) (x y : Operand)
    (ho : o.op = .call { callee := .builtin .min, args := #[x, y], argTypes := #[3, 3] }) (p q : Int) (hx : a.eval x = .int .i64 p) (hy : a.eval y = .int .i64 q) (m : Int) (hm : (if q < p then q else p) = m)
    (h : wpList Try.prog ops Q rest (a.put o.dst (.int .i64 m)) w) : wpList Try.prog ops Q (o :: rest) a w :=
  wpList_plain hgd fun _ hK => by
    subst hm
    unfold Oper.wp
    simp [execOp, ho, resolve, invoke, builtin, hx, hy, Go.Proofs.YtkjmjgiklelpiaaW.PrintMore.min_two, Go.Proofs.YtkjmjgiklelpiaaW.PrintMore.min2_int, Result.andThen]
    exact hK _ _ h
theorem ow_cellN {w : World} {base g n cap : Nat} {l : List Int} (h : Ow w base (.slice (some ⟨g, 0, none⟩) n cap) l) (i : Nat) (hi : i < n) : w.cell? ⟨g, i, none⟩ = some (.int .u8 (l.getD i 0)) ∧ w.frozen? ⟨g, i, none⟩ = false := Kd.R_celln (0 : Int) h (i : Int) (by omega) (by omega)
theorem ow_putN {w : World} {base g n cap : Nat} {l : List Int} (h : Ow w base (.slice (some ⟨g, 0, none⟩) n cap) l) (i : Nat) (x : Int) : Ow (w.setCell ⟨g, i, none⟩ (.int .u8 x)) base (.slice (some ⟨g, 0, none⟩) n cap) (l.set i x) := Kd.R_putn h (i : Int) x
theorem ow_below' {A B : World} {N base g n c : Nat} {xs : List Int} (h : Ow A base (.slice (some ⟨g, 0, none⟩) n c) xs) (hb : Below N A B) (hg : g < N) : Ow B base (.slice (some ⟨g, 0, none⟩) n c) xs :=
  Kd.R_mono (Kd.R_step (Kd.R_tight rfl h) (fun k hk _ => hb.block k (by
    have : k = g := by simpa [Value.ownBlock] using hk
    omega))) (fun _ _ => trivial)
attribute [local go_sem] Oper.semAt_some
set_option maxHeartbeats 8000000 in
set_option maxRecDepth 100000 in
theorem Mix_c {A B C : Option Addr} {c d e n : Nat} {k o b : List Int} {m : Int} {w : World} (hk : Rd w A 32 c k) (ho : Rd w B 12 d o) (hb : Rd w C n e b) (bk : IsB k) (bo : IsB o) (bb : IsB b) (h0 : 0 ≤ m) (h1 : m < 4294967296) (hn : n ≤ 1000000) (hcap : (n : Int) ≤ (4294967296 - m) * 64) :
    Calls Try.prog 23 #[.slice A 32 c, .slice B 12 d, .int .u32 m, .slice C n e] w fun x w' => ∃ v, x = .returned (.tuple #[v, .int .i64 0]) ∧ Ow w' w.heap.size v (mixT (ks (g0S k o) m) b n) ∧ Below w.heap.size w w' := by
  have HK := Aside0.mk hk
  have HO := Aside0.mk ho
  have HBB := Aside0.mk hb
  have HW := Aside0.mk (Below.refl w.heap.size w)
  have HN : Aside0 (Ow w w.heap.size (.slice none 0 0) []) := ⟨Kd.R_nil _ _ _ _ _⟩
  have e1 : ((4294967296 : Int) - m) % 18446744073709551616 = 4294967296 - m := by omega
  have e2 : ((4294967296 - m) * 64 : Int) % 18446744073709551616 = (4294967296 - m) * 64 := by omega
  have e3 : (n : Int) % 18446744073709551616 = n := by omega
  have e4 : m % 18446744073709551616 = m := by omega
  have hc1 : ¬ (4294967296 - m) * 64 < (n : Int) := by omega
  clear hk ho hb
  refine callsIn_wide.1 (callsIn_of_wp_marks (n := 2) Try.func23 rfl trivial ?_)
  refine wpIn_wide.2 ?_
  simp only [Try.ntmps23, List.size_toArray, List.length_cons, List.length_nil, Nat.reduceAdd, Nat.reduceSub, Array.replicate_succ, Array.replicate_zero, List.push_toArray, List.append_toArray, List.nil_append, List.cons_append]
  have HLIT : Aside0 (Ow (w.alloc (.cells (nums .u8 []).toArray 5)) w.heap.size (.slice (some ⟨w.heap.size, 0, none⟩) 0 0) []) := ⟨Kd.R_of_own (own_lit w w.heap.size 5 .u8 [] (Nat.le_refl _) (by simp)) (fun _ _ => trivial)⟩
  have HBA := Aside0.mk ((Below.refl w.heap.size w).alloc (Nat.le_refl _) (.cells (nums .u8 []).toArray 5))
  have HBBA := Aside0.mk (HBB.out.alloc (.cells (nums .u8 []).toArray 5))
  have HKW := Aside0.mk HK.out
  by_cases hz : n = 0
  · subst hz
    go_wp2_with (first
      | (at_builtin; refine append_ow (w0 := w) w.heap.size rfl (.tmp 32) (.tmp 33) rfl (.slice (some ⟨w.heap.size, 0, none⟩) 0 0) [] b C 0 e rfl rfl HLIT.out HBBA.out HBA.out HBA.out.size (by simp) ?_; intro v1 w1 ho1 hb1 hg1 ha1; rw [List.nil_append] at ho1; have hlen := HBB.out.len; obtain ⟨A1, c1, rfl, r1⟩ := rd_of_own ho1; rw [hlen] at ho1 r1 ⊢; have HO1 := Aside0.mk ho1; have HB1 := Aside0.mk hb1; clear ho1 hb1 hg1 ha1 r1 hlen))
    refine retM (v := .tuple #[.slice A1 0 c1, .int .i64 0]) rfl (by simp [results, Try.results23, go_sem]) ?_
    exact ⟨_, rfl, Kd.R_alloc HO1.out _, HB1.out.alloc HB1.out.size _⟩
  · have hn0 : 0 < n := by omega
    have hz' : ¬ ((n : Int) = 0) := by omega
    go_wp2_with (first
      | (at_builtin; refine append_ow (w0 := w) w.heap.size rfl (.tmp 32) (.tmp 33) rfl (.slice (some ⟨w.heap.size, 0, none⟩) 0 0) [] b C n e rfl rfl HLIT.out HBBA.out HBA.out HBA.out.size (by simp; omega) ?_; intro v1 w1 ho1 hb1 hg1 ha1; rw [List.nil_append] at ho1; have hlen := HBB.out.len; obtain ⟨A1, c1, rfl, r1⟩ := rd_of_own ho1; rw [hlen] at ho1 r1 ⊢; have HO1 := Aside0.mk ho1; have HB1 := Aside0.mk hb1; clear ho1 hb1 hg1 ha1 r1 hlen))
    obtain ⟨gb, cap, hv, hb0, hb1, -⟩ := Kd.R_form HO1.out (by rw [HBB.out.len]; exact hn0)
    injection hv with hv1 hv2 hv3
    subst hv1 hv3
    have HR2 : Aside0 (Blk (w1.alloc (.cells #[.slice (some ⟨gb, 0, none⟩) n c1] 22)) w1.heap.size 22 [.slice (some ⟨gb, 0, none⟩) n c1]) := ⟨heap_alloc_new _ _⟩
    have HB2 := Aside0.mk (HB1.out.alloc HB1.out.size (.cells #[.slice (some ⟨gb, 0, none⟩) n c1] 22))
    have HO2 := Aside0.mk (Kd.R_alloc HO1.out (.cells #[.slice (some ⟨gb, 0, none⟩) n c1] 22))
    have hs1 := HB1.out.size
    have HL12 := Aside0.mk (show k.length = 32 ∧ o.length = 12 from ⟨HK.out.len, HO.out.len⟩)
    have HBL := Aside0.mk HBB.out.len
    refine (Blocks_c (m := m) (HK.out.below HB2.out) (HO.out.below HB2.out) bk bo).mono ?_
    generalize hW2 : w1.alloc (.cells #[.slice (some ⟨gb, 0, none⟩) n c1] 22) = w2 at HR2 HB2 HO2 ⊢
    have hs2 : w2.heap.size = w1.heap.size + 1 := by rw [← hW2]; simp
    rintro x w3 ⟨gw, gf, go, rfl, hgw, hgf, hgo, l1, l2, l3, hb3⟩
    have HB3 := Aside0.mk (below_next HB2.out hb3)
    have HR3 := Aside0.mk (Blk.below HR2.out hb3)
    have HO3 := Aside0.mk (Kd.R_below HO2.out hb3)
    have hs3 := hb3.size
    clear hb3 hW2
    go_wp2_with fail
    generalize hact : ({ tmps := _, defers := [] } : Act) = act
    obtain ⟨L, HL⟩ : ∃ L : Nat, Aside0 (b.length = L) := ⟨_, ⟨rfl⟩⟩
    have hbl := HBL.out
    subst hbl
    rw [HL.out] at hact hn0 hcap hn HO3 HR3
    clear hc1 e3
    obtain ⟨F, HF⟩ : ∃ F : Nat → Int, Aside0 (ks (g0S k o) m = F) := ⟨_, ⟨rfl⟩⟩
    have HACT := Aside0.mk hact
    have hfun : act.eval (.tmp 43) = .func (.func 46) #[] #[.pointer (some ⟨gw, 0, none⟩), .pointer (some ⟨gf, 0, none⟩), .pointer (some ⟨go, 0, none⟩)] := by rw [← hact]; rfl
    have hG16 : (g0S k o).length = 16 := by have := gS_length k o 0 HL12.out.1 HL12.out.2; exact this
    have hGW : IsW (g0S k o) := gS_isW HL12.out.1 HL12.out.2 bk bo (Int.le_refl 0) (by decide)
    have hseq := blocks_seq (n := 2 - 1) (ok := true) hgw hgf hgo hG16 hGW h0 h1
    rw [if_pos rfl] at hseq
    have hw3 : w2.heap.size ≤ w3.heap.size := hs3
    clear hact
    refine (wpIn_wide (n := 2)).1 ?_
    refine range_z (lb := #[.pointer (some ⟨gw, 0, none⟩), .pointer (some ⟨gf, 0, none⟩), .pointer (some ⟨go, 0, none⟩)]) hfun (enters_of Try.func46 (by kernel_rfl) rfl) (Blk.lt hgo) hseq (fun _ => rfl)
      (fun j W => 64 * j < L ∧ Aside0 (Ow W w.heap.size (.slice (some ⟨gb, 0, none⟩) L c1) (mixT F b (64 * j))) ∧ Aside0 (Blk W w1.heap.size 22 [.slice (some ⟨gb, 64 * j, none⟩) (L - 64 * j) (c1 - 64 * j)]) ∧ Below w.heap.size w W)
      (fun c j W => c = .exit 0 ∧ Aside0 (Ow W w.heap.size (.slice (some ⟨gb, 0, none⟩) L c1) (mixT F b L)) ∧ Below w.heap.size w W)
      ?hI ?hIx ?h0
      (fun j a' W => ∃ Bx, Aside0 (Blk W Bx 25 (nums .u8 (blkS ((g0S k o).set 12 (m + (j : Nat)))))) ∧ w3.heap.size ≤ Bx ∧ a' = { tmps := ((act.tmps.setIfInBounds 44 (.int .u32 (m + (j : Nat)))).setIfInBounds 45 (.agg (nums .u8 (blkS ((g0S k o).set 12 (m + (j : Nat))))).toArray)).setIfInBounds 13 (.pointer (some ⟨Bx, 0, none⟩)), defers := [] })
      ?hAx ?hassign ?hbody ?hdone ?hstop
    case hI =>
      rintro j X Y ⟨i1, i2, i3, i4⟩ hxy
      exact ⟨i1, ⟨ow_below' i2.out hxy (by omega)⟩, ⟨Blk.below' i3.out hxy (by omega)⟩, i4.trans (hxy.mono (by have := HB3.out.size; omega))⟩
    case hIx =>
      rintro c' j X Y ⟨i1, i2, i4⟩ hxy
      exact ⟨i1, ⟨ow_below' i2.out hxy (by omega)⟩, i4.trans (hxy.mono (by have := HB3.out.size; omega))⟩
    case h0 => exact ⟨by omega, HO3, HR3, HB3.out⟩
    case hAx =>
      rintro x a' W l r o' ⟨Bx, hB, hge, rfl⟩ hl
      refine ⟨Bx, ⟨(World.putObj_heap_other (fun e => ?_)).trans hB.out⟩, hge, rfl⟩
      subst e
      have h9 := hl.symm.trans (show W.heap[Bx]? = some (Obj.cells _ 25 (0, 0)) from hB.out)
      cases h9
    case hassign =>
      intro l j W K hi hle hK
      have hs64 : Aside0 ((blkS ((g0S k o).set 12 (m + (j : Nat)))).length = 64) := ⟨blkS_length _⟩
      have hzip : (#[44, 45].zip (encB (g0S k o) m j)).foldl (fun t x => match x with | (p, v) => t.setIfInBounds p v) act.tmps = (act.tmps.setIfInBounds 44 (.int .u32 (m + (j : Nat)))).setIfInBounds 45 (.agg (nums .u8 (blkS ((g0S k o).set 12 (m + (j : Nat))))).toArray) := by simp [encB]
      rw [hzip]
      obtain ⟨S, HS⟩ : ∃ z, Aside0 (blkS ((g0S k o).set 12 (m + (j : Nat))) = z) := ⟨_, ⟨rfl⟩⟩
      rw [HS.out] at hs64 hK ⊢
      have HX0 : Aside0 (Blk (W.alloc (.cells (nums .u8 (List.replicate 64 0)).toArray 25)) W.heap.size 25 (nums .u8 (List.replicate 64 0))) := ⟨heap_alloc_new _ _⟩
      have HBW := Aside0.mk ((Below.refl W.heap.size W).alloc (Nat.le_refl _) (.cells (nums .u8 (List.replicate 64 0)).toArray 25))
      have hK' := Aside0.mk hK
      have hi' := Aside0.mk hi
      clear hK hi hzip
      obtain rfl := HACT.out
      clear HACT
      simp only [List.setIfInBounds_toArray, List.set_cons_zero, List.set_cons_succ]
      refine region_in (by kernel_rfl) ?_
      go_wp2_with (first
        | (refine store_arr rfl 25 (.tmp 13) (.tmp 45) rfl W.heap.size .u8 S rfl rfl 25 64 _ HX0.out size25 hs64.out (by rw [nums_length]; rfl) ?_; intro w4 hV hg4
           have HV := Aside0.mk hV
           have HB4 := Aside0.mk (HBW.out.grown hg4 HBW.out.size (fun k hk => by cases hk; exact Nat.le_refl _))
           clear hV hg4))
      have hbw : Below w3.heap.size W w4 := HB4.out.mono hle
      obtain ⟨i1, i2, i3, i4⟩ := hi'.out
      refine hK'.out _ _ ((KZ.refl _ _ _).next HB4.out) ⟨i1, ⟨ow_below' i2.out hbw (by omega)⟩, ⟨Blk.below' i3.out hbw (by omega)⟩, i4.trans (hbw.mono (by have := HB3.out.size; omega))⟩ ⟨W.heap.size, HV, hle, ?_⟩
      simp only [List.setIfInBounds_toArray, List.set_cons_zero, List.set_cons_succ]
    case hbody =>
      rintro l j a' W ⟨i1, i2, i3, i4⟩ ⟨Bx, hX, hge, rfl⟩ hj hle
      obtain rfl := HACT.out
      clear HACT
      simp only [List.setIfInBounds_toArray, List.set_cons_zero, List.set_cons_succ]
      obtain ⟨T, hT⟩ : ∃ T : Nat, T = min 64 (L - 64 * j) := ⟨_, rfl⟩
      have hmin : (if ((L - 64 * j : Nat) : Int) < 64 then ((L - 64 * j : Nat) : Int) else 64) = (T : Int) := by split <;> omega
      have kr : W.cell? ⟨w1.heap.size, 0, none⟩ = some (.slice (some ⟨gb, 64 * j, none⟩) (L - 64 * j) (c1 - 64 * j)) := Blk.cell i3.out 0
      have HT : Aside0 (T = min 64 (L - 64 * j)) := ⟨hT⟩
      clear hT
      refine wpIn_block ?_
      refine wpIn_seq ?_
      refine region_in (by kernel_rfl) ?_
      go_wp2_with (first
        | (at_builtin; refine wpList_min rfl (.const (.int .i64 64)) (.tmp 47) rfl 64 ((L - 64 * j : Nat) : Int) rfl rfl (T : Int) hmin ?_))
      simp only [NoOut, Exit.then]
      gi_wp2
      gi_loopw [50] (fun i wr => ∃ t : Nat, t ≤ T ∧ i = .int .i64 t ∧ Aside0 (Ow wr w.heap.size (.slice (some ⟨gb, 0, none⟩) L c1) (mixT F b (64 * j + t))) ∧ Aside0 (Blk wr Bx 25 (nums .u8 (blkS ((g0S k o).set 12 (m + (j : Nat)))))) ∧ KZ w3.heap.size go W wr ∧ Aside0 (Blk wr w1.heap.size 22 [.slice (some ⟨gb, 64 * j, none⟩) (L - 64 * j) (c1 - 64 * j)]) ∧ Below w.heap.size w wr) (fun i _ => T - (intOf i).toNat)
      case atStart => exact ⟨0, by omega, rfl, i2, hX, KZ.refl _ _ _, i3, i4⟩
      case round =>
        obtain ⟨t, ht, rfl, q2, qX, qK, q3, q4⟩ := hrel
        have hTv := HT.out
        by_cases hlt : t < T
        · have hlt' : (t : Int) < (T : Int) := by omega
          have hb1' : (t : Int) < ((L - 64 * j : Nat) : Int) := by omega
          have hb2' : (t : Int) < 64 := by omega
          have kr2 : wr.cell? ⟨w1.heap.size, 0, none⟩ = some (.slice (some ⟨gb, 64 * j, none⟩) (L - 64 * j) (c1 - 64 * j)) := Blk.cell q3.out 0
          obtain ⟨kx, fx⟩ := ow_cellN q2.out (64 * j + t) (by omega)
          have ky : wr.cell? ⟨Bx, t, none⟩ = some (.int .u8 ((blkS ((g0S k o).set 12 (m + (j : Nat)))).getD t 0)) := blk_num qX.out t (by rw [blkS_length]; omega)
          have hnx : Aside0 (mixT F b (64 * j + (t + 1)) = (mixT F b (64 * j + t)).set (64 * j + t) (Go.bits .xor .u8 ((mixT F b (64 * j + t)).getD (64 * j + t) 0) ((blkS ((g0S k o).set 12 (m + (j : Nat)))).getD t 0))) := ⟨by
            have hf : F (64 * j + t) = (blkS ((g0S k o).set 12 (m + (j : Nat)))).getD t 0 := by
              rw [← HF.out]; unfold ks
              rw [show (64 * j + t) / 64 = j by omega, show (64 * j + t) % 64 = t by omega]
            rw [← hf]; rfl⟩
          obtain ⟨x, HXX⟩ : ∃ z, Aside0 ((mixT F b (64 * j + t)).getD (64 * j + t) 0 = z) := ⟨_, ⟨rfl⟩⟩
          obtain ⟨y, HYY⟩ : ∃ z, Aside0 ((blkS ((g0S k o).set 12 (m + (j : Nat)))).getD t 0 = z) := ⟨_, ⟨rfl⟩⟩
          rw [HXX.out] at kx hnx
          rw [HYY.out] at ky hnx
          clear hTv
          gi_wp2
          have R1 : Aside0 (Ow (wr.setCell ⟨gb, 64 * j + t, none⟩ (.int .u8 (Go.bits .xor .u8 x y))).drew w.heap.size (.slice (some ⟨gb, 0, none⟩) L c1) (mixT F b (64 * j + (t + 1)))) := ⟨by rw [hnx.out]; exact Kd.R_drew (ow_putN q2.out (64 * j + t) _)⟩
          have R2 : Aside0 (Blk (wr.setCell ⟨gb, 64 * j + t, none⟩ (.int .u8 (Go.bits .xor .u8 x y))).drew Bx 25 (nums .u8 (blkS ((g0S k o).set 12 (m + (j : Nat)))))) := ⟨Blk.far qX.out (p := ⟨gb, 64 * j + t, none⟩) (by simp; omega) _⟩
          have R3 : KZ w3.heap.size go W (wr.setCell ⟨gb, 64 * j + t, none⟩ (.int .u8 (Go.bits .xor .u8 x y))).drew := (qK.setCell (g := gb) (by omega) (by omega) (64 * j + t) _).drew
          have R4 : Aside0 (Blk (wr.setCell ⟨gb, 64 * j + t, none⟩ (.int .u8 (Go.bits .xor .u8 x y))).drew w1.heap.size 22 [.slice (some ⟨gb, 64 * j, none⟩) (L - 64 * j) (c1 - 64 * j)]) := ⟨Blk.far q3.out (p := ⟨gb, 64 * j + t, none⟩) (by simp; omega) _⟩
          have R5 : Below w.heap.size w (wr.setCell ⟨gb, 64 * j + t, none⟩ (.int .u8 (Go.bits .xor .u8 x y))).drew := (q4.setCell (p := ⟨gb, 64 * j + t, none⟩) hb0 _).drew
          refine region_any_in (by kernel_rfl) (by kernel_rfl) ?_
          refine wpAny_take (i := 1) (v := ?_) (List.getElem?_toArray.trans rfl) (by kernel_rfl) (by kernel_rfl) (by kernel_rfl) (fun _ _ _ h => h) (Or.inl ⟨by rfl, ?_⟩) ?_
          rotate_left
          · (intro w; go_simp; try with_reducible rfl)
          (try simp only [Act.put, List.setIfInBounds_toArray, List.set_cons_zero, List.set_cons_succ])
          refine wpAny_take (i := 4) (v := ?_) (List.getElem?_toArray.trans rfl) (by kernel_rfl) (by kernel_rfl) (by kernel_rfl) (fun _ _ _ h => h) (Or.inl ⟨by rfl, ?_⟩) ?_
          rotate_left
          · (intro w; go_simp; try with_reducible rfl)
          (try simp only [Act.put, List.setIfInBounds_toArray, List.set_cons_zero, List.set_cons_succ])
          refine wpAny_take (i := 5) (v := ?_) (List.getElem?_toArray.trans rfl) (by kernel_rfl) (by kernel_rfl) (by kernel_rfl) (fun _ _ _ h => h) (Or.inl ⟨by rfl, ?_⟩) ?_
          rotate_left
          · (intro w; go_simp; try with_reducible rfl)
          (try simp only [Act.put, List.setIfInBounds_toArray, List.set_cons_zero, List.set_cons_succ])
          refine wpAny_ready (rs := [0, 6]) (by kernel_rfl) (by simp) (AllReady.cons (List.getElem?_toArray.trans rfl) (fun K hK => ?_) (AllReady.cons (List.getElem?_toArray.trans rfl) (fun K hK => ?_) AllReady.nil))
          · go_simp
            refine hK _ _ ?_
            clear hK K
            (try simp only [Act.put, List.setIfInBounds_toArray, List.set_cons_zero, List.set_cons_succ])
            refine wpAny_take (i := 2) (v := ?_) (List.getElem?_toArray.trans rfl) (by kernel_rfl) (by kernel_rfl) (by kernel_rfl) (fun _ _ _ h => h) (Or.inl ⟨by rfl, ?_⟩) ?_
            rotate_left
            · (intro w; go_simp; try with_reducible rfl)
            (try simp only [Act.put, List.setIfInBounds_toArray, List.set_cons_zero, List.set_cons_succ])
            refine wpAny_ready (rs := [3, 6]) (by kernel_rfl) (by simp) (AllReady.cons (List.getElem?_toArray.trans rfl) (fun K hK => ?_) (AllReady.cons (List.getElem?_toArray.trans rfl) (fun K hK => ?_) AllReady.nil))
            · go_simp
              refine hK _ _ ?_
              clear hK K
              (try simp only [Act.put, List.setIfInBounds_toArray, List.set_cons_zero, List.set_cons_succ])
              refine wpAny_ready (rs := [6]) (by kernel_rfl) (by simp) (AllReady.cons (List.getElem?_toArray.trans rfl) (fun K hK => ?_) AllReady.nil)
              go_simp
              refine hK _ _ ?_
              clear hK K
              (try simp only [Act.put, List.setIfInBounds_toArray, List.set_cons_zero, List.set_cons_succ])
              refine wpAny_take (i := 7) (v := ?_) (List.getElem?_toArray.trans rfl) (by kernel_rfl) (by kernel_rfl) (by kernel_rfl) (fun _ _ _ h => h) (Or.inl ⟨by rfl, ?_⟩) ?_
              rotate_left
              · (intro w; go_simp; try with_reducible rfl)
              (try simp only [Act.put, List.setIfInBounds_toArray, List.set_cons_zero, List.set_cons_succ])
              refine wpAny_take (i := 8) (v := ?_) (List.getElem?_toArray.trans rfl) (by kernel_rfl) (by kernel_rfl) (by kernel_rfl) (fun _ _ _ h => h) (Or.inl ⟨by rfl, ?_⟩) ?_
              rotate_left
              · (intro w; go_simp; try with_reducible rfl)
              (try simp only [Act.put, List.setIfInBounds_toArray, List.set_cons_zero, List.set_cons_succ])
              refine wpAny_ready (rs := [9]) (by kernel_rfl) (by simp) (AllReady.cons (List.getElem?_toArray.trans rfl) (fun K hK => ?_) AllReady.nil)
              go_simp
              refine hK _ _ ?_
              clear hK K
              (try simp only [Act.put, List.setIfInBounds_toArray, List.set_cons_zero, List.set_cons_succ])
              refine wpAny_done (by kernel_rfl) ?_ _
              (simp only [NoOut]; gi_wp2; go_roundw; (case rel => exact ⟨t + 1, by omega, by go_num, R1, R2, R3, R4, R5⟩); (case measure => simp [intOf]; omega))
            · go_simp
              refine hK _ _ ?_
              clear hK K
              (try simp only [Act.put, List.setIfInBounds_toArray, List.set_cons_zero, List.set_cons_succ])
              refine wpAny_ready (rs := [3]) (by kernel_rfl) (by simp) (AllReady.cons (List.getElem?_toArray.trans rfl) (fun K hK => ?_) AllReady.nil)
              go_simp
              refine hK _ _ ?_
              clear hK K
              (try simp only [Act.put, List.setIfInBounds_toArray, List.set_cons_zero, List.set_cons_succ])
              refine wpAny_take (i := 7) (v := ?_) (List.getElem?_toArray.trans rfl) (by kernel_rfl) (by kernel_rfl) (by kernel_rfl) (fun _ _ _ h => h) (Or.inl ⟨by rfl, ?_⟩) ?_
              rotate_left
              · (intro w; go_simp; try with_reducible rfl)
              (try simp only [Act.put, List.setIfInBounds_toArray, List.set_cons_zero, List.set_cons_succ])
              refine wpAny_take (i := 8) (v := ?_) (List.getElem?_toArray.trans rfl) (by kernel_rfl) (by kernel_rfl) (by kernel_rfl) (fun _ _ _ h => h) (Or.inl ⟨by rfl, ?_⟩) ?_
              rotate_left
              · (intro w; go_simp; try with_reducible rfl)
              (try simp only [Act.put, List.setIfInBounds_toArray, List.set_cons_zero, List.set_cons_succ])
              refine wpAny_ready (rs := [9]) (by kernel_rfl) (by simp) (AllReady.cons (List.getElem?_toArray.trans rfl) (fun K hK => ?_) AllReady.nil)
              go_simp
              refine hK _ _ ?_
              clear hK K
              (try simp only [Act.put, List.setIfInBounds_toArray, List.set_cons_zero, List.set_cons_succ])
              refine wpAny_done (by kernel_rfl) ?_ _
              (simp only [NoOut]; gi_wp2; go_roundw; (case rel => exact ⟨t + 1, by omega, by go_num, R1, R2, R3, R4, R5⟩); (case measure => simp [intOf]; omega))
          · go_simp
            refine hK _ _ ?_
            clear hK K
            (try simp only [Act.put, List.setIfInBounds_toArray, List.set_cons_zero, List.set_cons_succ])
            refine wpAny_ready (rs := [0]) (by kernel_rfl) (by simp) (AllReady.cons (List.getElem?_toArray.trans rfl) (fun K hK => ?_) AllReady.nil)
            go_simp
            refine hK _ _ ?_
            clear hK K
            (try simp only [Act.put, List.setIfInBounds_toArray, List.set_cons_zero, List.set_cons_succ])
            refine wpAny_take (i := 2) (v := ?_) (List.getElem?_toArray.trans rfl) (by kernel_rfl) (by kernel_rfl) (by kernel_rfl) (fun _ _ _ h => h) (Or.inl ⟨by rfl, ?_⟩) ?_
            rotate_left
            · (intro w; go_simp; try with_reducible rfl)
            (try simp only [Act.put, List.setIfInBounds_toArray, List.set_cons_zero, List.set_cons_succ])
            refine wpAny_ready (rs := [3]) (by kernel_rfl) (by simp) (AllReady.cons (List.getElem?_toArray.trans rfl) (fun K hK => ?_) AllReady.nil)
            go_simp
            refine hK _ _ ?_
            clear hK K
            (try simp only [Act.put, List.setIfInBounds_toArray, List.set_cons_zero, List.set_cons_succ])
            refine wpAny_take (i := 7) (v := ?_) (List.getElem?_toArray.trans rfl) (by kernel_rfl) (by kernel_rfl) (by kernel_rfl) (fun _ _ _ h => h) (Or.inl ⟨by rfl, ?_⟩) ?_
            rotate_left
            · (intro w; go_simp; try with_reducible rfl)
            (try simp only [Act.put, List.setIfInBounds_toArray, List.set_cons_zero, List.set_cons_succ])
            refine wpAny_take (i := 8) (v := ?_) (List.getElem?_toArray.trans rfl) (by kernel_rfl) (by kernel_rfl) (by kernel_rfl) (fun _ _ _ h => h) (Or.inl ⟨by rfl, ?_⟩) ?_
            rotate_left
            · (intro w; go_simp; try with_reducible rfl)
            (try simp only [Act.put, List.setIfInBounds_toArray, List.set_cons_zero, List.set_cons_succ])
            refine wpAny_ready (rs := [9]) (by kernel_rfl) (by simp) (AllReady.cons (List.getElem?_toArray.trans rfl) (fun K hK => ?_) AllReady.nil)
            go_simp
            refine hK _ _ ?_
            clear hK K
            (try simp only [Act.put, List.setIfInBounds_toArray, List.set_cons_zero, List.set_cons_succ])
            refine wpAny_done (by kernel_rfl) ?_ _
            (simp only [NoOut]; gi_wp2; go_roundw; (case rel => exact ⟨t + 1, by omega, by go_num, R1, R2, R3, R4, R5⟩); (case measure => simp [intOf]; omega))
        · have hge : ¬ (t : Int) < (T : Int) := by omega
          obtain rfl : t = T := by omega
          have kr2 : wr.cell? ⟨w1.heap.size, 0, none⟩ = some (.slice (some ⟨gb, 64 * j, none⟩) (L - 64 * j) (c1 - 64 * j)) := Blk.cell q3.out 0
          have fr2 := Blk.frozen q3.out 0
          have hc1L := (Kd.R_reads' q2.out).2.1
          obtain ⟨ix, hix, hsx⟩ := infoX
          have hcut := cut_from (P := Try.prog) 22 5 .i64 Try.underlying22 hix 1 hsx (some ⟨gb, 64 * j, none⟩) (L - 64 * j) (c1 - 64 * j) (t : Int) (by omega) (by omega)
          simp only [Int.toNat_natCast] at hcut
          obtain ⟨A9, HA9⟩ : ∃ z : Option Addr, Aside0 ((if c1 - 64 * j = t then some ⟨gb, 64 * j, none⟩ else Option.map (fun x : Addr => x.add (t * 1)) (some (⟨gb, 64 * j, none⟩ : Addr))) = z) := ⟨_, ⟨rfl⟩⟩
          rw [HA9.out] at hcut
          have B1 : Below w.heap.size w (wr.setCell ⟨w1.heap.size, 0, none⟩ (.slice A9 (L - 64 * j - t) (c1 - 64 * j - t))) := q4.setCell (p := ⟨w1.heap.size, 0, none⟩) hs1 _
          have K1 : KZ w3.heap.size go W (wr.setCell ⟨w1.heap.size, 0, none⟩ (.slice A9 (L - 64 * j - t) (c1 - 64 * j - t))) := qK.setCell (g := w1.heap.size) (by omega) (by omega) 0 _
          have O1 : Ow (wr.setCell ⟨w1.heap.size, 0, none⟩ (.slice A9 (L - 64 * j - t) (c1 - 64 * j - t))) w.heap.size (.slice (some ⟨gb, 0, none⟩) L c1) (mixT F b (64 * j + t)) := Kd.R_mono (Kd.R_step (Kd.R_tight rfl q2.out) (fun k hk _ => Below.heap_setCell wr _ _ k (by
            have : k = gb := by simpa [Value.ownBlock] using hk
            show k ≠ w1.heap.size
            omega))) (fun _ _ => trivial)
          have Z1 : Blk (wr.setCell ⟨w1.heap.size, 0, none⟩ (.slice A9 (L - 64 * j - t) (c1 - 64 * j - t))) w1.heap.size 22 [.slice A9 (L - 64 * j - t) (c1 - 64 * j - t)] := Blk.set_ q3.out 0 _
          have PB := Aside0.mk B1
          have PK := Aside0.mk K1
          have PO := Aside0.mk O1
          have PZ := Aside0.mk Z1
          clear B1 K1 O1 Z1 hTv
          by_cases hend : L - 64 * j ≤ 64
          · have ht' : t = L - 64 * j := by have := HT.out; omega
            have hz0 : L - 64 * j - t = 0 := by omega
            have hz1 : (((L - 64 * j - t : Nat) : Int) == 0) = true := by rw [hz0]; rfl
            have HFIN : Aside0 (64 * j + t = L) := ⟨by omega⟩
            rw [HFIN.out] at PO
            clear ht'
            gi_wp2
            rw [hz0] at PB PK PO
            exact ⟨PK.out, rfl, PO, PB.out⟩
          · have hz0 : ¬ (L - 64 * j - t = 0) := by have := HT.out; omega
            have hz1 : (((L - 64 * j - t : Nat) : Int) == 0) = false := by rw [beq_eq_false_iff_ne]; omega
            have HA9' : Aside0 (A9 = some ⟨gb, 64 * (j + 1), none⟩) := ⟨by
              rw [← HA9.out, if_neg (by have := HT.out; omega)]
              have e9 : 64 * j + t * 1 = 64 * (j + 1) := by have := HT.out; omega
              simp only [Option.map_some, Addr.add_mid]
              rw [e9]⟩
            have HT64 : Aside0 (t = 64) := ⟨by have := HT.out; omega⟩
            gi_wp2
            have ht64 := HT64.out
            have hA9' := HA9'.out
            refine ⟨PK.out, by omega, ⟨by rw [show 64 * (j + 1) = 64 * j + t by omega]; exact PO.out⟩, ⟨?_⟩, PB.out⟩
            have h9 := PZ.out
            rw [show L - 64 * (j + 1) = L - 64 * j - t by omega, show c1 - 64 * (j + 1) = c1 - 64 * j - t by omega, ← hA9']
            exact h9
    case hdone =>
      rintro D W hD ⟨i1, _⟩ _
      exfalso
      omega
    case hstop =>
      rintro D c' j W hD hj ⟨rfl, ho, hb⟩ hKD
      obtain rfl := HACT.out
      clear HACT
      refine wpIn_wide.2 ?_
      go_wp2_with fail
      refine retD (v := .tuple #[.slice (some ⟨gb, 0, none⟩) L c1, .int .i64 0]) rfl hKD (by simp [results, Try.results23, go_sem]) ?_
      rw [HF.out, HL.out]
      exact ⟨_, rfl, ow_below' ho.out (below_put _ hD) (by omega), hb.trans ((below_put _ hD).mono (by have := HB3.out.size; omega))⟩
end Go.Proofs.Ytkjmjgiklelpiaa.MxA
/- cipher.Mix that gives nothing; the document's Mix. -/
namespace Go.Proofs.Ytkjmjgiklelpiaa.MxB
open Go.RowKit Go.Proofs.YtkjmjgiklelpiaaW.PrintWords Go.Proofs.Ytkjmjgiklelpiaa.Num Go.Proofs.Ytkjmjgiklelpiaa.WordC Go.Proofs.Ytkjmjgiklelpiaa.Arr Go.Proofs.Ytkjmjgiklelpiaa.App Go.Proofs.Ytkjmjgiklelpiaa.CiC Go.Proofs.Ytkjmjgiklelpiaa.CiD Go.Proofs.Ytkjmjgiklelpiaa.CiB Go.Proofs.Ytkjmjgiklelpiaa.CiK Go.Proofs.Ytkjmjgiklelpiaa.CiL Go.Proofs.Ytkjmjgiklelpiaa.CiM Go.Proofs.Ytkjmjgiklelpiaa.Rz Go.Proofs.Ytkjmjgiklelpiaa.ItA Go.Proofs.Ytkjmjgiklelpiaa.MxA
set_option linter.unusedVariables false
set_option linter.unusedSimpArgs false

set_option maxHeartbeats 8000000 in
set_option maxRecDepth 100000 in
theorem Mix_cap {A B C : Option Addr} {c d e n : Nat} {m : Int} {w : World} (h0 : 0 ≤ m) (h1 : m < 4294967296) (hn : n ≤ 1000000) (hcap : ¬ (n : Int) ≤ (4294967296 - m) * 64) :
    Calls Try.prog 23 #[.slice A 32 c, .slice B 12 d, .int .u32 m, .slice C n e] w fun x w' => x = .returned (.tuple #[.slice none 0 0, .int .i64 10]) ∧ w' = w := by
  have e1 : ((4294967296 : Int) - m) % 18446744073709551616 = 4294967296 - m := by omega
  have e2 : ((4294967296 - m) * 64 : Int) % 18446744073709551616 = (4294967296 - m) * 64 := by omega
  have e3 : (n : Int) % 18446744073709551616 = n := by omega
  have e4 : m % 18446744073709551616 = m := by omega
  have hc1 : (4294967296 - m) * 64 < (n : Int) := by omega
  refine callsIn_wide.1 (callsIn_of_wp_marks (n := 2) Try.func23 rfl trivial ?_)
  refine wpIn_wide.2 ?_
  simp only [Try.ntmps23, List.size_toArray, List.length_cons, List.length_nil, Nat.reduceAdd, Nat.reduceSub, Array.replicate_succ, Array.replicate_zero, List.push_toArray, List.append_toArray, List.nil_append, List.cons_append]
  go_wp2_with fail
  refine retM (v := .tuple #[.slice none 0 0, .int .i64 10]) rfl (by simp [results, Try.results23, go_sem]) ⟨rfl, rfl⟩
/-! ### the document's -/
theorem set_mid (X Y : List Int) (v : Int) (h : X.length = 12) : (X ++ [0] ++ Y).set 12 v = X ++ [v] ++ Y := by
  rw [List.append_assoc, List.set_append_right _ _ (by omega), h]
  simp
theorem ks_cha {k o : List Int} {m : Int} (hk : k.length = 32) (ho : o.length = 12) (i : Nat) : ks (g0S k o) m i = (chaS k o (m + ((i / 64 : Nat) : Int))).getD (i % 64) 0 := by
  have h : (g0S k o).set 12 (m + ((i / 64 : Nat) : Int)) = gS k o (m + ((i / 64 : Nat) : Int)) := by
    unfold g0S gS
    have h8 := ws_length 8 k hk
    have h4 : c4.length = 4 := rfl
    exact set_mid (c4 ++ ws k) (ws o) _ (by rw [List.length_append, h4, h8])
  unfold ks chaS
  rw [h]
/-- The bytes, appended one by one. -/
def mixR (f : Nat → Int) (b : List Int) : Nat → List Int
  | 0 => []
  | i + 1 => mixR f b i ++ [Go.bits .xor .u8 (b.getD i 0) (f i)]
theorem mixR_length (f : Nat → Int) (b : List Int) (i : Nat) : (mixR f b i).length = i := by
  induction i with
  | zero => rfl
  | succ i ih => simp [mixR, ih]
theorem mixT_get (f : Nat → Int) (b : List Int) (i j : Nat) (hi : i ≤ b.length) : (mixT f b i).getD j 0 = if j < i then Go.bits .xor .u8 (b.getD j 0) (f j) else b.getD j 0 := by
  induction i with
  | zero => rfl
  | succ i ih =>
    simp only [mixT]
    rw [List.getD_eq_getElem?_getD]
    by_cases h : i = j
    · subst h
      have h2 := ih (by omega)
      rw [if_neg (by omega)] at h2
      rw [List.getElem?_set_self (by rw [mixT_length]; omega), Option.getD_some, if_pos (by omega), h2]
    · rw [List.getElem?_set_ne h, ← List.getD_eq_getElem?_getD, ih (by omega)]
      by_cases h2 : j < i
      · rw [if_pos h2, if_pos (by omega)]
      · rw [if_neg h2, if_neg (by omega)]
theorem mixR_get (f : Nat → Int) (b : List Int) (i j : Nat) (hj : j < i) : (mixR f b i).getD j 0 = Go.bits .xor .u8 (b.getD j 0) (f j) := by
  induction i with
  | zero => omega
  | succ i ih =>
    simp only [mixR]
    rw [List.getD_eq_getElem?_getD]
    by_cases h : j < i
    · rw [List.getElem?_append_left (by rw [mixR_length]; exact h), ← List.getD_eq_getElem?_getD]; exact ih h
    · obtain rfl : j = i := by omega
      rw [List.getElem?_append_right (by rw [mixR_length]; omega), mixR_length, Nat.sub_self]
      rfl
theorem mixR_eq (f : Nat → Int) (b : List Int) : mixR f b b.length = mixT f b b.length := by
  apply List.ext_getElem
  · rw [mixR_length, mixT_length]
  · intro i h1 h2
    have e1 := mixR_get f b b.length i (by rw [mixR_length] at h1; exact h1)
    have e2 := mixT_get f b b.length i (Nat.le_refl _)
    rw [if_pos (by rw [mixR_length] at h1; exact h1), ← e1] at e2
    rw [List.getD_eq_getElem?_getD, List.getElem?_eq_getElem h2, List.getD_eq_getElem?_getD, List.getElem?_eq_getElem h1] at e2
    exact e2.symm
theorem ow_ltM {w : World} {base : Nat} {u : Value} {xs : List Int} (h : Ow w base u xs) : ∀ k, u.ownBlock = some k → k < w.heap.size := fun k hk => by
  obtain ⟨inner, hi⟩ := Kd.R_own h
  exact own_lt hi k hk
theorem ow_geM {w : World} {base : Nat} {u : Value} {xs : List Int} (h : Ow w base u xs) : ∀ k, u.ownBlock = some k → base ≤ k := fun k hk => by
  obtain ⟨inner, hi⟩ := Kd.R_own h
  exact own_base hi k hk
theorem one_BM (w : World) (x : Int) : Rd (w.alloc (.cells (nums .u8 [x]).toArray 5)) (some ⟨w.heap.size, 0, none⟩) 1 1 [x] := by
  have h : Ow (w.alloc (.cells (nums .u8 [x]).toArray 5)) 0 (.slice (some ⟨w.heap.size, 0, none⟩) 1 1) [x] := Kd.R_of_own (own_lit w 0 5 .u8 [x] (Nat.zero_le _) (by simp)) (fun _ _ => trivial)
  obtain ⟨A, c, e, hr⟩ := rd_of_own h
  injection e with e1 e2 e3
  subst e1 e3
  exact hr
set_option maxHeartbeats 8000000 in
set_option maxRecDepth 100000 in
theorem refMix_c {A B C : Option Addr} {c d e n : Nat} {k o b : List Int} {m : Int} {w : World} (hk : Rd w A 32 c k) (ho : Rd w B 12 d o) (hb : Rd w C n e b) (bk : IsB k) (bo : IsB o) (bb : IsB b) (h0 : 0 ≤ m) (h1 : m < 4294967296) (hn : n ≤ 1000000) (hcap : (n : Int) ≤ (4294967296 - m) * 64) :
    Calls Try.prog 24 #[.slice A 32 c, .slice B 12 d, .int .u32 m, .slice C n e] w fun x w' => ∃ v, x = .returned (.tuple #[v, .int .i64 0]) ∧ Ow w' w.heap.size v (mixT (ks (g0S k o) m) b n) ∧ Below w.heap.size w w' := by
  have HK := Aside0.mk hk
  have HO := Aside0.mk ho
  have HB := Aside0.mk hb
  have HL := Aside0.mk (show k.length = 32 ∧ o.length = 12 from ⟨hk.len, ho.len⟩)
  have HBL := Aside0.mk hb.len
  have HD0 : Aside0 (Below w.heap.size w w) := ⟨Below.refl _ _⟩
  obtain ⟨qn, HQN⟩ : ∃ z, Aside0 (n / 64 = z) := ⟨_, ⟨rfl⟩⟩
  obtain ⟨rn, HRN⟩ : ∃ z, Aside0 (n % 64 = z) := ⟨_, ⟨rfl⟩⟩
  have e1 : Int.tdiv (n : Int) 64 = (qn : Int) := by rw [Int.tdiv_eq_ediv_of_nonneg (by omega)]; have := HQN.out; omega
  have e2 : Int.tmod (n : Int) 64 = (rn : Int) := by rw [Int.tmod_eq_emod_of_nonneg (by omega)]; have := HRN.out; omega
  have e9 : qn ≤ 20000 := by have := HQN.out; omega
  clear hk ho hb
  have hrc : rightC 32 12 = true := rfl
  by_cases hr : 0 < rn
  · have hr' : (0 : Int) < (rn : Int) := by omega
    have hc : ¬ 4294967296 - m < (qn : Int) + 1 := by have := HQN.out; have := HRN.out; omega
    go_enter Try.func24, Try.ntmps24
    go_wp2_with fail
    refine (refRight_c HK.out HO.out).mono ?_
    rintro x w1 ⟨rfl, ⟨n1, rfl⟩⟩
    rw [hrc]
    go_wp2_with fail
    obtain ⟨F, HFF⟩ : ∃ F : Nat → Int, Aside0 (ks (g0S k o) m = F) := ⟨_, ⟨rfl⟩⟩
    have HD := Aside0.mk (pw_below_drewN HD0.out n1)
    have H0 : Aside0 (Ow (w.drewN n1) w.heap.size (.slice none 0 0) (mixR F b 0)) := ⟨Kd.R_nil _ _ _ _ _⟩
    have H1 : Aside0 (0 % 64 ≠ 0 → Ow (w.drewN n1) w.heap.size (.slice none 0 0) (chaS k o (m + ((0 / 64 : Nat) : Int)))) := ⟨fun h => absurd rfl h⟩
    have H2 : Aside0 (∀ q, (Value.slice none 0 0).ownBlock = some q → (Value.slice none 0 0).ownBlock ≠ some q) := ⟨fun q hq => by cases hq⟩
    go_loopw [13, 11, 12] (fun i vo vx wr => ∃ (t : Nat) (v x : Value), t ≤ n ∧ i = .int .i64 t ∧ v = vo ∧ x = vx ∧ Aside0 (Ow wr w.heap.size v (mixR F b t)) ∧ Aside0 (t % 64 ≠ 0 → Ow wr w.heap.size x (chaS k o (m + ((t / 64 : Nat) : Int)))) ∧ Aside0 (∀ q, x.ownBlock = some q → v.ownBlock ≠ some q) ∧ Below w.heap.size w wr) (fun i _ _ _ => n - (intOf i).toNat)
    case atStart => exact ⟨0, _, _, by omega, rfl, rfl, rfl, H0, H1, H2, HD.out⟩
    case round =>
      clear H0 H1 H2
      obtain ⟨t, v, x, ht, rfl, rfl, rfl, hO, hX, hNE, hBl⟩ := hrel
      by_cases hlt : t < n
      · have hlt' : (t : Int) < (n : Int) := by omega
        obtain ⟨q, HQ⟩ : ∃ z, Aside0 (t / 64 = z) := ⟨_, ⟨rfl⟩⟩
        obtain ⟨r, HR⟩ : ∃ z, Aside0 (t % 64 = z) := ⟨_, ⟨rfl⟩⟩
        have e3 : Int.tdiv (t : Int) 64 = (q : Int) := by rw [Int.tdiv_eq_ediv_of_nonneg (by omega)]; have := HQ.out; omega
        have e3' : Int.tmod (t : Int) 64 = (r : Int) := by rw [Int.tmod_eq_emod_of_nonneg (by omega)]; have := HR.out; omega
        have e7' : r < 64 := by have := HR.out; omega
        have e8 : m + (q : Int) < 4294967296 := by have := HQ.out; omega
        have e8' : q ≤ 20000 := by have := HQ.out; omega
        rw [HQ.out, HR.out] at hX
        obtain ⟨S, HSS⟩ : ∃ z, Aside0 (chaS k o (m + (q : Int)) = z) := ⟨_, ⟨rfl⟩⟩
        have HSL : Aside0 (S.length = 64) := ⟨by rw [← HSS.out]; exact blkS_length _⟩
        rw [HSS.out] at hX
        by_cases hz : r = 0
        · subst hz
          have e4 : (q : Int) % 4294967296 = (q : Int) := by omega
          have e5 : (m + (q : Int)) % 4294967296 = m + (q : Int) := by omega
          go_wp2_with fail
          refine (refBlock_c (HK.out.below hBl) (HO.out.below hBl) bk bo (by omega) (by omega)).mono ?_
          rintro y w2 ⟨xv, rfl, hxo2, hb2⟩
          rw [HSS.out] at hxo2
          have hO2 := Aside0.mk (Kd.R_below hO.out hb2)
          have hB2 := below_next hBl hb2
          have hNE2 : Aside0 (∀ q, xv.ownBlock = some q → v.ownBlock ≠ some q) := ⟨fun q hq e => by have a1 := ow_geM hxo2 q hq; have a2 := ow_ltM hO.out q e; omega⟩
          have hxl := Aside0.mk (Kd.R_lower hxo2 hBl.size)
          clear hxo2 hb2 hX hNE hO
          obtain ⟨gx, cx, hxe, hx0, hx1, -⟩ := Kd.R_form hxl.out (by rw [HSL.out]; decide)
          have hxo := hxl.out
          rw [hxe, HSL.out] at hxo
          have hxeA := Aside0.mk hxe
          subst hxe
          rw [HSL.out]
          have kx := (ow_cellN hxo 0 (by omega)).1
          try simp only [Int.natCast_zero, Int.cast_ofNat_Int, Nat.cast_ofNat] at kx
          have hRB := HB.out.below hB2
          obtain ⟨ad, rfl, hcb⟩ := rd_cells hRB (by omega)
          have kb := hcb t _ (nums_get .u8 b t (by rw [HBL.out]; omega))
          have e7 : (0 : Int) < 64 := by omega
          have hol : Aside0 ((mixR F b t).length = t) := ⟨mixR_length F b t⟩
          have hnx : Aside0 (mixR F b (t + 1) = mixR F b t ++ [Go.bits .xor .u8 (b.getD t 0) (S.getD 0 0)]) := ⟨by
            have hf : F t = S.getD 0 0 := by rw [← HFF.out, ks_cha HL.out.1 HL.out.2, ← HSS.out, HQ.out, HR.out]
            rw [← hf]; rfl⟩
          obtain ⟨y1, HY1⟩ : ∃ z, Aside0 (b.getD t 0 = z) := ⟨_, ⟨rfl⟩⟩
          obtain ⟨y2, HY2⟩ : ∃ z, Aside0 (S.getD 0 0 = z) := ⟨_, ⟨rfl⟩⟩
          rw [HY1.out] at kb hnx
          rw [HY2.out] at kx hnx
          have HXO := Aside0.mk hxo
          have HRB := Aside0.mk hRB
          clear hxo hRB hcb
          have hwc : (Go.bits .xor .u8 y1 y2) = Go.bits .xor .u8 y1 y2 := rfl
          go_wp2_with fail
          refine wp_region_any (by kernel_rfl) ?_
          (try (change wpAny _ _ _ _ _ _ _ (World.drew _)))
          refine wpAny_take (i := 0) (v := ?_) (List.getElem?_toArray.trans rfl) (by kernel_rfl) (by kernel_rfl) (by kernel_rfl) (fun _ _ _ h => h) (Or.inl ⟨by rfl, ?_⟩) ?_
          rotate_left
          · (intro w; go_simp; try with_reducible rfl)
          (try simp only [Act.put, List.setIfInBounds_toArray, List.set_cons_zero, List.set_cons_succ])
          refine wpAny_take (i := 1) (v := ?_) (List.getElem?_toArray.trans rfl) (by kernel_rfl) (by kernel_rfl) (by kernel_rfl) (fun _ _ _ h => h) (Or.inl ⟨by rfl, ?_⟩) ?_
          rotate_left
          · (intro w; go_simp; try with_reducible rfl)
          (try simp only [Act.put, List.setIfInBounds_toArray, List.set_cons_zero, List.set_cons_succ])
          refine wpAny_take (i := 2) (v := ?_) (List.getElem?_toArray.trans rfl) (by kernel_rfl) (by kernel_rfl) (by kernel_rfl) (fun _ _ _ h => h) (Or.inl ⟨by rfl, ?_⟩) ?_
          rotate_left
          · (intro w; go_simp; try with_reducible rfl)
          (try simp only [Act.put, List.setIfInBounds_toArray, List.set_cons_zero, List.set_cons_succ])
          refine wpAny_take (i := 3) (v := ?_) (List.getElem?_toArray.trans rfl) (by kernel_rfl) (by kernel_rfl) (by kernel_rfl) (fun _ _ _ h => h) (Or.inl ⟨by rfl, ?_⟩) ?_
          rotate_left
          · (intro w; go_simp; try with_reducible rfl)
          (try simp only [Act.put, List.setIfInBounds_toArray, List.set_cons_zero, List.set_cons_succ])
          refine wpAny_take (i := 5) (v := ?_) (List.getElem?_toArray.trans rfl) (by kernel_rfl) (by kernel_rfl) (by kernel_rfl) (fun _ _ _ h => h) (Or.inl ⟨by rfl, ?_⟩) ?_
          rotate_left
          · (intro w; go_simp; try with_reducible rfl)
          (try simp only [Act.put, List.setIfInBounds_toArray, List.set_cons_zero, List.set_cons_succ])
          refine wpAny_take (i := 6) (v := ?_) (List.getElem?_toArray.trans rfl) (by kernel_rfl) (by kernel_rfl) (by kernel_rfl) (fun _ _ _ h => h) (Or.inl ⟨by rfl, ?_⟩) ?_
          rotate_left
          · (intro w; go_simp; try with_reducible rfl)
          (try simp only [Act.put, List.setIfInBounds_toArray, List.set_cons_zero, List.set_cons_succ])
          refine wpAny_take (i := 7) (v := ?_) (List.getElem?_toArray.trans rfl) (by kernel_rfl) (by kernel_rfl) (by kernel_rfl) (fun _ _ _ h => h) (Or.inl ⟨by rfl, ?_⟩) ?_
          rotate_left
          · (intro w; go_simp; try with_reducible rfl)
          (try simp only [Act.put, List.setIfInBounds_toArray, List.set_cons_zero, List.set_cons_succ])
          refine wpAny_take (i := 8) (v := ?_) (List.getElem?_toArray.trans rfl) (by kernel_rfl) (by kernel_rfl) (by kernel_rfl) (fun _ _ _ h => h) (Or.inl ⟨by rfl, ?_⟩) ?_
          rotate_left
          · (intro w; go_simp; try with_reducible rfl)
          (try simp only [Act.put, List.setIfInBounds_toArray, List.set_cons_zero, List.set_cons_succ])
          refine wpAny_ready (rs := [4, 9]) (by kernel_rfl) (by simp) (AllReady.cons (List.getElem?_toArray.trans rfl) (fun K hK => ?_) (AllReady.cons (List.getElem?_toArray.trans rfl) (fun K hK => ?_) AllReady.nil))
          · go_simp
            refine hK _ _ ?_
            clear hK K
            (try simp only [Act.put, List.setIfInBounds_toArray, List.set_cons_zero, List.set_cons_succ])
            refine wpAny_ready (rs := [9]) (by kernel_rfl) (by simp) (AllReady.cons (List.getElem?_toArray.trans rfl) (fun K hK => ?_) AllReady.nil)
            go_simp
            refine hK _ _ ?_
            clear hK K
            (try simp only [Act.put, List.setIfInBounds_toArray, List.set_cons_zero, List.set_cons_succ])
            refine wpAny_take (i := 10) (v := ?_) (List.getElem?_toArray.trans rfl) (by kernel_rfl) (by kernel_rfl) (by kernel_rfl) (fun _ _ _ h => h) (Or.inl ⟨by rfl, ?_⟩) ?_
            rotate_left
            · (intro w; go_simp; try with_reducible rfl)
            (try simp only [Act.put, List.setIfInBounds_toArray, List.set_cons_zero, List.set_cons_succ])
            refine wpAny_ready (rs := [11]) (by kernel_rfl) (by simp) (AllReady.cons (List.getElem?_toArray.trans rfl) (fun K hK => ?_) AllReady.nil)
            go_simp
            refine hK _ _ ?_
            clear hK K
            (try simp only [Act.put, List.setIfInBounds_toArray, List.set_cons_zero, List.set_cons_succ])
            refine wpAny_ready (rs := [12]) (by kernel_rfl) (by simp) (AllReady.cons (List.getElem?_toArray.trans rfl) (fun K hK => ?_) AllReady.nil)
            refine step_append_ow (w0 := w) w.heap.size (by rfl) (.tmp 49) (.tmp 60) rfl v (mixR F b t) [Go.bits .xor .u8 y1 y2] (some ⟨w2.heap.size, 0, none⟩) 1 1 rfl rfl (Kd.R_alloc (Kd.R_drew hO2.out) _) (one_BM w2.drew _) ((hB2).drew.alloc (by exact (hB2).size) _) (by exact Nat.le_trans (hB2).size (by simp)) (by rw [hol.out]; omega) ?_
            intro v5 w5 ho5 hb5 hg5 ha5
            refine hK _ _ ?_
            clear hK K
            (try simp only [Act.put, List.setIfInBounds_toArray, List.set_cons_zero, List.set_cons_succ])
            refine wpAny_take (i := 13) (v := ?_) (List.getElem?_toArray.trans rfl) (by kernel_rfl) (by kernel_rfl) (by kernel_rfl) (fun _ _ _ h => h) (Or.inl ⟨by rfl, ?_⟩) ?_
            rotate_left
            · (intro w; go_simp; try with_reducible rfl)
            (try simp only [Act.put, List.setIfInBounds_toArray, List.set_cons_zero, List.set_cons_succ])
            refine wpAny_done (by kernel_rfl) ?_ _
            have HO5 : Aside0 (Ow w5 w.heap.size v5 (mixR F b (t + 1))) := ⟨by rw [hnx.out]; exact ho5⟩
            have hvl := ow_ltM hO2.out
            have HX5 : Ow w5 w.heap.size (.slice (some ⟨gx, 0, none⟩) 64 cx) S := Kd.R_mono (Kd.R_step (Kd.R_tight rfl (Kd.R_alloc (Kd.R_drew HXO.out) _)) (fun q hq hlt => hg5.block q hlt (fun e => by
              have hq' : q = gx := by simpa [Value.ownBlock] using hq
              exact hNE2.out gx (by rfl) (by rw [← hq']; exact e.symm)))) (fun _ _ => trivial)
            have HX6 : Aside0 ((t + 1) % 64 ≠ 0 → Ow w5 w.heap.size (.slice (some ⟨gx, 0, none⟩) 64 cx) (chaS k o (m + (((t + 1) / 64 : Nat) : Int)))) := ⟨fun h => by rw [show (t + 1) / 64 = q by have := HQ.out; omega, HSS.out]; exact HX5⟩
            have HN5 : Aside0 (∀ q, (Value.slice (some ⟨gx, 0, none⟩) 64 cx).ownBlock = some q → v5.ownBlock ≠ some q) := ⟨fun q hq => by
              have hq' : gx = q := by simpa [Value.ownBlock] using hq
              subst hq'
              rcases ha5 with e | ⟨q', e, hq'⟩
              · rw [e]; exact hNE2.out gx rfl
              · rw [e]; intro e'; injection e' with e'; simp at hq'; omega⟩
            clear ho5 hg5 ha5
            go_wp2_with fail
            go_roundw
            case rel => exact ⟨t + 1, v5, _, by omega, by go_num, rfl, rfl, HO5, HX6, HN5, hb5⟩
            case measure => simp [intOf]; omega
          · go_simp
            refine hK _ _ ?_
            clear hK K
            (try simp only [Act.put, List.setIfInBounds_toArray, List.set_cons_zero, List.set_cons_succ])
            refine wpAny_ready (rs := [4]) (by kernel_rfl) (by simp) (AllReady.cons (List.getElem?_toArray.trans rfl) (fun K hK => ?_) AllReady.nil)
            go_simp
            refine hK _ _ ?_
            clear hK K
            (try simp only [Act.put, List.setIfInBounds_toArray, List.set_cons_zero, List.set_cons_succ])
            refine wpAny_take (i := 10) (v := ?_) (List.getElem?_toArray.trans rfl) (by kernel_rfl) (by kernel_rfl) (by kernel_rfl) (fun _ _ _ h => h) (Or.inl ⟨by rfl, ?_⟩) ?_
            rotate_left
            · (intro w; go_simp; try with_reducible rfl)
            (try simp only [Act.put, List.setIfInBounds_toArray, List.set_cons_zero, List.set_cons_succ])
            refine wpAny_ready (rs := [11]) (by kernel_rfl) (by simp) (AllReady.cons (List.getElem?_toArray.trans rfl) (fun K hK => ?_) AllReady.nil)
            go_simp
            refine hK _ _ ?_
            clear hK K
            (try simp only [Act.put, List.setIfInBounds_toArray, List.set_cons_zero, List.set_cons_succ])
            refine wpAny_ready (rs := [12]) (by kernel_rfl) (by simp) (AllReady.cons (List.getElem?_toArray.trans rfl) (fun K hK => ?_) AllReady.nil)
            refine step_append_ow (w0 := w) w.heap.size (by rfl) (.tmp 49) (.tmp 60) rfl v (mixR F b t) [Go.bits .xor .u8 y1 y2] (some ⟨w2.heap.size, 0, none⟩) 1 1 rfl rfl (Kd.R_alloc (Kd.R_drew hO2.out) _) (one_BM w2.drew _) ((hB2).drew.alloc (by exact (hB2).size) _) (by exact Nat.le_trans (hB2).size (by simp)) (by rw [hol.out]; omega) ?_
            intro v5 w5 ho5 hb5 hg5 ha5
            refine hK _ _ ?_
            clear hK K
            (try simp only [Act.put, List.setIfInBounds_toArray, List.set_cons_zero, List.set_cons_succ])
            refine wpAny_take (i := 13) (v := ?_) (List.getElem?_toArray.trans rfl) (by kernel_rfl) (by kernel_rfl) (by kernel_rfl) (fun _ _ _ h => h) (Or.inl ⟨by rfl, ?_⟩) ?_
            rotate_left
            · (intro w; go_simp; try with_reducible rfl)
            (try simp only [Act.put, List.setIfInBounds_toArray, List.set_cons_zero, List.set_cons_succ])
            refine wpAny_done (by kernel_rfl) ?_ _
            have HO5 : Aside0 (Ow w5 w.heap.size v5 (mixR F b (t + 1))) := ⟨by rw [hnx.out]; exact ho5⟩
            have hvl := ow_ltM hO2.out
            have HX5 : Ow w5 w.heap.size (.slice (some ⟨gx, 0, none⟩) 64 cx) S := Kd.R_mono (Kd.R_step (Kd.R_tight rfl (Kd.R_alloc (Kd.R_drew HXO.out) _)) (fun q hq hlt => hg5.block q hlt (fun e => by
              have hq' : q = gx := by simpa [Value.ownBlock] using hq
              exact hNE2.out gx (by rfl) (by rw [← hq']; exact e.symm)))) (fun _ _ => trivial)
            have HX6 : Aside0 ((t + 1) % 64 ≠ 0 → Ow w5 w.heap.size (.slice (some ⟨gx, 0, none⟩) 64 cx) (chaS k o (m + (((t + 1) / 64 : Nat) : Int)))) := ⟨fun h => by rw [show (t + 1) / 64 = q by have := HQ.out; omega, HSS.out]; exact HX5⟩
            have HN5 : Aside0 (∀ q, (Value.slice (some ⟨gx, 0, none⟩) 64 cx).ownBlock = some q → v5.ownBlock ≠ some q) := ⟨fun q hq => by
              have hq' : gx = q := by simpa [Value.ownBlock] using hq
              subst hq'
              rcases ha5 with e | ⟨q', e, hq'⟩
              · rw [e]; exact hNE2.out gx rfl
              · rw [e]; intro e'; injection e' with e'; simp at hq'; omega⟩
            clear ho5 hg5 ha5
            go_wp2_with fail
            go_roundw
            case rel => exact ⟨t + 1, v5, _, by omega, by go_num, rfl, rfl, HO5, HX6, HN5, hb5⟩
            case measure => simp [intOf]; omega
        · have hz' : ¬ (r : Int) = 0 := by omega
          have hxl := Aside0.mk (hX.out hz)
          obtain ⟨gx, cx, hxe, hx0, hx1, -⟩ := Kd.R_form hxl.out (by rw [HSL.out]; decide)
          have hxo := hxl.out
          rw [hxe, HSL.out] at hxo
          have hxeA := Aside0.mk hxe
          subst hxe
          rw [HSL.out]
          have kx := (ow_cellN hxo r (by omega)).1
          try simp only [Int.natCast_zero, Int.cast_ofNat_Int, Nat.cast_ofNat] at kx
          have hRB := HB.out.below hBl
          obtain ⟨ad, rfl, hcb⟩ := rd_cells hRB (by omega)
          have kb := hcb t _ (nums_get .u8 b t (by rw [HBL.out]; omega))
          have e7 : (r : Int) < 64 := by omega
          have hol : Aside0 ((mixR F b t).length = t) := ⟨mixR_length F b t⟩
          have hnx : Aside0 (mixR F b (t + 1) = mixR F b t ++ [Go.bits .xor .u8 (b.getD t 0) (S.getD r 0)]) := ⟨by
            have hf : F t = S.getD r 0 := by rw [← HFF.out, ks_cha HL.out.1 HL.out.2, ← HSS.out, HQ.out, HR.out]
            rw [← hf]; rfl⟩
          obtain ⟨y1, HY1⟩ : ∃ z, Aside0 (b.getD t 0 = z) := ⟨_, ⟨rfl⟩⟩
          obtain ⟨y2, HY2⟩ : ∃ z, Aside0 (S.getD r 0 = z) := ⟨_, ⟨rfl⟩⟩
          rw [HY1.out] at kb hnx
          rw [HY2.out] at kx hnx
          have HXO := Aside0.mk hxo
          have HRB := Aside0.mk hRB
          clear hxo hRB hcb
          have hwc : (Go.bits .xor .u8 y1 y2) = Go.bits .xor .u8 y1 y2 := rfl
          go_wp2_with fail
          refine wp_region_any (by kernel_rfl) ?_
          (try (change wpAny _ _ _ _ _ _ _ (World.drew _)))
          refine wpAny_take (i := 0) (v := ?_) (List.getElem?_toArray.trans rfl) (by kernel_rfl) (by kernel_rfl) (by kernel_rfl) (fun _ _ _ h => h) (Or.inl ⟨by rfl, ?_⟩) ?_
          rotate_left
          · (intro w; go_simp; try with_reducible rfl)
          (try simp only [Act.put, List.setIfInBounds_toArray, List.set_cons_zero, List.set_cons_succ])
          refine wpAny_take (i := 1) (v := ?_) (List.getElem?_toArray.trans rfl) (by kernel_rfl) (by kernel_rfl) (by kernel_rfl) (fun _ _ _ h => h) (Or.inl ⟨by rfl, ?_⟩) ?_
          rotate_left
          · (intro w; go_simp; try with_reducible rfl)
          (try simp only [Act.put, List.setIfInBounds_toArray, List.set_cons_zero, List.set_cons_succ])
          refine wpAny_take (i := 2) (v := ?_) (List.getElem?_toArray.trans rfl) (by kernel_rfl) (by kernel_rfl) (by kernel_rfl) (fun _ _ _ h => h) (Or.inl ⟨by rfl, ?_⟩) ?_
          rotate_left
          · (intro w; go_simp; try with_reducible rfl)
          (try simp only [Act.put, List.setIfInBounds_toArray, List.set_cons_zero, List.set_cons_succ])
          refine wpAny_take (i := 3) (v := ?_) (List.getElem?_toArray.trans rfl) (by kernel_rfl) (by kernel_rfl) (by kernel_rfl) (fun _ _ _ h => h) (Or.inl ⟨by rfl, ?_⟩) ?_
          rotate_left
          · (intro w; go_simp; try with_reducible rfl)
          (try simp only [Act.put, List.setIfInBounds_toArray, List.set_cons_zero, List.set_cons_succ])
          refine wpAny_take (i := 5) (v := ?_) (List.getElem?_toArray.trans rfl) (by kernel_rfl) (by kernel_rfl) (by kernel_rfl) (fun _ _ _ h => h) (Or.inl ⟨by rfl, ?_⟩) ?_
          rotate_left
          · (intro w; go_simp; try with_reducible rfl)
          (try simp only [Act.put, List.setIfInBounds_toArray, List.set_cons_zero, List.set_cons_succ])
          refine wpAny_take (i := 6) (v := ?_) (List.getElem?_toArray.trans rfl) (by kernel_rfl) (by kernel_rfl) (by kernel_rfl) (fun _ _ _ h => h) (Or.inl ⟨by rfl, ?_⟩) ?_
          rotate_left
          · (intro w; go_simp; try with_reducible rfl)
          (try simp only [Act.put, List.setIfInBounds_toArray, List.set_cons_zero, List.set_cons_succ])
          refine wpAny_take (i := 7) (v := ?_) (List.getElem?_toArray.trans rfl) (by kernel_rfl) (by kernel_rfl) (by kernel_rfl) (fun _ _ _ h => h) (Or.inl ⟨by rfl, ?_⟩) ?_
          rotate_left
          · (intro w; go_simp; try with_reducible rfl)
          (try simp only [Act.put, List.setIfInBounds_toArray, List.set_cons_zero, List.set_cons_succ])
          refine wpAny_take (i := 8) (v := ?_) (List.getElem?_toArray.trans rfl) (by kernel_rfl) (by kernel_rfl) (by kernel_rfl) (fun _ _ _ h => h) (Or.inl ⟨by rfl, ?_⟩) ?_
          rotate_left
          · (intro w; go_simp; try with_reducible rfl)
          (try simp only [Act.put, List.setIfInBounds_toArray, List.set_cons_zero, List.set_cons_succ])
          refine wpAny_ready (rs := [4, 9]) (by kernel_rfl) (by simp) (AllReady.cons (List.getElem?_toArray.trans rfl) (fun K hK => ?_) (AllReady.cons (List.getElem?_toArray.trans rfl) (fun K hK => ?_) AllReady.nil))
          · go_simp
            refine hK _ _ ?_
            clear hK K
            (try simp only [Act.put, List.setIfInBounds_toArray, List.set_cons_zero, List.set_cons_succ])
            refine wpAny_ready (rs := [9]) (by kernel_rfl) (by simp) (AllReady.cons (List.getElem?_toArray.trans rfl) (fun K hK => ?_) AllReady.nil)
            go_simp
            refine hK _ _ ?_
            clear hK K
            (try simp only [Act.put, List.setIfInBounds_toArray, List.set_cons_zero, List.set_cons_succ])
            refine wpAny_take (i := 10) (v := ?_) (List.getElem?_toArray.trans rfl) (by kernel_rfl) (by kernel_rfl) (by kernel_rfl) (fun _ _ _ h => h) (Or.inl ⟨by rfl, ?_⟩) ?_
            rotate_left
            · (intro w; go_simp; try with_reducible rfl)
            (try simp only [Act.put, List.setIfInBounds_toArray, List.set_cons_zero, List.set_cons_succ])
            refine wpAny_ready (rs := [11]) (by kernel_rfl) (by simp) (AllReady.cons (List.getElem?_toArray.trans rfl) (fun K hK => ?_) AllReady.nil)
            go_simp
            refine hK _ _ ?_
            clear hK K
            (try simp only [Act.put, List.setIfInBounds_toArray, List.set_cons_zero, List.set_cons_succ])
            refine wpAny_ready (rs := [12]) (by kernel_rfl) (by simp) (AllReady.cons (List.getElem?_toArray.trans rfl) (fun K hK => ?_) AllReady.nil)
            refine step_append_ow (w0 := w) w.heap.size (by rfl) (.tmp 49) (.tmp 60) rfl v (mixR F b t) [Go.bits .xor .u8 y1 y2] (some ⟨wr.heap.size, 0, none⟩) 1 1 rfl rfl (Kd.R_alloc (Kd.R_drew hO.out) _) (one_BM wr.drew _) ((hBl).drew.alloc (by exact (hBl).size) _) (by exact Nat.le_trans (hBl).size (by simp)) (by rw [hol.out]; omega) ?_
            intro v5 w5 ho5 hb5 hg5 ha5
            refine hK _ _ ?_
            clear hK K
            (try simp only [Act.put, List.setIfInBounds_toArray, List.set_cons_zero, List.set_cons_succ])
            refine wpAny_take (i := 13) (v := ?_) (List.getElem?_toArray.trans rfl) (by kernel_rfl) (by kernel_rfl) (by kernel_rfl) (fun _ _ _ h => h) (Or.inl ⟨by rfl, ?_⟩) ?_
            rotate_left
            · (intro w; go_simp; try with_reducible rfl)
            (try simp only [Act.put, List.setIfInBounds_toArray, List.set_cons_zero, List.set_cons_succ])
            refine wpAny_done (by kernel_rfl) ?_ _
            have HO5 : Aside0 (Ow w5 w.heap.size v5 (mixR F b (t + 1))) := ⟨by rw [hnx.out]; exact ho5⟩
            have hvl := ow_ltM hO.out
            have HX5 : Ow w5 w.heap.size (.slice (some ⟨gx, 0, none⟩) 64 cx) S := Kd.R_mono (Kd.R_step (Kd.R_tight rfl (Kd.R_alloc (Kd.R_drew HXO.out) _)) (fun q hq hlt => hg5.block q hlt (fun e => by
              have hq' : q = gx := by simpa [Value.ownBlock] using hq
              exact hNE.out gx (by rfl) (by rw [← hq']; exact e.symm)))) (fun _ _ => trivial)
            have HX6 : Aside0 ((t + 1) % 64 ≠ 0 → Ow w5 w.heap.size (.slice (some ⟨gx, 0, none⟩) 64 cx) (chaS k o (m + (((t + 1) / 64 : Nat) : Int)))) := ⟨fun h => by rw [show (t + 1) / 64 = q by have := HQ.out; omega, HSS.out]; exact HX5⟩
            have HN5 : Aside0 (∀ q, (Value.slice (some ⟨gx, 0, none⟩) 64 cx).ownBlock = some q → v5.ownBlock ≠ some q) := ⟨fun q hq => by
              have hq' : gx = q := by simpa [Value.ownBlock] using hq
              subst hq'
              rcases ha5 with e | ⟨q', e, hq'⟩
              · rw [e]; exact hNE.out gx rfl
              · rw [e]; intro e'; injection e' with e'; simp at hq'; omega⟩
            clear ho5 hg5 ha5
            go_wp2_with fail
            go_roundw
            case rel => exact ⟨t + 1, v5, _, by omega, by go_num, rfl, rfl, HO5, HX6, HN5, hb5⟩
            case measure => simp [intOf]; omega
          · go_simp
            refine hK _ _ ?_
            clear hK K
            (try simp only [Act.put, List.setIfInBounds_toArray, List.set_cons_zero, List.set_cons_succ])
            refine wpAny_ready (rs := [4]) (by kernel_rfl) (by simp) (AllReady.cons (List.getElem?_toArray.trans rfl) (fun K hK => ?_) AllReady.nil)
            go_simp
            refine hK _ _ ?_
            clear hK K
            (try simp only [Act.put, List.setIfInBounds_toArray, List.set_cons_zero, List.set_cons_succ])
            refine wpAny_take (i := 10) (v := ?_) (List.getElem?_toArray.trans rfl) (by kernel_rfl) (by kernel_rfl) (by kernel_rfl) (fun _ _ _ h => h) (Or.inl ⟨by rfl, ?_⟩) ?_
            rotate_left
            · (intro w; go_simp; try with_reducible rfl)
            (try simp only [Act.put, List.setIfInBounds_toArray, List.set_cons_zero, List.set_cons_succ])
            refine wpAny_ready (rs := [11]) (by kernel_rfl) (by simp) (AllReady.cons (List.getElem?_toArray.trans rfl) (fun K hK => ?_) AllReady.nil)
            go_simp
            refine hK _ _ ?_
            clear hK K
            (try simp only [Act.put, List.setIfInBounds_toArray, List.set_cons_zero, List.set_cons_succ])
            refine wpAny_ready (rs := [12]) (by kernel_rfl) (by simp) (AllReady.cons (List.getElem?_toArray.trans rfl) (fun K hK => ?_) AllReady.nil)
            refine step_append_ow (w0 := w) w.heap.size (by rfl) (.tmp 49) (.tmp 60) rfl v (mixR F b t) [Go.bits .xor .u8 y1 y2] (some ⟨wr.heap.size, 0, none⟩) 1 1 rfl rfl (Kd.R_alloc (Kd.R_drew hO.out) _) (one_BM wr.drew _) ((hBl).drew.alloc (by exact (hBl).size) _) (by exact Nat.le_trans (hBl).size (by simp)) (by rw [hol.out]; omega) ?_
            intro v5 w5 ho5 hb5 hg5 ha5
            refine hK _ _ ?_
            clear hK K
            (try simp only [Act.put, List.setIfInBounds_toArray, List.set_cons_zero, List.set_cons_succ])
            refine wpAny_take (i := 13) (v := ?_) (List.getElem?_toArray.trans rfl) (by kernel_rfl) (by kernel_rfl) (by kernel_rfl) (fun _ _ _ h => h) (Or.inl ⟨by rfl, ?_⟩) ?_
            rotate_left
            · (intro w; go_simp; try with_reducible rfl)
            (try simp only [Act.put, List.setIfInBounds_toArray, List.set_cons_zero, List.set_cons_succ])
            refine wpAny_done (by kernel_rfl) ?_ _
            have HO5 : Aside0 (Ow w5 w.heap.size v5 (mixR F b (t + 1))) := ⟨by rw [hnx.out]; exact ho5⟩
            have hvl := ow_ltM hO.out
            have HX5 : Ow w5 w.heap.size (.slice (some ⟨gx, 0, none⟩) 64 cx) S := Kd.R_mono (Kd.R_step (Kd.R_tight rfl (Kd.R_alloc (Kd.R_drew HXO.out) _)) (fun q hq hlt => hg5.block q hlt (fun e => by
              have hq' : q = gx := by simpa [Value.ownBlock] using hq
              exact hNE.out gx (by rfl) (by rw [← hq']; exact e.symm)))) (fun _ _ => trivial)
            have HX6 : Aside0 ((t + 1) % 64 ≠ 0 → Ow w5 w.heap.size (.slice (some ⟨gx, 0, none⟩) 64 cx) (chaS k o (m + (((t + 1) / 64 : Nat) : Int)))) := ⟨fun h => by rw [show (t + 1) / 64 = q by have := HQ.out; omega, HSS.out]; exact HX5⟩
            have HN5 : Aside0 (∀ q, (Value.slice (some ⟨gx, 0, none⟩) 64 cx).ownBlock = some q → v5.ownBlock ≠ some q) := ⟨fun q hq => by
              have hq' : gx = q := by simpa [Value.ownBlock] using hq
              subst hq'
              rcases ha5 with e | ⟨q', e, hq'⟩
              · rw [e]; exact hNE.out gx rfl
              · rw [e]; intro e'; injection e' with e'; simp at hq'; omega⟩
            clear ho5 hg5 ha5
            go_wp2_with fail
            go_roundw
            case rel => exact ⟨t + 1, v5, _, by omega, by go_num, rfl, rfl, HO5, HX6, HN5, hb5⟩
            case measure => simp [intOf]; omega
      · have hge : ¬ (t : Int) < (n : Int) := by omega
        have HFIN : Aside0 (Ow wr w.heap.size v (mixT F b n)) := ⟨by have h9 := hO.out; rw [show t = n by omega] at h9; have h8 := mixR_eq F b; rw [HBL.out] at h8; rw [← h8]; exact h9⟩
        clear hO hX hNE
        go_wp2_with fail
        go_ret2
        rw [HFF.out]
        exact ⟨_, rfl, HFIN.out, hBl⟩
  · have hr' : ¬ (0 : Int) < (rn : Int) := by omega
    have hc : ¬ 4294967296 - m < (qn : Int) := by have := HQN.out; have := HRN.out; omega
    go_enter Try.func24, Try.ntmps24
    go_wp2_with fail
    refine (refRight_c HK.out HO.out).mono ?_
    rintro x w1 ⟨rfl, ⟨n1, rfl⟩⟩
    rw [hrc]
    go_wp2_with fail
    obtain ⟨F, HFF⟩ : ∃ F : Nat → Int, Aside0 (ks (g0S k o) m = F) := ⟨_, ⟨rfl⟩⟩
    have HD := Aside0.mk (pw_below_drewN HD0.out n1)
    have H0 : Aside0 (Ow (w.drewN n1) w.heap.size (.slice none 0 0) (mixR F b 0)) := ⟨Kd.R_nil _ _ _ _ _⟩
    have H1 : Aside0 (0 % 64 ≠ 0 → Ow (w.drewN n1) w.heap.size (.slice none 0 0) (chaS k o (m + ((0 / 64 : Nat) : Int)))) := ⟨fun h => absurd rfl h⟩
    have H2 : Aside0 (∀ q, (Value.slice none 0 0).ownBlock = some q → (Value.slice none 0 0).ownBlock ≠ some q) := ⟨fun q hq => by cases hq⟩
    go_loopw [13, 11, 12] (fun i vo vx wr => ∃ (t : Nat) (v x : Value), t ≤ n ∧ i = .int .i64 t ∧ v = vo ∧ x = vx ∧ Aside0 (Ow wr w.heap.size v (mixR F b t)) ∧ Aside0 (t % 64 ≠ 0 → Ow wr w.heap.size x (chaS k o (m + ((t / 64 : Nat) : Int)))) ∧ Aside0 (∀ q, x.ownBlock = some q → v.ownBlock ≠ some q) ∧ Below w.heap.size w wr) (fun i _ _ _ => n - (intOf i).toNat)
    case atStart => exact ⟨0, _, _, by omega, rfl, rfl, rfl, H0, H1, H2, HD.out⟩
    case round =>
      clear H0 H1 H2
      obtain ⟨t, v, x, ht, rfl, rfl, rfl, hO, hX, hNE, hBl⟩ := hrel
      by_cases hlt : t < n
      · have hlt' : (t : Int) < (n : Int) := by omega
        obtain ⟨q, HQ⟩ : ∃ z, Aside0 (t / 64 = z) := ⟨_, ⟨rfl⟩⟩
        obtain ⟨r, HR⟩ : ∃ z, Aside0 (t % 64 = z) := ⟨_, ⟨rfl⟩⟩
        have e3 : Int.tdiv (t : Int) 64 = (q : Int) := by rw [Int.tdiv_eq_ediv_of_nonneg (by omega)]; have := HQ.out; omega
        have e3' : Int.tmod (t : Int) 64 = (r : Int) := by rw [Int.tmod_eq_emod_of_nonneg (by omega)]; have := HR.out; omega
        have e7' : r < 64 := by have := HR.out; omega
        have e8 : m + (q : Int) < 4294967296 := by have := HQ.out; omega
        have e8' : q ≤ 20000 := by have := HQ.out; omega
        rw [HQ.out, HR.out] at hX
        obtain ⟨S, HSS⟩ : ∃ z, Aside0 (chaS k o (m + (q : Int)) = z) := ⟨_, ⟨rfl⟩⟩
        have HSL : Aside0 (S.length = 64) := ⟨by rw [← HSS.out]; exact blkS_length _⟩
        rw [HSS.out] at hX
        by_cases hz : r = 0
        · subst hz
          have e4 : (q : Int) % 4294967296 = (q : Int) := by omega
          have e5 : (m + (q : Int)) % 4294967296 = m + (q : Int) := by omega
          go_wp2_with fail
          refine (refBlock_c (HK.out.below hBl) (HO.out.below hBl) bk bo (by omega) (by omega)).mono ?_
          rintro y w2 ⟨xv, rfl, hxo2, hb2⟩
          rw [HSS.out] at hxo2
          have hO2 := Aside0.mk (Kd.R_below hO.out hb2)
          have hB2 := below_next hBl hb2
          have hNE2 : Aside0 (∀ q, xv.ownBlock = some q → v.ownBlock ≠ some q) := ⟨fun q hq e => by have a1 := ow_geM hxo2 q hq; have a2 := ow_ltM hO.out q e; omega⟩
          have hxl := Aside0.mk (Kd.R_lower hxo2 hBl.size)
          clear hxo2 hb2 hX hNE hO
          obtain ⟨gx, cx, hxe, hx0, hx1, -⟩ := Kd.R_form hxl.out (by rw [HSL.out]; decide)
          have hxo := hxl.out
          rw [hxe, HSL.out] at hxo
          have hxeA := Aside0.mk hxe
          subst hxe
          rw [HSL.out]
          have kx := (ow_cellN hxo 0 (by omega)).1
          try simp only [Int.natCast_zero, Int.cast_ofNat_Int, Nat.cast_ofNat] at kx
          have hRB := HB.out.below hB2
          obtain ⟨ad, rfl, hcb⟩ := rd_cells hRB (by omega)
          have kb := hcb t _ (nums_get .u8 b t (by rw [HBL.out]; omega))
          have e7 : (0 : Int) < 64 := by omega
          have hol : Aside0 ((mixR F b t).length = t) := ⟨mixR_length F b t⟩
          have hnx : Aside0 (mixR F b (t + 1) = mixR F b t ++ [Go.bits .xor .u8 (b.getD t 0) (S.getD 0 0)]) := ⟨by
            have hf : F t = S.getD 0 0 := by rw [← HFF.out, ks_cha HL.out.1 HL.out.2, ← HSS.out, HQ.out, HR.out]
            rw [← hf]; rfl⟩
          obtain ⟨y1, HY1⟩ : ∃ z, Aside0 (b.getD t 0 = z) := ⟨_, ⟨rfl⟩⟩
          obtain ⟨y2, HY2⟩ : ∃ z, Aside0 (S.getD 0 0 = z) := ⟨_, ⟨rfl⟩⟩
          rw [HY1.out] at kb hnx
          rw [HY2.out] at kx hnx
          have HXO := Aside0.mk hxo
          have HRB := Aside0.mk hRB
          clear hxo hRB hcb
          have hwc : (Go.bits .xor .u8 y1 y2) = Go.bits .xor .u8 y1 y2 := rfl
          go_wp2_with fail
          refine wp_region_any (by kernel_rfl) ?_
          (try (change wpAny _ _ _ _ _ _ _ (World.drew _)))
          refine wpAny_take (i := 0) (v := ?_) (List.getElem?_toArray.trans rfl) (by kernel_rfl) (by kernel_rfl) (by kernel_rfl) (fun _ _ _ h => h) (Or.inl ⟨by rfl, ?_⟩) ?_
          rotate_left
          · (intro w; go_simp; try with_reducible rfl)
          (try simp only [Act.put, List.setIfInBounds_toArray, List.set_cons_zero, List.set_cons_succ])
          refine wpAny_take (i := 1) (v := ?_) (List.getElem?_toArray.trans rfl) (by kernel_rfl) (by kernel_rfl) (by kernel_rfl) (fun _ _ _ h => h) (Or.inl ⟨by rfl, ?_⟩) ?_
          rotate_left
          · (intro w; go_simp; try with_reducible rfl)
          (try simp only [Act.put, List.setIfInBounds_toArray, List.set_cons_zero, List.set_cons_succ])
          refine wpAny_take (i := 2) (v := ?_) (List.getElem?_toArray.trans rfl) (by kernel_rfl) (by kernel_rfl) (by kernel_rfl) (fun _ _ _ h => h) (Or.inl ⟨by rfl, ?_⟩) ?_
          rotate_left
          · (intro w; go_simp; try with_reducible rfl)
          (try simp only [Act.put, List.setIfInBounds_toArray, List.set_cons_zero, List.set_cons_succ])
          refine wpAny_take (i := 3) (v := ?_) (List.getElem?_toArray.trans rfl) (by kernel_rfl) (by kernel_rfl) (by kernel_rfl) (fun _ _ _ h => h) (Or.inl ⟨by rfl, ?_⟩) ?_
          rotate_left
          · (intro w; go_simp; try with_reducible rfl)
          (try simp only [Act.put, List.setIfInBounds_toArray, List.set_cons_zero, List.set_cons_succ])
          refine wpAny_take (i := 5) (v := ?_) (List.getElem?_toArray.trans rfl) (by kernel_rfl) (by kernel_rfl) (by kernel_rfl) (fun _ _ _ h => h) (Or.inl ⟨by rfl, ?_⟩) ?_
          rotate_left
          · (intro w; go_simp; try with_reducible rfl)
          (try simp only [Act.put, List.setIfInBounds_toArray, List.set_cons_zero, List.set_cons_succ])
          refine wpAny_take (i := 6) (v := ?_) (List.getElem?_toArray.trans rfl) (by kernel_rfl) (by kernel_rfl) (by kernel_rfl) (fun _ _ _ h => h) (Or.inl ⟨by rfl, ?_⟩) ?_
          rotate_left
          · (intro w; go_simp; try with_reducible rfl)
          (try simp only [Act.put, List.setIfInBounds_toArray, List.set_cons_zero, List.set_cons_succ])
          refine wpAny_take (i := 7) (v := ?_) (List.getElem?_toArray.trans rfl) (by kernel_rfl) (by kernel_rfl) (by kernel_rfl) (fun _ _ _ h => h) (Or.inl ⟨by rfl, ?_⟩) ?_
          rotate_left
          · (intro w; go_simp; try with_reducible rfl)
          (try simp only [Act.put, List.setIfInBounds_toArray, List.set_cons_zero, List.set_cons_succ])
          refine wpAny_take (i := 8) (v := ?_) (List.getElem?_toArray.trans rfl) (by kernel_rfl) (by kernel_rfl) (by kernel_rfl) (fun _ _ _ h => h) (Or.inl ⟨by rfl, ?_⟩) ?_
          rotate_left
          · (intro w; go_simp; try with_reducible rfl)
          (try simp only [Act.put, List.setIfInBounds_toArray, List.set_cons_zero, List.set_cons_succ])
          refine wpAny_ready (rs := [4, 9]) (by kernel_rfl) (by simp) (AllReady.cons (List.getElem?_toArray.trans rfl) (fun K hK => ?_) (AllReady.cons (List.getElem?_toArray.trans rfl) (fun K hK => ?_) AllReady.nil))
          · go_simp
            refine hK _ _ ?_
            clear hK K
            (try simp only [Act.put, List.setIfInBounds_toArray, List.set_cons_zero, List.set_cons_succ])
            refine wpAny_ready (rs := [9]) (by kernel_rfl) (by simp) (AllReady.cons (List.getElem?_toArray.trans rfl) (fun K hK => ?_) AllReady.nil)
            go_simp
            refine hK _ _ ?_
            clear hK K
            (try simp only [Act.put, List.setIfInBounds_toArray, List.set_cons_zero, List.set_cons_succ])
            refine wpAny_take (i := 10) (v := ?_) (List.getElem?_toArray.trans rfl) (by kernel_rfl) (by kernel_rfl) (by kernel_rfl) (fun _ _ _ h => h) (Or.inl ⟨by rfl, ?_⟩) ?_
            rotate_left
            · (intro w; go_simp; try with_reducible rfl)
            (try simp only [Act.put, List.setIfInBounds_toArray, List.set_cons_zero, List.set_cons_succ])
            refine wpAny_ready (rs := [11]) (by kernel_rfl) (by simp) (AllReady.cons (List.getElem?_toArray.trans rfl) (fun K hK => ?_) AllReady.nil)
            go_simp
            refine hK _ _ ?_
            clear hK K
            (try simp only [Act.put, List.setIfInBounds_toArray, List.set_cons_zero, List.set_cons_succ])
            refine wpAny_ready (rs := [12]) (by kernel_rfl) (by simp) (AllReady.cons (List.getElem?_toArray.trans rfl) (fun K hK => ?_) AllReady.nil)
            refine step_append_ow (w0 := w) w.heap.size (by rfl) (.tmp 49) (.tmp 60) rfl v (mixR F b t) [Go.bits .xor .u8 y1 y2] (some ⟨w2.heap.size, 0, none⟩) 1 1 rfl rfl (Kd.R_alloc (Kd.R_drew hO2.out) _) (one_BM w2.drew _) ((hB2).drew.alloc (by exact (hB2).size) _) (by exact Nat.le_trans (hB2).size (by simp)) (by rw [hol.out]; omega) ?_
            intro v5 w5 ho5 hb5 hg5 ha5
            refine hK _ _ ?_
            clear hK K
            (try simp only [Act.put, List.setIfInBounds_toArray, List.set_cons_zero, List.set_cons_succ])
            refine wpAny_take (i := 13) (v := ?_) (List.getElem?_toArray.trans rfl) (by kernel_rfl) (by kernel_rfl) (by kernel_rfl) (fun _ _ _ h => h) (Or.inl ⟨by rfl, ?_⟩) ?_
            rotate_left
            · (intro w; go_simp; try with_reducible rfl)
            (try simp only [Act.put, List.setIfInBounds_toArray, List.set_cons_zero, List.set_cons_succ])
            refine wpAny_done (by kernel_rfl) ?_ _
            have HO5 : Aside0 (Ow w5 w.heap.size v5 (mixR F b (t + 1))) := ⟨by rw [hnx.out]; exact ho5⟩
            have hvl := ow_ltM hO2.out
            have HX5 : Ow w5 w.heap.size (.slice (some ⟨gx, 0, none⟩) 64 cx) S := Kd.R_mono (Kd.R_step (Kd.R_tight rfl (Kd.R_alloc (Kd.R_drew HXO.out) _)) (fun q hq hlt => hg5.block q hlt (fun e => by
              have hq' : q = gx := by simpa [Value.ownBlock] using hq
              exact hNE2.out gx (by rfl) (by rw [← hq']; exact e.symm)))) (fun _ _ => trivial)
            have HX6 : Aside0 ((t + 1) % 64 ≠ 0 → Ow w5 w.heap.size (.slice (some ⟨gx, 0, none⟩) 64 cx) (chaS k o (m + (((t + 1) / 64 : Nat) : Int)))) := ⟨fun h => by rw [show (t + 1) / 64 = q by have := HQ.out; omega, HSS.out]; exact HX5⟩
            have HN5 : Aside0 (∀ q, (Value.slice (some ⟨gx, 0, none⟩) 64 cx).ownBlock = some q → v5.ownBlock ≠ some q) := ⟨fun q hq => by
              have hq' : gx = q := by simpa [Value.ownBlock] using hq
              subst hq'
              rcases ha5 with e | ⟨q', e, hq'⟩
              · rw [e]; exact hNE2.out gx rfl
              · rw [e]; intro e'; injection e' with e'; simp at hq'; omega⟩
            clear ho5 hg5 ha5
            go_wp2_with fail
            go_roundw
            case rel => exact ⟨t + 1, v5, _, by omega, by go_num, rfl, rfl, HO5, HX6, HN5, hb5⟩
            case measure => simp [intOf]; omega
          · go_simp
            refine hK _ _ ?_
            clear hK K
            (try simp only [Act.put, List.setIfInBounds_toArray, List.set_cons_zero, List.set_cons_succ])
            refine wpAny_ready (rs := [4]) (by kernel_rfl) (by simp) (AllReady.cons (List.getElem?_toArray.trans rfl) (fun K hK => ?_) AllReady.nil)
            go_simp
            refine hK _ _ ?_
            clear hK K
            (try simp only [Act.put, List.setIfInBounds_toArray, List.set_cons_zero, List.set_cons_succ])
            refine wpAny_take (i := 10) (v := ?_) (List.getElem?_toArray.trans rfl) (by kernel_rfl) (by kernel_rfl) (by kernel_rfl) (fun _ _ _ h => h) (Or.inl ⟨by rfl, ?_⟩) ?_
            rotate_left
            · (intro w; go_simp; try with_reducible rfl)
            (try simp only [Act.put, List.setIfInBounds_toArray, List.set_cons_zero, List.set_cons_succ])
            refine wpAny_ready (rs := [11]) (by kernel_rfl) (by simp) (AllReady.cons (List.getElem?_toArray.trans rfl) (fun K hK => ?_) AllReady.nil)
            go_simp
            refine hK _ _ ?_
            clear hK K
            (try simp only [Act.put, List.setIfInBounds_toArray, List.set_cons_zero, List.set_cons_succ])
            refine wpAny_ready (rs := [12]) (by kernel_rfl) (by simp) (AllReady.cons (List.getElem?_toArray.trans rfl) (fun K hK => ?_) AllReady.nil)
            refine step_append_ow (w0 := w) w.heap.size (by rfl) (.tmp 49) (.tmp 60) rfl v (mixR F b t) [Go.bits .xor .u8 y1 y2] (some ⟨w2.heap.size, 0, none⟩) 1 1 rfl rfl (Kd.R_alloc (Kd.R_drew hO2.out) _) (one_BM w2.drew _) ((hB2).drew.alloc (by exact (hB2).size) _) (by exact Nat.le_trans (hB2).size (by simp)) (by rw [hol.out]; omega) ?_
            intro v5 w5 ho5 hb5 hg5 ha5
            refine hK _ _ ?_
            clear hK K
            (try simp only [Act.put, List.setIfInBounds_toArray, List.set_cons_zero, List.set_cons_succ])
            refine wpAny_take (i := 13) (v := ?_) (List.getElem?_toArray.trans rfl) (by kernel_rfl) (by kernel_rfl) (by kernel_rfl) (fun _ _ _ h => h) (Or.inl ⟨by rfl, ?_⟩) ?_
            rotate_left
            · (intro w; go_simp; try with_reducible rfl)
            (try simp only [Act.put, List.setIfInBounds_toArray, List.set_cons_zero, List.set_cons_succ])
            refine wpAny_done (by kernel_rfl) ?_ _
            have HO5 : Aside0 (Ow w5 w.heap.size v5 (mixR F b (t + 1))) := ⟨by rw [hnx.out]; exact ho5⟩
            have hvl := ow_ltM hO2.out
            have HX5 : Ow w5 w.heap.size (.slice (some ⟨gx, 0, none⟩) 64 cx) S := Kd.R_mono (Kd.R_step (Kd.R_tight rfl (Kd.R_alloc (Kd.R_drew HXO.out) _)) (fun q hq hlt => hg5.block q hlt (fun e => by
              have hq' : q = gx := by simpa [Value.ownBlock] using hq
              exact hNE2.out gx (by rfl) (by rw [← hq']; exact e.symm)))) (fun _ _ => trivial)
            have HX6 : Aside0 ((t + 1) % 64 ≠ 0 → Ow w5 w.heap.size (.slice (some ⟨gx, 0, none⟩) 64 cx) (chaS k o (m + (((t + 1) / 64 : Nat) : Int)))) := ⟨fun h => by rw [show (t + 1) / 64 = q by have := HQ.out; omega, HSS.out]; exact HX5⟩
            have HN5 : Aside0 (∀ q, (Value.slice (some ⟨gx, 0, none⟩) 64 cx).ownBlock = some q → v5.ownBlock ≠ some q) := ⟨fun q hq => by
              have hq' : gx = q := by simpa [Value.ownBlock] using hq
              subst hq'
              rcases ha5 with e | ⟨q', e, hq'⟩
              · rw [e]; exact hNE2.out gx rfl
              · rw [e]; intro e'; injection e' with e'; simp at hq'; omega⟩
            clear ho5 hg5 ha5
            go_wp2_with fail
            go_roundw
            case rel => exact ⟨t + 1, v5, _, by omega, by go_num, rfl, rfl, HO5, HX6, HN5, hb5⟩
            case measure => simp [intOf]; omega
        · have hz' : ¬ (r : Int) = 0 := by omega
          have hxl := Aside0.mk (hX.out hz)
          obtain ⟨gx, cx, hxe, hx0, hx1, -⟩ := Kd.R_form hxl.out (by rw [HSL.out]; decide)
          have hxo := hxl.out
          rw [hxe, HSL.out] at hxo
          have hxeA := Aside0.mk hxe
          subst hxe
          rw [HSL.out]
          have kx := (ow_cellN hxo r (by omega)).1
          try simp only [Int.natCast_zero, Int.cast_ofNat_Int, Nat.cast_ofNat] at kx
          have hRB := HB.out.below hBl
          obtain ⟨ad, rfl, hcb⟩ := rd_cells hRB (by omega)
          have kb := hcb t _ (nums_get .u8 b t (by rw [HBL.out]; omega))
          have e7 : (r : Int) < 64 := by omega
          have hol : Aside0 ((mixR F b t).length = t) := ⟨mixR_length F b t⟩
          have hnx : Aside0 (mixR F b (t + 1) = mixR F b t ++ [Go.bits .xor .u8 (b.getD t 0) (S.getD r 0)]) := ⟨by
            have hf : F t = S.getD r 0 := by rw [← HFF.out, ks_cha HL.out.1 HL.out.2, ← HSS.out, HQ.out, HR.out]
            rw [← hf]; rfl⟩
          obtain ⟨y1, HY1⟩ : ∃ z, Aside0 (b.getD t 0 = z) := ⟨_, ⟨rfl⟩⟩
          obtain ⟨y2, HY2⟩ : ∃ z, Aside0 (S.getD r 0 = z) := ⟨_, ⟨rfl⟩⟩
          rw [HY1.out] at kb hnx
          rw [HY2.out] at kx hnx
          have HXO := Aside0.mk hxo
          have HRB := Aside0.mk hRB
          clear hxo hRB hcb
          have hwc : (Go.bits .xor .u8 y1 y2) = Go.bits .xor .u8 y1 y2 := rfl
          go_wp2_with fail
          refine wp_region_any (by kernel_rfl) ?_
          (try (change wpAny _ _ _ _ _ _ _ (World.drew _)))
          refine wpAny_take (i := 0) (v := ?_) (List.getElem?_toArray.trans rfl) (by kernel_rfl) (by kernel_rfl) (by kernel_rfl) (fun _ _ _ h => h) (Or.inl ⟨by rfl, ?_⟩) ?_
          rotate_left
          · (intro w; go_simp; try with_reducible rfl)
          (try simp only [Act.put, List.setIfInBounds_toArray, List.set_cons_zero, List.set_cons_succ])
          refine wpAny_take (i := 1) (v := ?_) (List.getElem?_toArray.trans rfl) (by kernel_rfl) (by kernel_rfl) (by kernel_rfl) (fun _ _ _ h => h) (Or.inl ⟨by rfl, ?_⟩) ?_
          rotate_left
          · (intro w; go_simp; try with_reducible rfl)
          (try simp only [Act.put, List.setIfInBounds_toArray, List.set_cons_zero, List.set_cons_succ])
          refine wpAny_take (i := 2) (v := ?_) (List.getElem?_toArray.trans rfl) (by kernel_rfl) (by kernel_rfl) (by kernel_rfl) (fun _ _ _ h => h) (Or.inl ⟨by rfl, ?_⟩) ?_
          rotate_left
          · (intro w; go_simp; try with_reducible rfl)
          (try simp only [Act.put, List.setIfInBounds_toArray, List.set_cons_zero, List.set_cons_succ])
          refine wpAny_take (i := 3) (v := ?_) (List.getElem?_toArray.trans rfl) (by kernel_rfl) (by kernel_rfl) (by kernel_rfl) (fun _ _ _ h => h) (Or.inl ⟨by rfl, ?_⟩) ?_
          rotate_left
          · (intro w; go_simp; try with_reducible rfl)
          (try simp only [Act.put, List.setIfInBounds_toArray, List.set_cons_zero, List.set_cons_succ])
          refine wpAny_take (i := 5) (v := ?_) (List.getElem?_toArray.trans rfl) (by kernel_rfl) (by kernel_rfl) (by kernel_rfl) (fun _ _ _ h => h) (Or.inl ⟨by rfl, ?_⟩) ?_
          rotate_left
          · (intro w; go_simp; try with_reducible rfl)
          (try simp only [Act.put, List.setIfInBounds_toArray, List.set_cons_zero, List.set_cons_succ])
          refine wpAny_take (i := 6) (v := ?_) (List.getElem?_toArray.trans rfl) (by kernel_rfl) (by kernel_rfl) (by kernel_rfl) (fun _ _ _ h => h) (Or.inl ⟨by rfl, ?_⟩) ?_
          rotate_left
          · (intro w; go_simp; try with_reducible rfl)
          (try simp only [Act.put, List.setIfInBounds_toArray, List.set_cons_zero, List.set_cons_succ])
          refine wpAny_take (i := 7) (v := ?_) (List.getElem?_toArray.trans rfl) (by kernel_rfl) (by kernel_rfl) (by kernel_rfl) (fun _ _ _ h => h) (Or.inl ⟨by rfl, ?_⟩) ?_
          rotate_left
          · (intro w; go_simp; try with_reducible rfl)
          (try simp only [Act.put, List.setIfInBounds_toArray, List.set_cons_zero, List.set_cons_succ])
          refine wpAny_take (i := 8) (v := ?_) (List.getElem?_toArray.trans rfl) (by kernel_rfl) (by kernel_rfl) (by kernel_rfl) (fun _ _ _ h => h) (Or.inl ⟨by rfl, ?_⟩) ?_
          rotate_left
          · (intro w; go_simp; try with_reducible rfl)
          (try simp only [Act.put, List.setIfInBounds_toArray, List.set_cons_zero, List.set_cons_succ])
          refine wpAny_ready (rs := [4, 9]) (by kernel_rfl) (by simp) (AllReady.cons (List.getElem?_toArray.trans rfl) (fun K hK => ?_) (AllReady.cons (List.getElem?_toArray.trans rfl) (fun K hK => ?_) AllReady.nil))
          · go_simp
            refine hK _ _ ?_
            clear hK K
            (try simp only [Act.put, List.setIfInBounds_toArray, List.set_cons_zero, List.set_cons_succ])
            refine wpAny_ready (rs := [9]) (by kernel_rfl) (by simp) (AllReady.cons (List.getElem?_toArray.trans rfl) (fun K hK => ?_) AllReady.nil)
            go_simp
            refine hK _ _ ?_
            clear hK K
            (try simp only [Act.put, List.setIfInBounds_toArray, List.set_cons_zero, List.set_cons_succ])
            refine wpAny_take (i := 10) (v := ?_) (List.getElem?_toArray.trans rfl) (by kernel_rfl) (by kernel_rfl) (by kernel_rfl) (fun _ _ _ h => h) (Or.inl ⟨by rfl, ?_⟩) ?_
            rotate_left
            · (intro w; go_simp; try with_reducible rfl)
            (try simp only [Act.put, List.setIfInBounds_toArray, List.set_cons_zero, List.set_cons_succ])
            refine wpAny_ready (rs := [11]) (by kernel_rfl) (by simp) (AllReady.cons (List.getElem?_toArray.trans rfl) (fun K hK => ?_) AllReady.nil)
            go_simp
            refine hK _ _ ?_
            clear hK K
            (try simp only [Act.put, List.setIfInBounds_toArray, List.set_cons_zero, List.set_cons_succ])
            refine wpAny_ready (rs := [12]) (by kernel_rfl) (by simp) (AllReady.cons (List.getElem?_toArray.trans rfl) (fun K hK => ?_) AllReady.nil)
            refine step_append_ow (w0 := w) w.heap.size (by rfl) (.tmp 49) (.tmp 60) rfl v (mixR F b t) [Go.bits .xor .u8 y1 y2] (some ⟨wr.heap.size, 0, none⟩) 1 1 rfl rfl (Kd.R_alloc (Kd.R_drew hO.out) _) (one_BM wr.drew _) ((hBl).drew.alloc (by exact (hBl).size) _) (by exact Nat.le_trans (hBl).size (by simp)) (by rw [hol.out]; omega) ?_
            intro v5 w5 ho5 hb5 hg5 ha5
            refine hK _ _ ?_
            clear hK K
            (try simp only [Act.put, List.setIfInBounds_toArray, List.set_cons_zero, List.set_cons_succ])
            refine wpAny_take (i := 13) (v := ?_) (List.getElem?_toArray.trans rfl) (by kernel_rfl) (by kernel_rfl) (by kernel_rfl) (fun _ _ _ h => h) (Or.inl ⟨by rfl, ?_⟩) ?_
            rotate_left
            · (intro w; go_simp; try with_reducible rfl)
            (try simp only [Act.put, List.setIfInBounds_toArray, List.set_cons_zero, List.set_cons_succ])
            refine wpAny_done (by kernel_rfl) ?_ _
            have HO5 : Aside0 (Ow w5 w.heap.size v5 (mixR F b (t + 1))) := ⟨by rw [hnx.out]; exact ho5⟩
            have hvl := ow_ltM hO.out
            have HX5 : Ow w5 w.heap.size (.slice (some ⟨gx, 0, none⟩) 64 cx) S := Kd.R_mono (Kd.R_step (Kd.R_tight rfl (Kd.R_alloc (Kd.R_drew HXO.out) _)) (fun q hq hlt => hg5.block q hlt (fun e => by
              have hq' : q = gx := by simpa [Value.ownBlock] using hq
              exact hNE.out gx (by rfl) (by rw [← hq']; exact e.symm)))) (fun _ _ => trivial)
            have HX6 : Aside0 ((t + 1) % 64 ≠ 0 → Ow w5 w.heap.size (.slice (some ⟨gx, 0, none⟩) 64 cx) (chaS k o (m + (((t + 1) / 64 : Nat) : Int)))) := ⟨fun h => by rw [show (t + 1) / 64 = q by have := HQ.out; omega, HSS.out]; exact HX5⟩
            have HN5 : Aside0 (∀ q, (Value.slice (some ⟨gx, 0, none⟩) 64 cx).ownBlock = some q → v5.ownBlock ≠ some q) := ⟨fun q hq => by
              have hq' : gx = q := by simpa [Value.ownBlock] using hq
              subst hq'
              rcases ha5 with e | ⟨q', e, hq'⟩
              · rw [e]; exact hNE.out gx rfl
              · rw [e]; intro e'; injection e' with e'; simp at hq'; omega⟩
            clear ho5 hg5 ha5
            go_wp2_with fail
            go_roundw
            case rel => exact ⟨t + 1, v5, _, by omega, by go_num, rfl, rfl, HO5, HX6, HN5, hb5⟩
            case measure => simp [intOf]; omega
          · go_simp
            refine hK _ _ ?_
            clear hK K
            (try simp only [Act.put, List.setIfInBounds_toArray, List.set_cons_zero, List.set_cons_succ])
            refine wpAny_ready (rs := [4]) (by kernel_rfl) (by simp) (AllReady.cons (List.getElem?_toArray.trans rfl) (fun K hK => ?_) AllReady.nil)
            go_simp
            refine hK _ _ ?_
            clear hK K
            (try simp only [Act.put, List.setIfInBounds_toArray, List.set_cons_zero, List.set_cons_succ])
            refine wpAny_take (i := 10) (v := ?_) (List.getElem?_toArray.trans rfl) (by kernel_rfl) (by kernel_rfl) (by kernel_rfl) (fun _ _ _ h => h) (Or.inl ⟨by rfl, ?_⟩) ?_
            rotate_left
            · (intro w; go_simp; try with_reducible rfl)
            (try simp only [Act.put, List.setIfInBounds_toArray, List.set_cons_zero, List.set_cons_succ])
            refine wpAny_ready (rs := [11]) (by kernel_rfl) (by simp) (AllReady.cons (List.getElem?_toArray.trans rfl) (fun K hK => ?_) AllReady.nil)
            go_simp
            refine hK _ _ ?_
            clear hK K
            (try simp only [Act.put, List.setIfInBounds_toArray, List.set_cons_zero, List.set_cons_succ])
            refine wpAny_ready (rs := [12]) (by kernel_rfl) (by simp) (AllReady.cons (List.getElem?_toArray.trans rfl) (fun K hK => ?_) AllReady.nil)
            refine step_append_ow (w0 := w) w.heap.size (by rfl) (.tmp 49) (.tmp 60) rfl v (mixR F b t) [Go.bits .xor .u8 y1 y2] (some ⟨wr.heap.size, 0, none⟩) 1 1 rfl rfl (Kd.R_alloc (Kd.R_drew hO.out) _) (one_BM wr.drew _) ((hBl).drew.alloc (by exact (hBl).size) _) (by exact Nat.le_trans (hBl).size (by simp)) (by rw [hol.out]; omega) ?_
            intro v5 w5 ho5 hb5 hg5 ha5
            refine hK _ _ ?_
            clear hK K
            (try simp only [Act.put, List.setIfInBounds_toArray, List.set_cons_zero, List.set_cons_succ])
            refine wpAny_take (i := 13) (v := ?_) (List.getElem?_toArray.trans rfl) (by kernel_rfl) (by kernel_rfl) (by kernel_rfl) (fun _ _ _ h => h) (Or.inl ⟨by rfl, ?_⟩) ?_
            rotate_left
            · (intro w; go_simp; try with_reducible rfl)
            (try simp only [Act.put, List.setIfInBounds_toArray, List.set_cons_zero, List.set_cons_succ])
            refine wpAny_done (by kernel_rfl) ?_ _
            have HO5 : Aside0 (Ow w5 w.heap.size v5 (mixR F b (t + 1))) := ⟨by rw [hnx.out]; exact ho5⟩
            have hvl := ow_ltM hO.out
            have HX5 : Ow w5 w.heap.size (.slice (some ⟨gx, 0, none⟩) 64 cx) S := Kd.R_mono (Kd.R_step (Kd.R_tight rfl (Kd.R_alloc (Kd.R_drew HXO.out) _)) (fun q hq hlt => hg5.block q hlt (fun e => by
              have hq' : q = gx := by simpa [Value.ownBlock] using hq
              exact hNE.out gx (by rfl) (by rw [← hq']; exact e.symm)))) (fun _ _ => trivial)
            have HX6 : Aside0 ((t + 1) % 64 ≠ 0 → Ow w5 w.heap.size (.slice (some ⟨gx, 0, none⟩) 64 cx) (chaS k o (m + (((t + 1) / 64 : Nat) : Int)))) := ⟨fun h => by rw [show (t + 1) / 64 = q by have := HQ.out; omega, HSS.out]; exact HX5⟩
            have HN5 : Aside0 (∀ q, (Value.slice (some ⟨gx, 0, none⟩) 64 cx).ownBlock = some q → v5.ownBlock ≠ some q) := ⟨fun q hq => by
              have hq' : gx = q := by simpa [Value.ownBlock] using hq
              subst hq'
              rcases ha5 with e | ⟨q', e, hq'⟩
              · rw [e]; exact hNE.out gx rfl
              · rw [e]; intro e'; injection e' with e'; simp at hq'; omega⟩
            clear ho5 hg5 ha5
            go_wp2_with fail
            go_roundw
            case rel => exact ⟨t + 1, v5, _, by omega, by go_num, rfl, rfl, HO5, HX6, HN5, hb5⟩
            case measure => simp [intOf]; omega
      · have hge : ¬ (t : Int) < (n : Int) := by omega
        have HFIN : Aside0 (Ow wr w.heap.size v (mixT F b n)) := ⟨by have h9 := hO.out; rw [show t = n by omega] at h9; have h8 := mixR_eq F b; rw [HBL.out] at h8; rw [← h8]; exact h9⟩
        clear hO hX hNE
        go_wp2_with fail
        go_ret2
        rw [HFF.out]
        exact ⟨_, rfl, HFIN.out, hBl⟩
end Go.Proofs.Ytkjmjgiklelpiaa.MxB
/- Mix for any input. -/
namespace Go.Proofs.Ytkjmjgiklelpiaa.MxC
open Go.RowKit Go.Proofs.YtkjmjgiklelpiaaW.PrintWords Go.Proofs.Ytkjmjgiklelpiaa.Num Go.Proofs.Ytkjmjgiklelpiaa.WordC Go.Proofs.Ytkjmjgiklelpiaa.Arr Go.Proofs.Ytkjmjgiklelpiaa.App Go.Proofs.Ytkjmjgiklelpiaa.CiC Go.Proofs.Ytkjmjgiklelpiaa.CiD Go.Proofs.Ytkjmjgiklelpiaa.CiB Go.Proofs.Ytkjmjgiklelpiaa.CiK Go.Proofs.Ytkjmjgiklelpiaa.CiL Go.Proofs.Ytkjmjgiklelpiaa.CiM Go.Proofs.Ytkjmjgiklelpiaa.Rz Go.Proofs.Ytkjmjgiklelpiaa.ItA Go.Proofs.Ytkjmjgiklelpiaa.MxA Go.Proofs.Ytkjmjgiklelpiaa.MxB
set_option linter.unusedVariables false
set_option linter.unusedSimpArgs false

theorem below_drewN (n : Nat) (w : World) : Below w.heap.size w (w.drewN n) := pw_below_drewN (Below.refl _ _) n
/-! ### for any input -/
theorem rightC_iff {q r : Nat} : rightC q r = true ↔ q = 32 ∧ r = 12 := by simp [rightC]
/-! ### twice, and in parts -/
theorem xor_nat (a c : Nat) (ha : a < 256) (hc : c < 256) : Go.bits .xor .u8 (a : Int) (c : Int) = ((a ^^^ c : Nat) : Int) := by
  have h : a ^^^ c < 2 ^ 8 := Nat.xor_lt_two_pow (show a < 2 ^ 8 by omega) (show c < 2 ^ 8 by omega)
  have h' : a ^^^ c < 256 := by omega
  have e : Go.bits .xor .u8 (a : Int) (c : Int) = IntKind.u8.wrap ((BitVec.ofInt 8 (a : Int) ^^^ BitVec.ofInt 8 (c : Int)).toNat : Int) := rfl
  rw [e, BitVec.toNat_xor, BitVec.ofInt_natCast, BitVec.ofInt_natCast, BitVec.toNat_ofNat, BitVec.toNat_ofNat, Nat.mod_eq_of_lt (show a < 2 ^ 8 by omega), Nat.mod_eq_of_lt (show c < 2 ^ 8 by omega)]
  show ((a ^^^ c : Nat) : Int) % 256 = _
  generalize a ^^^ c = z at h'
  omega
theorem xor_back {x y : Int} (hx : 0 ≤ x ∧ x < 256) (hy : 0 ≤ y ∧ y < 256) : Go.bits .xor .u8 (Go.bits .xor .u8 x y) y = x := by
  obtain ⟨a, rfl⟩ := Int.eq_ofNat_of_zero_le hx.1
  obtain ⟨c, rfl⟩ := Int.eq_ofNat_of_zero_le hy.1
  have ha : a < 256 := by omega
  have hc : c < 256 := by omega
  have h : a ^^^ c < 2 ^ 8 := Nat.xor_lt_two_pow (show a < 2 ^ 8 by omega) (show c < 2 ^ 8 by omega)
  have h' : a ^^^ c < 256 := by omega
  rw [xor_nat a c ha hc, xor_nat _ c h' hc, Nat.xor_assoc, Nat.xor_self, Nat.xor_zero]
theorem mixT_twice {f : Nat → Int} {b : List Int} (hb : IsB b) (hf : ∀ i, 0 ≤ f i ∧ f i < 256) : mixT f (mixT f b b.length) b.length = b := by
  apply List.ext_getElem
  · rw [mixT_length, mixT_length]
  · intro i h1 h2
    have e1 := mixT_get f (mixT f b b.length) b.length i (by rw [mixT_length]; exact Nat.le_refl _)
    rw [if_pos h2, mixT_get f b b.length i (Nat.le_refl _), if_pos h2, xor_back (getDB hb i) (hf i)] at e1
    rw [List.getD_eq_getElem?_getD, List.getElem?_eq_getElem h1, List.getD_eq_getElem?_getD, List.getElem?_eq_getElem h2] at e1
    exact e1
end Go.Proofs.Ytkjmjgiklelpiaa.MxC
