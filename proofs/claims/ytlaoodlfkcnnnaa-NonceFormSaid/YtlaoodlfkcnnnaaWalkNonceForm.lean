/- NonceForm, walked: a nonce is read as what it was made of; what is read is told as it stood. -/
import Derived.Test.YtlaoodlfkcnnnaaNonceF
namespace Go.Proofs.Ytlaoodlfkcnnnaa.WalkNonceForm
open Go.RowKit Go.Proofs.YtlaoodlfkcnnnaaW.PrintWords Go.Proofs.Ytlaoodlfkcnnnaa.Num Go.Proofs.Ytlaoodlfkcnnnaa.WordC Go.Proofs.Ytlaoodlfkcnnnaa.NonceC Go.Proofs.Ytlaoodlfkcnnnaa.NonceD Go.Proofs.Ytlaoodlfkcnnnaa.TakeC Go.Proofs.Ytlaoodlfkcnnnaa.App Go.Proofs.Ytlaoodlfkcnnnaa.Arr Go.Proofs.Ytlaoodlfkcnnnaa.NonceF
set_option linter.unusedVariables false
set_option linter.unusedSimpArgs false

theorem read_nonce {e n : Int} (h : rightN e n = true) : readW (nonceW e n) = (e, n, 0) := by
  obtain ⟨h1, h2, h3, h4⟩ := rightN_iff.1 h
  unfold readW
  rw [if_pos (nonceW_length e n)]
  have e1 : (nonceW e n).take 4 = told 4 e := by unfold nonceW; rw [List.take_append_of_le_length (by rw [told_length]; omega), List.take_of_length_le (by rw [told_length]; omega)]
  have e2 : (nonceW e n).drop 4 = told 8 n := by unfold nonceW; rw [List.drop_append_of_le_length (by rw [told_length]; omega), List.drop_of_length_le (by rw [told_length]; omega), List.nil_append]
  rw [e1, e2, be_told 4 e h1 (by omega), be_told 8 n h3 (by omega), if_neg (by omega), if_neg (by omega)]
theorem told_be (n : Nat) : ∀ l : List Int, l.length = n → IsB l → told n (be l) = l := by
  induction n with
  | zero => intro l hl _; rw [List.eq_nil_of_length_eq_zero hl]; rfl
  | succ n ih =>
    intro l hl hb
    obtain ⟨l', x, rfl⟩ : ∃ l' x, l = l' ++ [x] := ⟨l.dropLast, l.getLast (by intro h; simp [h] at hl), (List.dropLast_concat_getLast _).symm⟩
    have hx := hb x (by simp)
    simp only [told, be_snoc]
    rw [show (be l' * 256 + x) / 256 = be l' by omega, show (be l' * 256 + x) % 256 = x by omega, ih l' (by simpa using hl) (fun y hy => hb y (by simp [hy]))]
theorem read_ok {l : List Int} (hb : IsB l) (h : (readW l).2.2 = 0) : rightN (readW l).1 (readW l).2.1 = true ∧ nonceW (readW l).1 (readW l).2.1 = l := by
  unfold readW at h ⊢
  by_cases h1 : l.length = 12
  · rw [if_pos h1] at h ⊢
    have b1 : IsB (l.take 4) := fun x hx => hb x (List.mem_of_mem_take hx)
    have b2 : IsB (l.drop 4) := fun x hx => hb x (List.mem_of_mem_drop hx)
    have r1 := be_range _ b1
    have r2 := be_range _ b2
    by_cases c1 : be (l.take 4) > 64
    · rw [if_pos c1] at h; simp at h
    · rw [if_neg c1] at h ⊢
      by_cases c2 : be (l.drop 4) > 1099511627776
      · rw [if_pos c2] at h; simp at h
      · rw [if_neg c2]
        refine ⟨rightN_iff.2 (show 0 ≤ be (l.take 4) ∧ be (l.take 4) ≤ 64 ∧ 0 ≤ be (l.drop 4) ∧ be (l.drop 4) ≤ 1099511627776 from ⟨r1.1, by omega, r2.1, by omega⟩), ?_⟩
        unfold nonceW
        simp only
        rw [told_be 4 _ (by simp; omega) b1, told_be 8 _ (by simp; omega) b2, List.take_append_drop]
  · rw [if_neg h1] at h; simp at h
theorem read_no {l : List Int} (h : (readW l).2.2 ≠ 0) : (readW l).1 = 0 ∧ (readW l).2.1 = 0 := by
  unfold readW at h ⊢
  split <;> rename_i h1
  · rw [if_pos h1] at h
    split <;> rename_i h2
    · exact ⟨rfl, rfl⟩
    · rw [if_neg h2] at h
      split <;> rename_i h3
      · exact ⟨rfl, rfl⟩
      · rw [if_neg h3] at h; simp at h
  · exact ⟨rfl, rfl⟩
set_option maxHeartbeats 8000000 in
set_option maxRecDepth 100000 in
theorem walk_yy (e n : Int) (B : Option Addr) (m c : Nat) (l : List Int) {w : World} (hr : Rd w B m c l) (hB : IsB l) (hm : m ≤ 140737488351232) (hR : rightN e n = true) (p q r : Int) (hp : readW l = (p, q, r)) (h1 : r = 0) (h2 : rightN p q = true) (h3 : nonceW p q = l) :
    Calls Try.prog 14 #[.int .i64 e, .int .i64 n, .slice B m c] w fun e w' => e = .returned (.bool true) ∧ Below w.heap.size w w' := by
  have HP := Aside0.mk hp
  clear hp
  subst h1
  have H3 := Aside0.mk h3
  clear h3
  have hq := rightN_iff.1 h2
  have g2 : ((strOfNums l).toList == (strOfNums l).toList) = true := str_self _
  have hR' := rightN_iff.1 hR
  have E1 := Aside0.mk (read_nonce hR)
  go_enter Try.func14, Try.ntmps14
  go_wp2_with fail
  refine (Of_yes hR'.1 hR'.2.1 hR'.2.2.1 hR'.2.2.2 hR).mono ?_
  rintro x w1 ⟨g, rfl, hg, hG, hb1⟩
  have hr1 := rd_nonce hG (nonceW_length e n)
  clear hG
  go_wp2_with fail
  refine (Read_c hr1 (nonceW_isB e n)).mono ?_
  rw [E1.out]
  rintro x w2 ⟨rfl, hb2⟩
  have hB2 : Below w.heap.size w w2 := below_next hb1 hb2
  clear hb1 hb2 hr1 hg
  have hrB := (hr.below hB2).alloc (.cells #[] 5)
  have hbE : Below w2.heap.size w2 (w2.alloc (.cells #[] 5)) := (Below.refl _ _).alloc (Nat.le_refl _) _
  go_wp2_with (at_builtin; refine append_ow (w0 := w2) w2.heap.size rfl (.tmp 44) (.tmp 45) rfl _ [] l B m c rfl rfl (ow_empty w2 _ (Nat.le_refl _)) hrB hbE (by simp) (by simp; omega) ?_; intro v3 w3 ho3 hb3 _ _)
  rw [List.nil_append] at ho3
  obtain ⟨A3, c3, rfl, hr3⟩ := rd_of_own ho3
  have hB3 : Below w.heap.size w w3 := below_next hB2 hb3
  clear hrB hbE ho3 hB2 hb3
  go_wp2_with fail
  refine (Read_c hr3 hB).mono ?_
  rw [HP.out]
  rintro x w4 ⟨rfl, hb4⟩
  have hB4 := below_next hB3 hb4
  clear hB3 hb4 hr3
  go_wp2_with fail
  refine (Of_yes hq.1 hq.2.1 hq.2.2.1 hq.2.2.2 h2).mono ?_
  rintro x w5 ⟨g5, rfl, hg5, hG5, hb5⟩
  have hr5 := rd_nonce hG5 (nonceW_length p q)
  rw [H3.out] at hr5
  have hB5 := below_next hB4 hb5
  have s1 := rd_string hr5
  have s2 := rd_string (hr.below hB5)
  clear hG5 hg5 hb5 hB4
  go_wp2_with fail
  refine awake10_c.mono ?_
  rintro x w6 ⟨rfl, hb6⟩
  go_wp2_with fail
  go_ret
  exact ⟨rfl, below_next hB5 hb6⟩
set_option maxHeartbeats 8000000 in
set_option maxRecDepth 100000 in
theorem walk_yn (e n : Int) (B : Option Addr) (m c : Nat) (l : List Int) {w : World} (hr : Rd w B m c l) (hB : IsB l) (hm : m ≤ 140737488351232) (hR : rightN e n = true) (p q r : Int) (hp : readW l = (p, q, r)) (h1 : (r == 0) = false) (h2 : p = 0) (h3 : q = 0) :
    Calls Try.prog 14 #[.int .i64 e, .int .i64 n, .slice B m c] w fun e w' => e = .returned (.bool true) ∧ Below w.heap.size w w' := by
  have HP := Aside0.mk hp
  clear hp
  subst h2 h3
  have h1' : (r != 0) = true := by simpa using h1
  have hR' := rightN_iff.1 hR
  have E1 := Aside0.mk (read_nonce hR)
  go_enter Try.func14, Try.ntmps14
  go_wp2_with fail
  refine (Of_yes hR'.1 hR'.2.1 hR'.2.2.1 hR'.2.2.2 hR).mono ?_
  rintro x w1 ⟨g, rfl, hg, hG, hb1⟩
  have hr1 := rd_nonce hG (nonceW_length e n)
  clear hG
  go_wp2_with fail
  refine (Read_c hr1 (nonceW_isB e n)).mono ?_
  rw [E1.out]
  rintro x w2 ⟨rfl, hb2⟩
  have hB2 : Below w.heap.size w w2 := below_next hb1 hb2
  clear hb1 hb2 hr1 hg
  have hrB := (hr.below hB2).alloc (.cells #[] 5)
  have hbE : Below w2.heap.size w2 (w2.alloc (.cells #[] 5)) := (Below.refl _ _).alloc (Nat.le_refl _) _
  go_wp2_with (at_builtin; refine append_ow (w0 := w2) w2.heap.size rfl (.tmp 44) (.tmp 45) rfl _ [] l B m c rfl rfl (ow_empty w2 _ (Nat.le_refl _)) hrB hbE (by simp) (by simp; omega) ?_; intro v3 w3 ho3 hb3 _ _)
  rw [List.nil_append] at ho3
  obtain ⟨A3, c3, rfl, hr3⟩ := rd_of_own ho3
  have hB3 : Below w.heap.size w w3 := below_next hB2 hb3
  clear hrB hbE ho3 hB2 hb3
  go_wp2_with fail
  refine (Read_c hr3 hB).mono ?_
  rw [HP.out]
  rintro x w4 ⟨rfl, hb4⟩
  have hB4 := below_next hB3 hb4
  clear hB3 hb4 hr3
  go_wp2_with fail
  refine awake10_c.mono ?_
  rintro x w6 ⟨rfl, hb6⟩
  go_wp2_with fail
  go_ret
  exact ⟨rfl, below_next hB4 hb6⟩
set_option maxHeartbeats 8000000 in
set_option maxRecDepth 100000 in
theorem walk_ny (e n : Int) (B : Option Addr) (m c : Nat) (l : List Int) {w : World} (hr : Rd w B m c l) (hB : IsB l) (hm : m ≤ 140737488351232) (hR : rightN e n = false) (p q r : Int) (hp : readW l = (p, q, r)) (h1 : r = 0) (h2 : rightN p q = true) (h3 : nonceW p q = l) :
    Calls Try.prog 14 #[.int .i64 e, .int .i64 n, .slice B m c] w fun e w' => e = .returned (.bool true) ∧ Below w.heap.size w w' := by
  have HP := Aside0.mk hp
  clear hp
  subst h1
  have H3 := Aside0.mk h3
  clear h3
  have hq := rightN_iff.1 h2
  have g2 : ((strOfNums l).toList == (strOfNums l).toList) = true := str_self _
  go_enter Try.func14, Try.ntmps14
  go_wp2_with fail
  refine (Of_no hR).mono ?_
  rintro x w2 ⟨rfl, hB2⟩
  have hrB := (hr.below hB2).alloc (.cells #[] 5)
  have hbE : Below w2.heap.size w2 (w2.alloc (.cells #[] 5)) := (Below.refl _ _).alloc (Nat.le_refl _) _
  go_wp2_with (at_builtin; refine append_ow (w0 := w2) w2.heap.size rfl (.tmp 44) (.tmp 45) rfl _ [] l B m c rfl rfl (ow_empty w2 _ (Nat.le_refl _)) hrB hbE (by simp) (by simp; omega) ?_; intro v3 w3 ho3 hb3 _ _)
  rw [List.nil_append] at ho3
  obtain ⟨A3, c3, rfl, hr3⟩ := rd_of_own ho3
  have hB3 : Below w.heap.size w w3 := below_next hB2 hb3
  clear hrB hbE ho3 hB2 hb3
  go_wp2_with fail
  refine (Read_c hr3 hB).mono ?_
  rw [HP.out]
  rintro x w4 ⟨rfl, hb4⟩
  have hB4 := below_next hB3 hb4
  clear hB3 hb4 hr3
  go_wp2_with fail
  refine (Of_yes hq.1 hq.2.1 hq.2.2.1 hq.2.2.2 h2).mono ?_
  rintro x w5 ⟨g5, rfl, hg5, hG5, hb5⟩
  have hr5 := rd_nonce hG5 (nonceW_length p q)
  rw [H3.out] at hr5
  have hB5 := below_next hB4 hb5
  have s1 := rd_string hr5
  have s2 := rd_string (hr.below hB5)
  clear hG5 hg5 hb5 hB4
  go_wp2_with fail
  refine awake10_c.mono ?_
  rintro x w6 ⟨rfl, hb6⟩
  go_wp2_with fail
  go_ret
  exact ⟨rfl, below_next hB5 hb6⟩
set_option maxHeartbeats 8000000 in
set_option maxRecDepth 100000 in
theorem walk_nn (e n : Int) (B : Option Addr) (m c : Nat) (l : List Int) {w : World} (hr : Rd w B m c l) (hB : IsB l) (hm : m ≤ 140737488351232) (hR : rightN e n = false) (p q r : Int) (hp : readW l = (p, q, r)) (h1 : (r == 0) = false) (h2 : p = 0) (h3 : q = 0) :
    Calls Try.prog 14 #[.int .i64 e, .int .i64 n, .slice B m c] w fun e w' => e = .returned (.bool true) ∧ Below w.heap.size w w' := by
  have HP := Aside0.mk hp
  clear hp
  subst h2 h3
  have h1' : (r != 0) = true := by simpa using h1
  go_enter Try.func14, Try.ntmps14
  go_wp2_with fail
  refine (Of_no hR).mono ?_
  rintro x w2 ⟨rfl, hB2⟩
  have hrB := (hr.below hB2).alloc (.cells #[] 5)
  have hbE : Below w2.heap.size w2 (w2.alloc (.cells #[] 5)) := (Below.refl _ _).alloc (Nat.le_refl _) _
  go_wp2_with (at_builtin; refine append_ow (w0 := w2) w2.heap.size rfl (.tmp 44) (.tmp 45) rfl _ [] l B m c rfl rfl (ow_empty w2 _ (Nat.le_refl _)) hrB hbE (by simp) (by simp; omega) ?_; intro v3 w3 ho3 hb3 _ _)
  rw [List.nil_append] at ho3
  obtain ⟨A3, c3, rfl, hr3⟩ := rd_of_own ho3
  have hB3 : Below w.heap.size w w3 := below_next hB2 hb3
  clear hrB hbE ho3 hB2 hb3
  go_wp2_with fail
  refine (Read_c hr3 hB).mono ?_
  rw [HP.out]
  rintro x w4 ⟨rfl, hb4⟩
  have hB4 := below_next hB3 hb4
  clear hB3 hb4 hr3
  go_wp2_with fail
  refine awake10_c.mono ?_
  rintro x w6 ⟨rfl, hb6⟩
  go_wp2_with fail
  go_ret
  exact ⟨rfl, below_next hB4 hb6⟩
theorem walk (e : Int) (_he : (Lit.int .i64 e).wf = true) (n : Int) (_hn : (Lit.int .i64 n).wf = true) (B : Option Addr) (m c : Nat) (l : List Int) {w : World} (hr : Rd w B m c l) (hB : IsB l) (hm : m ≤ 140737488351232) :
    Calls Try.prog 14 #[.int .i64 e, .int .i64 n, .slice B m c] w fun e w' => e = .returned (.bool true) ∧ Below w.heap.size w w' := by
  by_cases h0 : (readW l).2.2 = 0
  · have h := read_ok hB h0
    cases hR : rightN e n with
    | true => exact walk_yy e n B m c l hr hB hm hR _ _ _ rfl h0 h.1 h.2
    | false => exact walk_ny e n B m c l hr hB hm hR _ _ _ rfl h0 h.1 h.2
  · have h := read_no h0
    cases hR : rightN e n with
    | true => exact walk_yn e n B m c l hr hB hm hR _ _ _ rfl (beq_eq_false_iff_ne.2 h0) h.1 h.2
    | false => exact walk_nn e n B m c l hr hB hm hR _ _ _ rfl (beq_eq_false_iff_ne.2 h0) h.1 h.2
end Go.Proofs.Ytlaoodlfkcnnnaa.WalkNonceForm
