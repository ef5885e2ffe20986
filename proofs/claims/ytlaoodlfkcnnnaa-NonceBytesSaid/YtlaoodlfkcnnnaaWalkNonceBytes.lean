/- NonceBytes, walked. -/
import Derived.Test.YtlaoodlfkcnnnaaNonceD
import Derived.Test.YtlaoodlfkcnnnaaApp
import Derived.Test.YtlaoodlfkcnnnaaPlainNonceBytes
import Derived.Deep.RegionHeld3
import Derived.Test.YtlaoodlfkcnnnaaRegW
import Derived.Outline
namespace Go.Proofs.Ytlaoodlfkcnnnaa.WalkNonceBytes
open Go.RowKit Go.Proofs.YtlaoodlfkcnnnaaW.PrintWords Go.Proofs.Ytlaoodlfkcnnnaa.Num Go.Proofs.Ytlaoodlfkcnnnaa.WordC Go.Proofs.Ytlaoodlfkcnnnaa.NonceC Go.Proofs.Ytlaoodlfkcnnnaa.NonceD Go.Proofs.Ytlaoodlfkcnnnaa.TakeC Go.Proofs.Ytlaoodlfkcnnnaa.App Go.Proofs.Ytlaoodlfkcnnnaa.Arr
set_option linter.unusedVariables false
set_option linter.unusedSimpArgs false

/-- A nonce, or none. -/
def ofW (e n : Int) : List Int := if rightN e n = true then nonceW e n else []
def ofE (e n : Int) : Int := if rightN e n = true then 0 else 1
theorem rd_nil (w : World) : Rd w none 0 0 [] := ⟨rfl, Nat.le_refl _, Kd.C_nil _ w⟩
theorem Of_c (e n : Int) {w : World} : Calls Try.prog 38 #[.int .i64 e, .int .i64 n] w fun x w' => ∃ A c, x = .returned (.tuple #[.slice A (ofW e n).length c, .int .i64 (ofE e n)]) ∧ Rd w' A (ofW e n).length c (ofW e n) ∧ Below w.heap.size w w' := by
  by_cases h : rightN e n = true
  · obtain ⟨h1, h2, h3, h4⟩ := rightN_iff.1 h
    refine (Of_yes h1 h2 h3 h4 h).mono ?_
    rintro x w1 ⟨g, rfl, hg, hG, hb⟩
    have hr := rd_nonce hG (nonceW_length e n)
    have e1 : ofW e n = nonceW e n := if_pos h
    have e2 : ofE e n = 0 := if_pos h
    rw [e1, e2, nonceW_length]
    exact ⟨_, _, rfl, hr, hb⟩
  · refine (Of_no (by simpa using h)).mono ?_
    rintro x w1 ⟨rfl, hb⟩
    have e1 : ofW e n = [] := if_neg h
    have e2 : ofE e n = 1 := if_neg h
    rw [e1, e2]
    exact ⟨_, _, rfl, rd_nil _, hb⟩
theorem refOf_c (e n : Int) {w : World} : Calls Try.prog 39 #[.int .i64 e, .int .i64 n] w fun x w' => ∃ v, x = .returned (.tuple #[v, .int .i64 (ofE e n)]) ∧ Ow w' w.heap.size v (ofW e n) ∧ Below w.heap.size w w' := by
  have h := PlainNonceBytes.refOf_eq e n 2002 (by omega)
  have hr : rightW e n = rightN e n := rfl
  rw [hr] at h
  by_cases h1 : rightN e n = true
  · rw [if_pos h1] at h
    have e1 : ofW e n = nonceW e n := if_pos h1
    have e2 : ofE e n = 0 := if_pos h1
    rw [e1, e2]
    exact PNonceBytes.hypogeumref10_Of.calls 2002 e n _ _ w h
  · rw [if_neg h1] at h
    have e1 : ofW e n = [] := if_neg h1
    have e2 : ofE e n = 1 := if_neg h1
    rw [e1, e2]
    exact PNonceBytes.hypogeumref10_Of.calls 2002 e n _ _ w h
theorem Read_c {A : Option Addr} {n c : Nat} {l : List Int} {w : World} (hr : Rd w A n c l) (hb : IsB l) :
    Calls Try.prog 40 #[.slice A n c] w fun x w' => x = .returned (.tuple #[.int .i64 (readW l).1, .int .i64 (readW l).2.1, .int .i64 (readW l).2.2]) ∧ Below w.heap.size w w' := by
  obtain ⟨rfl, hc, hC⟩ := hr
  refine (PNonceBytes.nonce_Read.calls 9 A c l _ _ _ w hC hc (PlainNonceBytes.Read_eq l hb 9 (by omega))).mono ?_
  rintro x w' ⟨rfl, hd⟩
  exact ⟨rfl, by first | exact hd | exact hd.below⟩
theorem refRead_c {A : Option Addr} {n c : Nat} {l : List Int} {w : World} (hr : Rd w A n c l) (hb : IsB l) :
    Calls Try.prog 41 #[.slice A n c] w fun x w' => x = .returned (.tuple #[.int .i64 (readW l).1, .int .i64 (readW l).2.1, .int .i64 (readW l).2.2]) ∧ Below w.heap.size w w' := by
  obtain ⟨rfl, hc, hC⟩ := hr
  refine (PNonceBytes.hypogeumref10_Read.calls 9 A c l _ _ _ w hC hc (PlainNonceBytes.refRead_eq l hb 9 (by omega))).mono ?_
  rintro x w' ⟨rfl, hd⟩
  exact ⟨rfl, by first | exact hd | exact hd.below⟩
theorem Bytes_any (e n : Int) {w : World} :
    Calls Try.prog 42 #[.agg #[.int .i64 e, .int .i64 n]] w fun x w' => ∃ A c, x = .returned (.slice A (ofW e n).length c) ∧ Rd w' A (ofW e n).length c (ofW e n) ∧ Below w.heap.size w w' := by
  go_enter Try.func42, Try.ntmps42
  go_wp2_with fail
  refine (Of_c e n).mono ?_
  rintro x w1 ⟨A, c, rfl, hr, hb1⟩
  go_wp2_with fail
  go_ret
  exact ⟨A, c, rfl, hr, ((Below.refl _ w).alloc (Nat.le_refl _) _).trans (hb1.mono (by simp))⟩
theorem ofW_isB (e n : Int) : IsB (ofW e n) := by
  unfold ofW; split
  · exact nonceW_isB e n
  · intro x hx; simp at hx
set_option maxHeartbeats 8000000 in
set_option maxRecDepth 100000 in
theorem walk (e : Int) (_he : (Lit.int .i64 e).wf = true) (n : Int) (_hn : (Lit.int .i64 n).wf = true) (B : Option Addr) (m c : Nat) (l : List Int) {w : World} (hr : Rd w B m c l) (hB : IsB l) (hm : m ≤ 140737488351232) :
    Calls Try.prog 13 #[.int .i64 e, .int .i64 n, .slice B m c] w fun e w' => e = .returned (.bool true) ∧ Below w.heap.size w w' := by
  clear _he _hn
  go_enter Try.func13, Try.ntmps13
  go_wp2_with fail
  refine (Of_c e n).mono ?_
  rintro x w1 ⟨A1, c1, rfl, hr1, hb1⟩
  go_wp2_with fail
  refine (refOf_c e n).mono ?_
  rintro x w2 ⟨v2, rfl, ho2, hb2⟩
  obtain ⟨A2, c2, rfl, hr2⟩ := rd_of_own ho2
  have hE : Ow (w2.alloc (.cells #[] 5)) w.heap.size (.slice (some ⟨w2.heap.size, 0, none⟩) 0 0) [] := ow_empty w2 w.heap.size (Nat.le_trans hb1.size hb2.size)
  have hBE : Below w.heap.size w (w2.alloc (.cells #[] 5)) := (below_next hb1 hb2).alloc (Nat.le_trans hb1.size hb2.size) _
  have hbE : Below w2.heap.size w2 (w2.alloc (.cells #[] 5)) := (Below.refl _ _).alloc (Nat.le_refl _) _
  have hrB := (hr.below (below_next hb1 hb2)).alloc (.cells #[] 5)
  go_wp2_with (at_builtin; refine append_ow (w0 := w2) w2.heap.size rfl (.tmp 30) (.tmp 31) rfl _ [] l B m c rfl rfl (ow_empty w2 _ (Nat.le_refl _)) hrB hbE (by simp) (by simp; omega) ?_; intro v3 w3 ho3 hb3 _ _)
  rw [List.nil_append] at ho3
  obtain ⟨A3, c3, rfl, hr3⟩ := rd_of_own ho3
  have hB3 : Below w.heap.size w w3 := below_next (below_next hb1 hb2) hb3
  clear hE hBE hbE hrB ho2 ho3
  go_wp2_with fail
  refine (Read_c hr3 hB).mono ?_
  rintro x w4 ⟨rfl, hb4⟩
  have hB4 := below_next hB3 hb4
  go_wp2_with fail
  refine (refRead_c (hr.below hB4) hB).mono ?_
  rintro x w5 ⟨rfl, hb5⟩
  have hB5 := below_next hB4 hb5
  have k1 : Rd w5 A1 (ofW e n).length c1 (ofW e n) := (((hr1.below (below_next hb2 hb3)).below hb4).below hb5)
  have k2 : Rd w5 A2 (ofW e n).length c2 (ofW e n) := (((hr2.below hb3).below hb4).below hb5)
  have k3 : Rd w5 A3 l.length c3 l := (hr3.below hb4).below hb5
  have k4 : Rd w5 B m c l := hr.below hB5
  have g1 : ((strOfNums (ofW e n)).toList == (strOfNums (ofW e n)).toList) = true := str_self _
  have g2 : ((strOfNums l).toList == (strOfNums l).toList) = true := str_self _
  have hB5' := hB5.drew
  have hE : ∀ w' : World, Below w5.heap.size w5 w' → ((convert 22 9 (.slice A1 (ofW e n).length c1)).run Try.prog w' = .ok (.string (strOfNums (ofW e n))) w' ∧ (convert 22 9 (.slice A2 (ofW e n).length c2)).run Try.prog w' = .ok (.string (strOfNums (ofW e n))) w' ∧ (convert 22 9 (.slice A3 l.length c3)).run Try.prog w' = .ok (.string (strOfNums l)) w' ∧ (convert 22 9 (.slice B m c)).run Try.prog w' = .ok (.string (strOfNums l)) w') :=
    fun w' hb => ⟨rd_string (k1.below hb), rd_string (k2.below hb), rd_string (k3.below hb), rd_string (k4.below hb)⟩
  have HE := Aside0.mk hE
  have HD : Below w5.heap.size w5 w5.drew := (Below.refl _ w5).drew
  clear hb1 hb2 hb3 hb4 hb5 hB3 hB4 hr1 hr2 hr3 k1 k2 k3 k4 hE
  go_wp2_with fail
  refine wp_region_held_drew (S := fun w' => (convert 22 9 (.slice A1 (ofW e n).length c1)).run Try.prog w' = .ok (.string (strOfNums (ofW e n))) w' ∧ (convert 22 9 (.slice A2 (ofW e n).length c2)).run Try.prog w' = .ok (.string (strOfNums (ofW e n))) w' ∧ (convert 22 9 (.slice A3 l.length c3)).run Try.prog w' = .ok (.string (strOfNums l)) w' ∧ (convert 22 9 (.slice B m c)).run Try.prog w' = .ok (.string (strOfNums l)) w') (by kernel_rfl) ?_ (fun hHeld => ?_)
  · exact HE.out _ HD
  refine wpAnyH_take (i := 0) (v := ?_) (List.getElem?_toArray.trans rfl) (by kernel_rfl) (by kernel_rfl) (by kernel_rfl) (fun _ _ _ h => h) (Or.inl ⟨by rfl, ?_⟩) (by assumption) ?_
  rotate_left
  · (intro w hSw; (try dsimp only at hSw); go_simp; try with_reducible rfl)
  (try simp only [Act.put, List.setIfInBounds_toArray, List.set_cons_zero, List.set_cons_succ])
  refine wpAnyH_take (i := 1) (v := ?_) (List.getElem?_toArray.trans rfl) (by kernel_rfl) (by kernel_rfl) (by kernel_rfl) (fun _ _ _ h => h) (Or.inl ⟨by rfl, ?_⟩) (by assumption) ?_
  rotate_left
  · (intro w hSw; (try dsimp only at hSw); go_simp; try with_reducible rfl)
  (try simp only [Act.put, List.setIfInBounds_toArray, List.set_cons_zero, List.set_cons_succ])
  refine wpAnyH_take (i := 2) (v := ?_) (List.getElem?_toArray.trans rfl) (by kernel_rfl) (by kernel_rfl) (by kernel_rfl) (fun _ _ _ h => h) (Or.inl ⟨by rfl, ?_⟩) (by assumption) ?_
  rotate_left
  · (intro w hSw; (try dsimp only at hSw); go_simp; try with_reducible rfl)
  (try simp only [Act.put, List.setIfInBounds_toArray, List.set_cons_zero, List.set_cons_succ])
  refine wpAnyH_take (i := 3) (v := ?_) (List.getElem?_toArray.trans rfl) (by kernel_rfl) (by kernel_rfl) (by kernel_rfl) (fun _ _ _ h => h) (Or.inl ⟨by rfl, ?_⟩) (by assumption) ?_
  rotate_left
  · (intro w hSw; (try dsimp only at hSw); go_simp; try with_reducible rfl)
  (try simp only [Act.put, List.setIfInBounds_toArray, List.set_cons_zero, List.set_cons_succ])
  refine wpAnyH_take (i := 4) (v := ?_) (List.getElem?_toArray.trans rfl) (by kernel_rfl) (by kernel_rfl) (by kernel_rfl) (fun _ _ _ h => h) (Or.inl ⟨by rfl, ?_⟩) (by assumption) ?_
  rotate_left
  · (intro w hSw; (try dsimp only at hSw); go_simp; try with_reducible rfl)
  (try simp only [Act.put, List.setIfInBounds_toArray, List.set_cons_zero, List.set_cons_succ])
  refine wpAnyH_take (i := 5) (v := ?_) (List.getElem?_toArray.trans rfl) (by kernel_rfl) (by kernel_rfl) (by kernel_rfl) (fun _ _ _ h => h) (Or.inl ⟨by rfl, ?_⟩) (by assumption) ?_
  rotate_left
  · (intro w hSw; (try dsimp only at hSw); go_simp; try with_reducible rfl)
  (try simp only [Act.put, List.setIfInBounds_toArray, List.set_cons_zero, List.set_cons_succ])
  refine wpAnyH_take (i := 6) (v := ?_) (List.getElem?_toArray.trans rfl) (by kernel_rfl) (by kernel_rfl) (by kernel_rfl) (fun _ _ _ h => h) (Or.inl ⟨by rfl, ?_⟩) (by assumption) ?_
  rotate_left
  · (intro w hSw; (try dsimp only at hSw); go_simp; try with_reducible rfl)
  (try simp only [Act.put, List.setIfInBounds_toArray, List.set_cons_zero, List.set_cons_succ])
  refine wpAnyH_take (i := 7) (v := ?_) (List.getElem?_toArray.trans rfl) (by kernel_rfl) (by kernel_rfl) (by kernel_rfl) (fun _ _ _ h => h) (Or.inl ⟨by rfl, ?_⟩) (by assumption) ?_
  rotate_left
  · (intro w hSw; (try dsimp only at hSw); go_simp; try with_reducible rfl)
  (try simp only [Act.put, List.setIfInBounds_toArray, List.set_cons_zero, List.set_cons_succ])
  refine wpAnyH_take (i := 8) (v := ?_) (List.getElem?_toArray.trans rfl) (by kernel_rfl) (by kernel_rfl) (by kernel_rfl) (fun _ _ _ h => h) (Or.inl ⟨by rfl, ?_⟩) (by assumption) ?_
  rotate_left
  · (intro w hSw; (try dsimp only at hSw); go_simp; try with_reducible rfl)
  (try simp only [Act.put, List.setIfInBounds_toArray, List.set_cons_zero, List.set_cons_succ])
  refine wpAnyH_take (i := 9) (v := ?_) (List.getElem?_toArray.trans rfl) (by kernel_rfl) (by kernel_rfl) (by kernel_rfl) (fun _ _ _ h => h) (Or.inl ⟨by rfl, ?_⟩) (by assumption) ?_
  rotate_left
  · (intro w hSw; (try dsimp only at hSw); go_simp; try with_reducible rfl)
  (try simp only [Act.put, List.setIfInBounds_toArray, List.set_cons_zero, List.set_cons_succ])
  refine wpAnyH_take (i := 10) (v := ?_) (List.getElem?_toArray.trans rfl) (by kernel_rfl) (by kernel_rfl) (by kernel_rfl) (fun _ _ _ h => h) (Or.inl ⟨by rfl, ?_⟩) (by assumption) ?_
  rotate_left
  · (intro w hSw; (try dsimp only at hSw); go_simp; try with_reducible rfl)
  (try simp only [Act.put, List.setIfInBounds_toArray, List.set_cons_zero, List.set_cons_succ])
  refine wpAnyH_take (i := 11) (v := ?_) (List.getElem?_toArray.trans rfl) (by kernel_rfl) (by kernel_rfl) (by kernel_rfl) (fun _ _ _ h => h) (Or.inl ⟨by rfl, ?_⟩) (by assumption) ?_
  rotate_left
  · (intro w hSw; (try dsimp only at hSw); go_simp; try with_reducible rfl)
  (try simp only [Act.put, List.setIfInBounds_toArray, List.set_cons_zero, List.set_cons_succ])
  refine wpAnyH_take (i := 12) (v := ?_) (List.getElem?_toArray.trans rfl) (by kernel_rfl) (by kernel_rfl) (by kernel_rfl) (fun _ _ _ h => h) (Or.inl ⟨by rfl, ?_⟩) (by assumption) ?_
  rotate_left
  · (intro w hSw; (try dsimp only at hSw); go_simp; try with_reducible rfl)
  (try simp only [Act.put, List.setIfInBounds_toArray, List.set_cons_zero, List.set_cons_succ])
  refine wpAnyH_take (i := 13) (v := ?_) (List.getElem?_toArray.trans rfl) (by kernel_rfl) (by kernel_rfl) (by kernel_rfl) (fun _ _ _ h => h) (Or.inl ⟨by rfl, ?_⟩) (by assumption) ?_
  rotate_left
  · (intro w hSw; (try dsimp only at hSw); go_simp; try with_reducible rfl)
  (try simp only [Act.put, List.setIfInBounds_toArray, List.set_cons_zero, List.set_cons_succ])
  refine wpAnyH_take (i := 16) (v := ?_) (List.getElem?_toArray.trans rfl) (by kernel_rfl) (by kernel_rfl) (by kernel_rfl) (fun _ _ _ h => h) (Or.inl ⟨by rfl, ?_⟩) (by assumption) ?_
  rotate_left
  · (intro w hSw; (try dsimp only at hSw); go_simp; try with_reducible rfl)
  (try simp only [Act.put, List.setIfInBounds_toArray, List.set_cons_zero, List.set_cons_succ])
  refine wpAnyH_take (i := 17) (v := ?_) (List.getElem?_toArray.trans rfl) (by kernel_rfl) (by kernel_rfl) (by kernel_rfl) (fun _ _ _ h => h) (Or.inl ⟨by rfl, ?_⟩) (by assumption) ?_
  rotate_left
  · (intro w hSw; (try dsimp only at hSw); go_simp; try with_reducible rfl)
  (try simp only [Act.put, List.setIfInBounds_toArray, List.set_cons_zero, List.set_cons_succ])
  refine wpAnyH_ready (rs := [14]) (by kernel_rfl) (by simp) (AllReadyH.cons (List.getElem?_toArray.trans rfl) (fun K hK => ?_) AllReadyH.nil)
  go_simp
  refine (Bytes_any e n).mono ?_
  rintro x w6 ⟨A6, c6, rfl, hr6, hb6⟩
  have HB6 := below_next HD hb6
  have hE6 : ∀ w' : World, Below w6.heap.size w6 w' → (fun w' => Below w6.heap.size w6 w' ∧ (convert 22 9 (.slice A6 (ofW e n).length c6)).run Try.prog w' = .ok (.string (strOfNums (ofW e n))) w' ∧ (convert 22 9 (.slice A1 (ofW e n).length c1)).run Try.prog w' = .ok (.string (strOfNums (ofW e n))) w' ∧ (convert 22 9 (.slice A2 (ofW e n).length c2)).run Try.prog w' = .ok (.string (strOfNums (ofW e n))) w' ∧ (convert 22 9 (.slice A3 l.length c3)).run Try.prog w' = .ok (.string (strOfNums l)) w' ∧ (convert 22 9 (.slice B m c)).run Try.prog w' = .ok (.string (strOfNums l)) w') w' := fun w' hb => ⟨hb, rd_string (hr6.below hb), HE.out _ (below_next HB6 hb)⟩
  have HE6 := Aside0.mk hE6
  clear hE6
  go_wp2_with fail
  refine hK.out _ _ ?_ (fun hHeld => ?_)
  · exact HE.out _ HB6
  clear hK K
  (try simp only [Act.put, List.setIfInBounds_toArray, List.set_cons_zero, List.set_cons_succ])
  refine wpAnyH_weaken (S' := fun w' => Below w6.heap.size w6 w' ∧ (convert 22 9 (.slice A6 (ofW e n).length c6)).run Try.prog w' = .ok (.string (strOfNums (ofW e n))) w' ∧ (convert 22 9 (.slice A1 (ofW e n).length c1)).run Try.prog w' = .ok (.string (strOfNums (ofW e n))) w' ∧ (convert 22 9 (.slice A2 (ofW e n).length c2)).run Try.prog w' = .ok (.string (strOfNums (ofW e n))) w' ∧ (convert 22 9 (.slice A3 l.length c3)).run Try.prog w' = .ok (.string (strOfNums l)) w' ∧ (convert 22 9 (.slice B m c)).run Try.prog w' = .ok (.string (strOfNums l)) w') (fun w h => h.2.2) ?_
  have hHeld2 : (fun w' => Below w6.heap.size w6 w' ∧ (convert 22 9 (.slice A6 (ofW e n).length c6)).run Try.prog w' = .ok (.string (strOfNums (ofW e n))) w' ∧ (convert 22 9 (.slice A1 (ofW e n).length c1)).run Try.prog w' = .ok (.string (strOfNums (ofW e n))) w' ∧ (convert 22 9 (.slice A2 (ofW e n).length c2)).run Try.prog w' = .ok (.string (strOfNums (ofW e n))) w' ∧ (convert 22 9 (.slice A3 l.length c3)).run Try.prog w' = .ok (.string (strOfNums l)) w' ∧ (convert 22 9 (.slice B m c)).run Try.prog w' = .ok (.string (strOfNums l)) w') _ := HE6.out _ (Below.refl _ _)
  dsimp only at hHeld2
  clear hHeld
  refine wpAnyH_take (i := 15) (v := ?_) (List.getElem?_toArray.trans rfl) (by kernel_rfl) (by kernel_rfl) (by kernel_rfl) (fun _ _ _ h => h) (Or.inl ⟨by rfl, ?_⟩) (by assumption) ?_
  rotate_left
  · (intro w hSw; (try dsimp only at hSw); go_simp; try with_reducible rfl)
  (try simp only [Act.put, List.setIfInBounds_toArray, List.set_cons_zero, List.set_cons_succ])
  refine wpAnyH_take (i := 18) (v := ?_) (List.getElem?_toArray.trans rfl) (by kernel_rfl) (by kernel_rfl) (by kernel_rfl) (fun _ _ _ h => h) (Or.inl ⟨by rfl, ?_⟩) (by assumption) ?_
  rotate_left
  · (intro w hSw; (try dsimp only at hSw); go_simp; try with_reducible rfl)
  (try simp only [Act.put, List.setIfInBounds_toArray, List.set_cons_zero, List.set_cons_succ])
  refine wpAnyH_take (i := 19) (v := ?_) (List.getElem?_toArray.trans rfl) (by kernel_rfl) (by kernel_rfl) (by kernel_rfl) (fun _ _ _ h => h) (Or.inl ⟨by rfl, ?_⟩) (by assumption) ?_
  rotate_left
  · (intro w hSw; (try dsimp only at hSw); go_simp; try with_reducible rfl)
  (try simp only [Act.put, List.setIfInBounds_toArray, List.set_cons_zero, List.set_cons_succ])
  refine wpAnyH_take (i := 20) (v := ?_) (List.getElem?_toArray.trans rfl) (by kernel_rfl) (by kernel_rfl) (by kernel_rfl) (fun _ _ _ h => h) (Or.inl ⟨by rfl, ?_⟩) (by assumption) ?_
  rotate_left
  · (intro w hSw; (try dsimp only at hSw); go_simp; try with_reducible rfl)
  (try simp only [Act.put, List.setIfInBounds_toArray, List.set_cons_zero, List.set_cons_succ])
  refine wpAnyH_take (i := 21) (v := ?_) (List.getElem?_toArray.trans rfl) (by kernel_rfl) (by kernel_rfl) (by kernel_rfl) (fun _ _ _ h => h) (Or.inl ⟨by rfl, ?_⟩) (by assumption) ?_
  rotate_left
  · (intro w hSw; (try dsimp only at hSw); go_simp; try with_reducible rfl)
  (try simp only [Act.put, List.setIfInBounds_toArray, List.set_cons_zero, List.set_cons_succ])
  refine wpAnyH_take (i := 22) (v := ?_) (List.getElem?_toArray.trans rfl) (by kernel_rfl) (by kernel_rfl) (by kernel_rfl) (fun _ _ _ h => h) (Or.inl ⟨by rfl, ?_⟩) (by assumption) ?_
  rotate_left
  · (intro w hSw; (try dsimp only at hSw); go_simp; try with_reducible rfl)
  (try simp only [Act.put, List.setIfInBounds_toArray, List.set_cons_zero, List.set_cons_succ])
  refine wpAnyH_take (i := 23) (v := ?_) (List.getElem?_toArray.trans rfl) (by kernel_rfl) (by kernel_rfl) (by kernel_rfl) (fun _ _ _ h => h) (Or.inl ⟨by rfl, ?_⟩) (by assumption) ?_
  rotate_left
  · (intro w hSw; (try dsimp only at hSw); go_simp; try with_reducible rfl)
  (try simp only [Act.put, List.setIfInBounds_toArray, List.set_cons_zero, List.set_cons_succ])
  refine wpAnyH_take (i := 24) (v := ?_) (List.getElem?_toArray.trans rfl) (by kernel_rfl) (by kernel_rfl) (by kernel_rfl) (fun _ _ _ h => h) (Or.inl ⟨by rfl, ?_⟩) (by assumption) ?_
  rotate_left
  · (intro w hSw; (try dsimp only at hSw); go_simp; try with_reducible rfl)
  (try simp only [Act.put, List.setIfInBounds_toArray, List.set_cons_zero, List.set_cons_succ])
  refine wpAnyH_take (i := 25) (v := ?_) (List.getElem?_toArray.trans rfl) (by kernel_rfl) (by kernel_rfl) (by kernel_rfl) (fun _ _ _ h => h) (Or.inl ⟨by rfl, ?_⟩) (by assumption) ?_
  rotate_left
  · (intro w hSw; (try dsimp only at hSw); go_simp; try with_reducible rfl)
  (try simp only [Act.put, List.setIfInBounds_toArray, List.set_cons_zero, List.set_cons_succ])
  refine wpAnyH_take (i := 26) (v := ?_) (List.getElem?_toArray.trans rfl) (by kernel_rfl) (by kernel_rfl) (by kernel_rfl) (fun _ _ _ h => h) (Or.inl ⟨by rfl, ?_⟩) (by assumption) ?_
  rotate_left
  · (intro w hSw; (try dsimp only at hSw); go_simp; try with_reducible rfl)
  (try simp only [Act.put, List.setIfInBounds_toArray, List.set_cons_zero, List.set_cons_succ])
  refine wpAnyH_take (i := 27) (v := ?_) (List.getElem?_toArray.trans rfl) (by kernel_rfl) (by kernel_rfl) (by kernel_rfl) (fun _ _ _ h => h) (Or.inl ⟨by rfl, ?_⟩) (by assumption) ?_
  rotate_left
  · (intro w hSw; (try dsimp only at hSw); go_simp; try with_reducible rfl)
  (try simp only [Act.put, List.setIfInBounds_toArray, List.set_cons_zero, List.set_cons_succ])
  refine wpAnyH_take (i := 28) (v := ?_) (List.getElem?_toArray.trans rfl) (by kernel_rfl) (by kernel_rfl) (by kernel_rfl) (fun _ _ _ h => h) (Or.inl ⟨by rfl, ?_⟩) (by assumption) ?_
  rotate_left
  · (intro w hSw; (try dsimp only at hSw); go_simp; try with_reducible rfl)
  (try simp only [Act.put, List.setIfInBounds_toArray, List.set_cons_zero, List.set_cons_succ])
  refine wpAnyH_take (i := 29) (v := ?_) (List.getElem?_toArray.trans rfl) (by kernel_rfl) (by kernel_rfl) (by kernel_rfl) (fun _ _ _ h => h) (Or.inl ⟨by rfl, ?_⟩) (by assumption) ?_
  rotate_left
  · (intro w hSw; (try dsimp only at hSw); go_simp; try with_reducible rfl)
  (try simp only [Act.put, List.setIfInBounds_toArray, List.set_cons_zero, List.set_cons_succ])
  refine wpAnyH_take (i := 30) (v := ?_) (List.getElem?_toArray.trans rfl) (by kernel_rfl) (by kernel_rfl) (by kernel_rfl) (fun _ _ _ h => h) (Or.inl ⟨by rfl, ?_⟩) (by assumption) ?_
  rotate_left
  · (intro w hSw; (try dsimp only at hSw); go_simp; try with_reducible rfl)
  (try simp only [Act.put, List.setIfInBounds_toArray, List.set_cons_zero, List.set_cons_succ])
  refine wpAnyH_take (i := 31) (v := ?_) (List.getElem?_toArray.trans rfl) (by kernel_rfl) (by kernel_rfl) (by kernel_rfl) (fun _ _ _ h => h) (Or.inl ⟨by rfl, ?_⟩) (by assumption) ?_
  rotate_left
  · (intro w hSw; (try dsimp only at hSw); go_simp; try with_reducible rfl)
  (try simp only [Act.put, List.setIfInBounds_toArray, List.set_cons_zero, List.set_cons_succ])
  refine wpAnyH_take (i := 32) (v := ?_) (List.getElem?_toArray.trans rfl) (by kernel_rfl) (by kernel_rfl) (by kernel_rfl) (fun _ _ _ h => h) (Or.inl ⟨by rfl, ?_⟩) (by assumption) ?_
  rotate_left
  · (intro w hSw; (try dsimp only at hSw); go_simp; try with_reducible rfl)
  (try simp only [Act.put, List.setIfInBounds_toArray, List.set_cons_zero, List.set_cons_succ])
  refine wpAnyH_take (i := 33) (v := ?_) (List.getElem?_toArray.trans rfl) (by kernel_rfl) (by kernel_rfl) (by kernel_rfl) (fun _ _ _ h => h) (Or.inl ⟨by rfl, ?_⟩) (by assumption) ?_
  rotate_left
  · (intro w hSw; (try dsimp only at hSw); go_simp; try with_reducible rfl)
  (try simp only [Act.put, List.setIfInBounds_toArray, List.set_cons_zero, List.set_cons_succ])
  refine wpAnyH_take (i := 34) (v := ?_) (List.getElem?_toArray.trans rfl) (by kernel_rfl) (by kernel_rfl) (by kernel_rfl) (fun _ _ _ h => h) (Or.inl ⟨by rfl, ?_⟩) (by assumption) ?_
  rotate_left
  · (intro w hSw; (try dsimp only at hSw); go_simp; try with_reducible rfl)
  (try simp only [Act.put, List.setIfInBounds_toArray, List.set_cons_zero, List.set_cons_succ])
  refine wpAnyH_take (i := 35) (v := ?_) (List.getElem?_toArray.trans rfl) (by kernel_rfl) (by kernel_rfl) (by kernel_rfl) (fun _ _ _ h => h) (Or.inl ⟨by rfl, ?_⟩) (by assumption) ?_
  rotate_left
  · (intro w hSw; (try dsimp only at hSw); go_simp; try with_reducible rfl)
  (try simp only [Act.put, List.setIfInBounds_toArray, List.set_cons_zero, List.set_cons_succ])
  refine wpAnyH_take (i := 36) (v := ?_) (List.getElem?_toArray.trans rfl) (by kernel_rfl) (by kernel_rfl) (by kernel_rfl) (fun _ _ _ h => h) (Or.inl ⟨by rfl, ?_⟩) (by assumption) ?_
  rotate_left
  · (intro w hSw; (try dsimp only at hSw); go_simp; try with_reducible rfl)
  (try simp only [Act.put, List.setIfInBounds_toArray, List.set_cons_zero, List.set_cons_succ])
  refine wpAnyH_take (i := 37) (v := ?_) (List.getElem?_toArray.trans rfl) (by kernel_rfl) (by kernel_rfl) (by kernel_rfl) (fun _ _ _ h => h) (Or.inl ⟨by rfl, ?_⟩) (by assumption) ?_
  rotate_left
  · (intro w hSw; (try dsimp only at hSw); go_simp; try with_reducible rfl)
  (try simp only [Act.put, List.setIfInBounds_toArray, List.set_cons_zero, List.set_cons_succ])
  refine wpAnyH_take (i := 38) (v := ?_) (List.getElem?_toArray.trans rfl) (by kernel_rfl) (by kernel_rfl) (by kernel_rfl) (fun _ _ _ h => h) (Or.inl ⟨by rfl, ?_⟩) (by assumption) ?_
  rotate_left
  · (intro w hSw; (try dsimp only at hSw); go_simp; try with_reducible rfl)
  (try simp only [Act.put, List.setIfInBounds_toArray, List.set_cons_zero, List.set_cons_succ])
  refine wpAnyH_take (i := 39) (v := ?_) (List.getElem?_toArray.trans rfl) (by kernel_rfl) (by kernel_rfl) (by kernel_rfl) (fun _ _ _ h => h) (Or.inl ⟨by rfl, ?_⟩) (by assumption) ?_
  rotate_left
  · (intro w hSw; (try dsimp only at hSw); go_simp; try with_reducible rfl)
  (try simp only [Act.put, List.setIfInBounds_toArray, List.set_cons_zero, List.set_cons_succ])
  refine wpAnyH_take (i := 40) (v := ?_) (List.getElem?_toArray.trans rfl) (by kernel_rfl) (by kernel_rfl) (by kernel_rfl) (fun _ _ _ h => h) (Or.inl ⟨by rfl, ?_⟩) (by assumption) ?_
  rotate_left
  · (intro w hSw; (try dsimp only at hSw); go_simp; try with_reducible rfl)
  (try simp only [Act.put, List.setIfInBounds_toArray, List.set_cons_zero, List.set_cons_succ])
  refine wpAnyH_take (i := 41) (v := ?_) (List.getElem?_toArray.trans rfl) (by kernel_rfl) (by kernel_rfl) (by kernel_rfl) (fun _ _ _ h => h) (Or.inl ⟨by rfl, ?_⟩) (by assumption) ?_
  rotate_left
  · (intro w hSw; (try dsimp only at hSw); go_simp; try with_reducible rfl)
  (try simp only [Act.put, List.setIfInBounds_toArray, List.set_cons_zero, List.set_cons_succ])
  refine wpAnyH_take (i := 42) (v := ?_) (List.getElem?_toArray.trans rfl) (by kernel_rfl) (by kernel_rfl) (by kernel_rfl) (fun _ _ _ h => h) (Or.inl ⟨by rfl, ?_⟩) (by assumption) ?_
  rotate_left
  · (intro w hSw; (try dsimp only at hSw); go_simp; try with_reducible rfl)
  (try simp only [Act.put, List.setIfInBounds_toArray, List.set_cons_zero, List.set_cons_succ])
  refine wpAnyH_ready (rs := [43]) (by kernel_rfl) (by simp) (AllReadyH.cons (List.getElem?_toArray.trans rfl) (fun K hK => ?_) AllReadyH.nil)
  go_simp
  refine awake10_c.mono ?_
  rintro x w7 ⟨rfl, hb7⟩
  go_wp2_with fail
  refine hK.out _ _ ?_ (fun hHeld => ?_)
  · exact HE6.out _ hb7
  clear hK K
  (try simp only [Act.put, List.setIfInBounds_toArray, List.set_cons_zero, List.set_cons_succ])
  refine wpAnyH_take (i := 44) (v := ?_) (List.getElem?_toArray.trans rfl) (by kernel_rfl) (by kernel_rfl) (by kernel_rfl) (fun _ _ _ h => h) (Or.inl ⟨by rfl, ?_⟩) (by assumption) ?_
  rotate_left
  · (intro w hSw; (try dsimp only at hSw); go_simp; try with_reducible rfl)
  (try simp only [Act.put, List.setIfInBounds_toArray, List.set_cons_zero, List.set_cons_succ])
  refine wpAnyH_take (i := 45) (v := ?_) (List.getElem?_toArray.trans rfl) (by kernel_rfl) (by kernel_rfl) (by kernel_rfl) (fun _ _ _ h => h) (Or.inl ⟨by rfl, ?_⟩) (by assumption) ?_
  rotate_left
  · (intro w hSw; (try dsimp only at hSw); go_simp; try with_reducible rfl)
  (try simp only [Act.put, List.setIfInBounds_toArray, List.set_cons_zero, List.set_cons_succ])
  refine wpAnyH_done (by kernel_rfl) ?_ _
  go_wp2
  go_ret
  exact ⟨rfl, below_next hB5 (below_next HB6 hb7)⟩
end Go.Proofs.Ytlaoodlfkcnnnaa.WalkNonceBytes
