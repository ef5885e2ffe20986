/- MacHolds, walked. -/
import Derived.Test.YtmmbonlidcbkcaaDoorDgLaw
import Derived.Deep.RegionHeld3
import Derived.Test.YtmmbonlidcbkcaaDoorHmac
import Derived.Test.YtmmbonlidcbkcaaDoorMacC
import Derived.Test.YtmmbonlidcbkcaaDoorMacTag
import Derived.Test.YtmmbonlidcbkcaaDoorMacLaw
import Derived.Test.YtmmbonlidcbkcaaDoorMacAwake
import Derived.Test.YtmmbonlidcbkcaaDoorMacHold
namespace Go.Proofs.YtmmbonlidcbkcaaDoor.WalkMacHolds
open Go.RowKit Go.Proofs.YtmmbonlidcbkcaaDoorW.PrintWords Go.Proofs.YtmmbonlidcbkcaaDoor.Num Go.Proofs.YtmmbonlidcbkcaaDoor.Sha Go.Proofs.YtmmbonlidcbkcaaDoor.WordC Go.Proofs.YtmmbonlidcbkcaaDoor.Arr Go.Proofs.YtmmbonlidcbkcaaDoor.App Go.Proofs.YtmmbonlidcbkcaaDoor.DgC Go.Proofs.YtmmbonlidcbkcaaDoor.DgBlock Go.Proofs.YtmmbonlidcbkcaaDoor.DgState Go.Proofs.YtmmbonlidcbkcaaDoor.DgAdd Go.Proofs.YtmmbonlidcbkcaaDoor.DgSum Go.Proofs.YtmmbonlidcbkcaaDoor.DgOf Go.Proofs.YtmmbonlidcbkcaaDoor.DgCopy Go.Proofs.YtmmbonlidcbkcaaDoor.DgLaw Go.Proofs.YtmmbonlidcbkcaaDoor.DgWords Go.Proofs.YtmmbonlidcbkcaaDoor.RefOf Go.Proofs.YtmmbonlidcbkcaaDoor.Hmac Go.Proofs.YtmmbonlidcbkcaaDoor.MacC Go.Proofs.YtmmbonlidcbkcaaDoor.MacTag Go.Proofs.YtmmbonlidcbkcaaDoor.MacLaw Go.Proofs.YtmmbonlidcbkcaaDoor.MacAwake Go.Proofs.YtmmbonlidcbkcaaDoor.MacHold Go.Proofs.YtmmbonlidcbkcaaDoor.MacNew Go.Proofs.YtmmbonlidcbkcaaDoor.MacRef
set_option linter.unusedVariables false
set_option linter.unusedSimpArgs false

theorem wpAnyH_weaken {P : Program} {ops : Array Oper} {Q : Exit → Act → World → Prop} {md : Region.Mode} {S S' : World → Prop} (hs : ∀ w, S' w → S w) :
    ∀ {fuel : Nat} {listed : Array Bool} {a : Act} {w : World}, wpAnyH P md ops Q S' fuel listed a w → wpAnyH P md ops Q S fuel listed a w
  | 0, _, _, _, h => h
  | fuel + 1, _, _, _, h => ⟨h.1, fun i hi => wpOp_mono (fun a' w' h' => ⟨hs w' h'.1, wpAnyH_weaken hs h'.2⟩) (h.2 i hi)⟩
set_option maxHeartbeats 8000000 in
set_option maxRecDepth 100000 in
theorem big {A A' : Option Addr} {n c n' c' : Nat} {x : Value} {w : World} (h : ¬ (n ≤ 4000 ∧ n' ≤ 4000)) (ht : Tb w) :
    Calls Tryd.prog 12 #[.slice A n c, .slice A' n' c', x] w fun e w' => e = .returned (.bool true) ∧ Below w.heap.size w w' := by
  by_cases h1 : n ≤ 4000
  · have b1 : ¬ (4000 : Int) < (n : Int) := by omega
    have b2 : (4000 : Int) < (n' : Int) := by omega
    go_enter Tryd.func12, Tryd.ntmps12
    go_wp2_with fail
    refine (awake34_c ht).mono ?_
    rintro x w5 ⟨rfl, hb5⟩
    go_wp2_with fail
    go_ret
    exact ⟨rfl, hb5⟩
  · have b1 : (4000 : Int) < (n : Int) := by omega
    go_enter Tryd.func12, Tryd.ntmps12
    go_wp2_with fail
    refine (awake34_c ht).mono ?_
    rintro x w5 ⟨rfl, hb5⟩
    go_wp2_with fail
    go_ret
    exact ⟨rfl, hb5⟩
set_option maxHeartbeats 8000000 in
set_option maxRecDepth 100000 in
theorem walk (A : Option Addr) (n c : Nat) (l : List Int) {w : World} (hr : Rd w A n c l) (hB : IsB l) (hn : n ≤ 140737488351232) (A' : Option Addr) (n' c' : Nat) (l' : List Int) (hr' : Rd w A' n' c' l') (hB' : IsB l') (hn' : n' ≤ 140737488351232) (A'' : Option Addr) (n'' c'' : Nat) (l'' : List Int) (hr'' : Rd w A'' n'' c'' l'') (hB'' : IsB l'') (hn'' : n'' ≤ 140737488351232) (ht : Tb w) :
    Calls Tryd.prog 12 #[.slice A n c, .slice A' n' c', .slice A'' n'' c''] w fun e w' => e = .returned (.bool true) ∧ Below w.heap.size w w' := by
  by_cases hall : n ≤ 4000 ∧ n' ≤ 4000
  · obtain ⟨h1, h2⟩ := hall
    have b1 : ¬ (4000 : Int) < (n : Int) := by omega
    have b2 : ¬ (4000 : Int) < (n' : Int) := by omega
    have HL := Aside0.mk hr.len
    have HL' := Aside0.mk hr'.len
    have HL'' := Aside0.mk hr''.len
    have hlT := tagS_length l l'
    have hIT := tagS_isB l l'
    obtain ⟨T, HT⟩ : ∃ T, Aside0 (tagS l l' = T) := ⟨_, ⟨rfl⟩⟩
    rw [HT.out] at hlT hIT
    have HLT := Aside0.mk hlT
    have hsym : eqB l'' T = eqB T l'' := by rw [Bool.eq_iff_iff, eqB_iff, eqB_iff]; exact eq_comm
    obtain ⟨b, HB1⟩ : ∃ b, Aside0 (eqB T l'' = b) := ⟨_, ⟨rfl⟩⟩
    have gb : ((strOfNums l'').toList == (strOfNums T).toList) = b := by rw [str_eq hB'' hIT, hsym, HB1.out]
    have g2 : ((strOfNums l'').toList == (strOfNums l'').toList) = true := str_self _
    clear hlT hsym
    go_enter Tryd.func12, Tryd.ntmps12
    go_wp2_with fail
    refine (own35_c hr'' hn'').mono ?_
    rintro x w1 ⟨v1, rfl, ho1, hb1⟩
    obtain ⟨A1, c1, rfl, r1⟩ := rd_of_own ho1
    rw [HL''.out] at r1 ⊢
    clear ho1
    have ht1 := ht.below hb1
    have hq := hr''.below hb1
    have hE : ∀ w' : World, Below w1.heap.size w1 w' → (fun w' => (convert 22 9 (.slice A'' n'' c'')).run Tryd.prog w' = .ok (.string (strOfNums l'')) w' ∧ (convert 22 9 (.slice A1 n'' c1)).run Tryd.prog w' = .ok (.string (strOfNums l'')) w') w' := fun w' hb => ⟨rd_string (hq.below hb), rd_string (r1.below hb)⟩
    have HE := Aside0.mk hE
    have HD : Below w1.heap.size w1 w1.drew := (Below.refl _ w1).drew
    clear hE
    go_wp2_with fail
    refine wp_region_held_drew (S := fun w' => (convert 22 9 (.slice A'' n'' c'')).run Tryd.prog w' = .ok (.string (strOfNums l'')) w' ∧ (convert 22 9 (.slice A1 n'' c1)).run Tryd.prog w' = .ok (.string (strOfNums l'')) w') (by kernel_rfl) ?_ (fun hHeld => ?_)
    · exact HE.out _ HD
    refine wpAnyH_take (i := 0) (v := ?_) (List.getElem?_toArray.trans rfl) (by kernel_rfl) (by kernel_rfl) (by kernel_rfl) (fun _ _ _ h => h) (Or.inl ⟨by rfl, ?_⟩) (by assumption) ?_
    rotate_left
    · (intro w hSw; (try dsimp only at hSw); go_simp; try with_reducible rfl)
    (try simp only [Act.put, List.setIfInBounds_toArray, List.set_cons_zero, List.set_cons_succ])
    refine wpAnyH_take (i := 3) (v := ?_) (List.getElem?_toArray.trans rfl) (by kernel_rfl) (by kernel_rfl) (by kernel_rfl) (fun _ _ _ h => h) (Or.inl ⟨by rfl, ?_⟩) (by assumption) ?_
    rotate_left
    · (intro w hSw; (try dsimp only at hSw); go_simp; try with_reducible rfl)
    (try simp only [Act.put, List.setIfInBounds_toArray, List.set_cons_zero, List.set_cons_succ])
    refine wpAnyH_take (i := 4) (v := ?_) (List.getElem?_toArray.trans rfl) (by kernel_rfl) (by kernel_rfl) (by kernel_rfl) (fun _ _ _ h => h) (Or.inl ⟨by rfl, ?_⟩) (by assumption) ?_
    rotate_left
    · (intro w hSw; (try dsimp only at hSw); go_simp; try with_reducible rfl)
    (try simp only [Act.put, List.setIfInBounds_toArray, List.set_cons_zero, List.set_cons_succ])
    refine wpAnyH_take (i := 8) (v := ?_) (List.getElem?_toArray.trans rfl) (by kernel_rfl) (by kernel_rfl) (by kernel_rfl) (fun _ _ _ h => h) (Or.inl ⟨by rfl, ?_⟩) (by assumption) ?_
    rotate_left
    · (intro w hSw; (try dsimp only at hSw); go_simp; try with_reducible rfl)
    (try simp only [Act.put, List.setIfInBounds_toArray, List.set_cons_zero, List.set_cons_succ])
    refine wpAnyH_take (i := 9) (v := ?_) (List.getElem?_toArray.trans rfl) (by kernel_rfl) (by kernel_rfl) (by kernel_rfl) (fun _ _ _ h => h) (Or.inl ⟨by rfl, ?_⟩) (by assumption) ?_
    rotate_left
    · (intro w hSw; (try dsimp only at hSw); go_simp; try with_reducible rfl)
    (try simp only [Act.put, List.setIfInBounds_toArray, List.set_cons_zero, List.set_cons_succ])
    refine wpAnyH_take (i := 10) (v := ?_) (List.getElem?_toArray.trans rfl) (by kernel_rfl) (by kernel_rfl) (by kernel_rfl) (fun _ _ _ h => h) (Or.inl ⟨by rfl, ?_⟩) (by assumption) ?_
    rotate_left
    · (intro w hSw; (try dsimp only at hSw); go_simp; try with_reducible rfl)
    (try simp only [Act.put, List.setIfInBounds_toArray, List.set_cons_zero, List.set_cons_succ])
    refine wpAnyH_take (i := 11) (v := ?_) (List.getElem?_toArray.trans rfl) (by kernel_rfl) (by kernel_rfl) (by kernel_rfl) (fun _ _ _ h => h) (Or.inl ⟨by rfl, ?_⟩) (by assumption) ?_
    rotate_left
    · (intro w hSw; (try dsimp only at hSw); go_simp; try with_reducible rfl)
    (try simp only [Act.put, List.setIfInBounds_toArray, List.set_cons_zero, List.set_cons_succ])
    refine wpAnyH_ready (rs := [1]) (by kernel_rfl) (by simp) (AllReadyH.cons (List.getElem?_toArray.trans rfl) (fun Kx hKx => ?_) AllReadyH.nil)
    go_simp
    refine (own35_c ((hr.below hb1).below HD) hn).mono ?_
    rintro x w2 ⟨v2, rfl, ho2, hb2⟩
    obtain ⟨A2, c2, rfl, r2⟩ := rd_of_own ho2
    rw [HL.out] at r2 ⊢
    clear ho2
    have HB2 := below_next HD hb2
    go_wp2_with fail
    refine hKx.out _ _ ?_ (fun hHeld => ?_)
    · exact HE.out _ HB2
    clear hKx Kx
    (try simp only [Act.put, List.setIfInBounds_toArray, List.set_cons_zero, List.set_cons_succ])
    refine wpAnyH_ready (rs := [2]) (by kernel_rfl) (by simp) (AllReadyH.cons (List.getElem?_toArray.trans rfl) (fun Kx hKx => ?_) AllReadyH.nil)
    go_simp
    refine (New_c r2 hB hn (ht1.below HB2)).mono ?_
    rintro x w3 ⟨kb, rfl, hK, hb3⟩
    have HB3 := below_next HB2 hb3
    go_wp2_with fail
    refine hKx.out _ _ ?_ (fun hHeld => ?_)
    · exact HE.out _ HB3
    clear hKx Kx
    (try simp only [Act.put, List.setIfInBounds_toArray, List.set_cons_zero, List.set_cons_succ])
    refine wpAnyH_ready (rs := [5]) (by kernel_rfl) (by simp) (AllReadyH.cons (List.getElem?_toArray.trans rfl) (fun Kx hKx => ?_) AllReadyH.nil)
    go_simp
    refine (own35_c ((hr'.below hb1).below HB3) hn').mono ?_
    rintro x w4 ⟨v4, rfl, ho4, hb4⟩
    obtain ⟨A4, c4, rfl, r4⟩ := rd_of_own ho4
    rw [HL'.out] at r4 ⊢
    clear ho4
    have HB4 := below_next HB3 hb4
    have hK4 := hK.below hb4
    go_wp2_with fail
    refine hKx.out _ _ ?_ (fun hHeld => ?_)
    · exact HE.out _ HB4
    clear hKx Kx
    (try simp only [Act.put, List.setIfInBounds_toArray, List.set_cons_zero, List.set_cons_succ])
    refine wpAnyH_ready (rs := [6]) (by kernel_rfl) (by simp) (AllReadyH.cons (List.getElem?_toArray.trans rfl) (fun Kx hKx => ?_) AllReadyH.nil)
    go_simp
    refine hKx.out _ _ ?_ (fun hHeld => ?_)
    · exact HE.out _ (HB4.alloc HB4.size _)
    clear hKx Kx
    (try simp only [Act.put, List.setIfInBounds_toArray, List.set_cons_zero, List.set_cons_succ])
    refine wpAnyH_ready (rs := [7]) (by kernel_rfl) (by simp) (AllReadyH.cons (List.getElem?_toArray.trans rfl) (fun Kx hKx => ?_) AllReadyH.nil)
    go_simp
    refine (holds42_1 (k := w4.heap.size) rfl hK4 (r1.below HB4) hB'' r4 hB' (by omega) (ht1.below HB4)).mono ?_
    rintro x w5 ⟨rfl, hb5⟩
    rw [HT.out, HB1.out]
    have HB5 := below_next HB4 hb5
    go_wp2_with fail
    refine hKx.out _ _ ?_ (fun hHeld => ?_)
    · exact HE.out _ HB5
    clear hKx Kx
    (try simp only [Act.put, List.setIfInBounds_toArray, List.set_cons_zero, List.set_cons_succ])
    refine wpAnyH_ready (rs := [12]) (by kernel_rfl) (by simp) (AllReadyH.cons (List.getElem?_toArray.trans rfl) (fun Kx hKx => ?_) AllReadyH.nil)
    go_simp
    refine (reftag36_c ((hr.below hb1).below HB5) hB hn ((hr'.below hb1).below HB5) hB' (by omega)).mono ?_
    rintro x w6 ⟨v6, rfl, ho6, hb6⟩
    rw [HT.out] at ho6
    obtain ⟨A6, c6, rfl, r6⟩ := rd_of_own ho6
    rw [HLT.out] at r6 ⊢
    clear ho6
    have HB6 := below_next HB5 hb6
    have hE6 : ∀ w' : World, Below w6.heap.size w6 w' → (fun w' => Below w6.heap.size w6 w' ∧ (convert 22 9 (.slice A6 32 c6)).run Tryd.prog w' = .ok (.string (strOfNums T)) w' ∧ (convert 22 9 (.slice A'' n'' c'')).run Tryd.prog w' = .ok (.string (strOfNums l'')) w' ∧ (convert 22 9 (.slice A1 n'' c1)).run Tryd.prog w' = .ok (.string (strOfNums l'')) w') w' := fun w' hb => ⟨hb, rd_string (r6.below hb), (HE.out w' (below_next HB6 hb))⟩
    have HE6 := Aside0.mk hE6
    clear hE6
    go_wp2_with fail
    refine hKx.out _ _ ?_ (fun hHeld => ?_)
    · exact HE.out _ HB6
    clear hKx Kx
    (try simp only [Act.put, List.setIfInBounds_toArray, List.set_cons_zero, List.set_cons_succ])
    refine wpAnyH_weaken (S' := fun w' => Below w6.heap.size w6 w' ∧ (convert 22 9 (.slice A6 32 c6)).run Tryd.prog w' = .ok (.string (strOfNums T)) w' ∧ (convert 22 9 (.slice A'' n'' c'')).run Tryd.prog w' = .ok (.string (strOfNums l'')) w' ∧ (convert 22 9 (.slice A1 n'' c1)).run Tryd.prog w' = .ok (.string (strOfNums l'')) w') (fun w h => ⟨h.2.2.1, h.2.2.2⟩) ?_
    have hHeld2 : (fun w' => Below w6.heap.size w6 w' ∧ (convert 22 9 (.slice A6 32 c6)).run Tryd.prog w' = .ok (.string (strOfNums T)) w' ∧ (convert 22 9 (.slice A'' n'' c'')).run Tryd.prog w' = .ok (.string (strOfNums l'')) w' ∧ (convert 22 9 (.slice A1 n'' c1)).run Tryd.prog w' = .ok (.string (strOfNums l'')) w') _ := HE6.out _ (Below.refl _ w6)
    dsimp only at hHeld2
    clear hHeld
    refine wpAnyH_take (i := 13) (v := ?_) (List.getElem?_toArray.trans rfl) (by kernel_rfl) (by kernel_rfl) (by kernel_rfl) (fun _ _ _ h => h) (Or.inl ⟨by rfl, ?_⟩) (by assumption) ?_
    rotate_left
    · (intro w hSw; (try dsimp only at hSw); go_simp; try with_reducible rfl)
    (try simp only [Act.put, List.setIfInBounds_toArray, List.set_cons_zero, List.set_cons_succ])
    refine wpAnyH_take (i := 14) (v := ?_) (List.getElem?_toArray.trans rfl) (by kernel_rfl) (by kernel_rfl) (by kernel_rfl) (fun _ _ _ h => h) (Or.inl ⟨by rfl, ?_⟩) (by assumption) ?_
    rotate_left
    · (intro w hSw; (try dsimp only at hSw); go_simp; try with_reducible rfl)
    (try simp only [Act.put, List.setIfInBounds_toArray, List.set_cons_zero, List.set_cons_succ])
    refine wpAnyH_take (i := 15) (v := ?_) (List.getElem?_toArray.trans rfl) (by kernel_rfl) (by kernel_rfl) (by kernel_rfl) (fun _ _ _ h => h) (Or.inl ⟨by rfl, ?_⟩) (by assumption) ?_
    rotate_left
    · (intro w hSw; (try dsimp only at hSw); go_simp; try with_reducible rfl)
    (try simp only [Act.put, List.setIfInBounds_toArray, List.set_cons_zero, List.set_cons_succ])
    refine wpAnyH_take (i := 16) (v := ?_) (List.getElem?_toArray.trans rfl) (by kernel_rfl) (by kernel_rfl) (by kernel_rfl) (fun _ _ _ h => h) (Or.inl ⟨by rfl, ?_⟩) (by assumption) ?_
    rotate_left
    · (intro w hSw; (try dsimp only at hSw); go_simp; try with_reducible rfl)
    (try simp only [Act.put, List.setIfInBounds_toArray, List.set_cons_zero, List.set_cons_succ])
    refine wpAnyH_take (i := 17) (v := ?_) (List.getElem?_toArray.trans rfl) (by kernel_rfl) (by kernel_rfl) (by kernel_rfl) (fun _ _ _ h => h) (Or.inl ⟨by rfl, ?_⟩) (by assumption) ?_
    rotate_left
    · (intro w hSw; (try dsimp only at hSw); go_simp; try with_reducible rfl)
    (try simp only [Act.put, List.setIfInBounds_toArray, List.set_cons_zero, List.set_cons_succ])
    refine wpAnyH_take (i := 18) (v := ?_) (List.getElem?_toArray.trans rfl) (by kernel_rfl) (by kernel_rfl) (by kernel_rfl) (fun _ _ _ h => h) (Or.inl ⟨by rfl, ?_⟩) (by assumption) ?_
    rotate_left
    · (intro w hSw; (try dsimp only at hSw); go_simp; try with_reducible rfl)
    (try simp only [Act.put, List.setIfInBounds_toArray, List.set_cons_zero, List.set_cons_succ])
    refine wpAnyH_take (i := 19) (v := ?_) (List.getElem?_toArray.trans rfl) (by kernel_rfl) (by kernel_rfl) (by kernel_rfl) (fun _ _ _ h => h) (Or.inl ⟨by rfl, ?_⟩) (by assumption) ?_
    rotate_left
    · (intro w hSw; (try dsimp only at hSw); go_simp; try with_reducible rfl)
    (try simp only [Act.put, List.setIfInBounds_toArray, List.set_cons_zero, List.set_cons_succ])
    refine wpAnyH_take (i := 20) (v := ?_) (List.getElem?_toArray.trans rfl) (by kernel_rfl) (by kernel_rfl) (by kernel_rfl) (fun _ _ _ h => h) (Or.inl ⟨by rfl, ?_⟩) (by assumption) ?_
    rotate_left
    · (intro w hSw; (try dsimp only at hSw); go_simp; try with_reducible rfl)
    (try simp only [Act.put, List.setIfInBounds_toArray, List.set_cons_zero, List.set_cons_succ])
    refine wpAnyH_take (i := 21) (v := ?_) (List.getElem?_toArray.trans rfl) (by kernel_rfl) (by kernel_rfl) (by kernel_rfl) (fun _ _ _ h => h) (Or.inl ⟨by rfl, ?_⟩) (by assumption) ?_
    rotate_left
    · (intro w hSw; (try dsimp only at hSw); go_simp; try with_reducible rfl)
    (try simp only [Act.put, List.setIfInBounds_toArray, List.set_cons_zero, List.set_cons_succ])
    refine wpAnyH_take (i := 22) (v := ?_) (List.getElem?_toArray.trans rfl) (by kernel_rfl) (by kernel_rfl) (by kernel_rfl) (fun _ _ _ h => h) (Or.inl ⟨by rfl, ?_⟩) (by assumption) ?_
    rotate_left
    · (intro w hSw; (try dsimp only at hSw); go_simp; try with_reducible rfl)
    (try simp only [Act.put, List.setIfInBounds_toArray, List.set_cons_zero, List.set_cons_succ])
    refine wpAnyH_take (i := 23) (v := ?_) (List.getElem?_toArray.trans rfl) (by kernel_rfl) (by kernel_rfl) (by kernel_rfl) (fun _ _ _ h => h) (Or.inl ⟨by rfl, ?_⟩) (by assumption) ?_
    rotate_left
    · (intro w hSw; (try dsimp only at hSw); go_simp; try with_reducible rfl)
    (try simp only [Act.put, List.setIfInBounds_toArray, List.set_cons_zero, List.set_cons_succ])
    refine wpAnyH_ready (rs := [24]) (by kernel_rfl) (by simp) (AllReadyH.cons (List.getElem?_toArray.trans rfl) (fun Kx hKx => ?_) AllReadyH.nil)
    go_simp
    refine (awake34_c (ht1.below HB6)).mono ?_
    rintro x w7 ⟨rfl, hb7⟩
    have HB7 := below_next HB6 hb7
    go_wp2_with fail
    refine hKx.out _ _ ?_ (fun hHeld => ?_)
    · exact HE6.out _ hb7
    clear hKx Kx
    (try simp only [Act.put, List.setIfInBounds_toArray, List.set_cons_zero, List.set_cons_succ])
    refine wpAnyH_take (i := 25) (v := ?_) (List.getElem?_toArray.trans rfl) (by kernel_rfl) (by kernel_rfl) (by kernel_rfl) (fun _ _ _ h => h) (Or.inl ⟨by rfl, ?_⟩) (by assumption) ?_
    rotate_left
    · (intro w hSw; (try dsimp only at hSw); go_simp; try with_reducible rfl)
    (try simp only [Act.put, List.setIfInBounds_toArray, List.set_cons_zero, List.set_cons_succ])
    refine wpAnyH_take (i := 26) (v := ?_) (List.getElem?_toArray.trans rfl) (by kernel_rfl) (by kernel_rfl) (by kernel_rfl) (fun _ _ _ h => h) (Or.inl ⟨by rfl, ?_⟩) (by assumption) ?_
    rotate_left
    · (intro w hSw; (try dsimp only at hSw); go_simp; try with_reducible rfl)
    (try simp only [Act.put, List.setIfInBounds_toArray, List.set_cons_zero, List.set_cons_succ])
    refine wpAnyH_done (by kernel_rfl) ?_ _
    go_wp2_with fail
    go_ret
    exact ⟨rfl, below_next hb1 HB7⟩
  · exact big hall ht
end Go.Proofs.YtmmbonlidcbkcaaDoor.WalkMacHolds
