/- DigestCopies, walked. -/
import Derived.Test.YtmmbonlidcbkcaaDoorDgLaw
import Derived.Deep.RegionHeld3
namespace Go.Proofs.YtmmbonlidcbkcaaDoor.WalkDigestCopies
open Go.RowKit Go.Proofs.YtmmbonlidcbkcaaDoorW.PrintWords Go.Proofs.YtmmbonlidcbkcaaDoor.Num Go.Proofs.YtmmbonlidcbkcaaDoor.Sha Go.Proofs.YtmmbonlidcbkcaaDoor.WordC Go.Proofs.YtmmbonlidcbkcaaDoor.Arr Go.Proofs.YtmmbonlidcbkcaaDoor.App Go.Proofs.YtmmbonlidcbkcaaDoor.DgC Go.Proofs.YtmmbonlidcbkcaaDoor.DgBlock Go.Proofs.YtmmbonlidcbkcaaDoor.DgState Go.Proofs.YtmmbonlidcbkcaaDoor.DgAdd Go.Proofs.YtmmbonlidcbkcaaDoor.DgSum Go.Proofs.YtmmbonlidcbkcaaDoor.DgOf Go.Proofs.YtmmbonlidcbkcaaDoor.DgCopy Go.Proofs.YtmmbonlidcbkcaaDoor.DgLaw Go.Proofs.YtmmbonlidcbkcaaDoor.DgWords Go.Proofs.YtmmbonlidcbkcaaDoor.RefOf
set_option linter.unusedVariables false
set_option linter.unusedSimpArgs false

theorem other {v v' : Value} {N : Nat} (h : ∀ k, v.ownBlock = some k → k < N) (h' : ∀ k, v'.ownBlock = some k → N ≤ k) : v'.ownBlock = none ∨ v'.ownBlock ≠ v.ownBlock := by
  cases hv : v'.ownBlock with
  | none => exact .inl rfl
  | some k => exact .inr (fun e => by have := h k e.symm; have := h' k hv; omega)
theorem other' {v v1 v' : Value} {N : Nat} (h : v1.ownBlock = v.ownBlock ∨ ∃ k, v1.ownBlock = some k ∧ N ≤ k) (h' : v'.ownBlock = none ∨ v'.ownBlock ≠ v.ownBlock) (hl : ∀ k, v'.ownBlock = some k → k < N) : v1.ownBlock = none ∨ v1.ownBlock ≠ v'.ownBlock := by
  rcases h with e | ⟨k, e, hk⟩
  · rcases h' with e' | e'
    · cases hv : v1.ownBlock with
      | none => exact .inl rfl
      | some q => exact .inr (fun x => by rw [e'] at x; cases x)
    · exact .inr (fun x => e' (by rw [← x, e]))
  · exact .inr (fun x => by have := hl k (by rw [← x, e]); omega)
theorem far_state {w : World} {base base' g g' : Nat} {v v' : Value} {b b' : List Int} (h : St w base g v b) (h' : St w base' g' v' b') : some g ≠ v'.ownBlock := Qw.ne h'.tail h.blk (by decide)
set_option maxHeartbeats 8000000 in
set_option maxRecDepth 100000 in
theorem big {A A' A'' : Option Addr} {n c n' c' n'' c'' : Nat} {w : World} (h : ¬ (n ≤ 4000 ∧ n' ≤ 4000 ∧ n'' ≤ 4000)) (ht : Tb w) :
    Calls Tryd.prog 7 #[.slice A n c, .slice A' n' c', .slice A'' n'' c''] w fun e w' => e = .returned (.bool true) ∧ Below w.heap.size w w' := by
  by_cases h1 : n ≤ 4000
  · have b1 : ¬ (4000 : Int) < (n : Int) := by omega
    by_cases h2 : n' ≤ 4000
    · have b2 : ¬ (4000 : Int) < (n' : Int) := by omega
      have b3 : (4000 : Int) < (n'' : Int) := by omega
      go_enter Tryd.func7, Tryd.ntmps7
      go_wp2_with fail
      refine (awake02_c ht).mono ?_
      rintro x w5 ⟨rfl, hb5⟩
      go_wp2_with fail
      go_ret
      exact ⟨rfl, hb5⟩
    · have b2 : (4000 : Int) < (n' : Int) := by omega
      go_enter Tryd.func7, Tryd.ntmps7
      go_wp2_with fail
      refine (awake02_c ht).mono ?_
      rintro x w5 ⟨rfl, hb5⟩
      go_wp2_with fail
      go_ret
      exact ⟨rfl, hb5⟩
  · have b1 : (4000 : Int) < (n : Int) := by omega
    go_enter Tryd.func7, Tryd.ntmps7
    go_wp2_with fail
    refine (awake02_c ht).mono ?_
    rintro x w5 ⟨rfl, hb5⟩
    go_wp2_with fail
    go_ret
    exact ⟨rfl, hb5⟩
set_option maxHeartbeats 8000000 in
set_option maxRecDepth 100000 in
theorem walk (A : Option Addr) (n c : Nat) (l : List Int) {w : World} (hr : Rd w A n c l) (hB : IsB l) (hn : n ≤ 140737488351232) (A' : Option Addr) (n' c' : Nat) (l' : List Int) (hr' : Rd w A' n' c' l') (hB' : IsB l') (hn' : n' ≤ 140737488351232) (A'' : Option Addr) (n'' c'' : Nat) (l'' : List Int) (hr'' : Rd w A'' n'' c'' l'') (hB'' : IsB l'') (hn'' : n'' ≤ 140737488351232) (ht : Tb w) :
    Calls Tryd.prog 7 #[.slice A n c, .slice A' n' c', .slice A'' n'' c''] w fun e w' => e = .returned (.bool true) ∧ Below w.heap.size w w' := by
  have hl := hr.len
  have hl' := hr'.len
  have hl'' := hr''.len
  have ht0 : 0 < w.heap.size := ht.lt
  have HL := Aside0.mk hl
  have HL' := Aside0.mk hl'
  have HL'' := Aside0.mk hl''
  clear hl hl' hl''
  by_cases hall : n ≤ 4000 ∧ n' ≤ 4000 ∧ n'' ≤ 4000
  · obtain ⟨h1, h2, h3⟩ := hall
    have b1 : ¬ (4000 : Int) < (n : Int) := by omega
    have b2 : ¬ (4000 : Int) < (n' : Int) := by omega
    have b3 : ¬ (4000 : Int) < (n'' : Int) := by omega
    go_enter Tryd.func7, Tryd.ntmps7
    go_wp2_with fail
    refine New_c.mono ?_
    rintro x w1 ⟨g, rfl, hS1, hb1⟩
    go_wp2_with fail
    refine (own_c (hr.below hb1) hn).mono ?_
    rintro x w2 ⟨v2, rfl, ho2, hb2⟩
    obtain ⟨A2, c2, rfl, hr2⟩ := rd_of_own ho2
    rw [HL.out] at hr2 ⊢
    have hB2 := below_next hb1 hb2
    have hS2 := hS1.below hb2
    clear ho2 hS1
    go_wp2_with fail
    refine (Add_c hS2 hr2 hB (ht.below hB2) ht0 hB2.size (by simp; omega)).mono ?_
    rintro x w3 ⟨rfl, v3, hS3, hf3, hat3⟩
    have hB3 := hf3.below hB2 hB2.size hS2.ge hS2.row_ge
    rw [List.nil_append] at hS3
    clear hS2 hr2 hf3 hat3 hb1 hb2
    go_wp2_with fail
    refine (Copy_c hS3).mono ?_
    rintro x w4 ⟨g4, v4, rfl, hT4, hb4⟩
    have hS4 := hS3.below hb4
    have hB4 := below_next hB3 hb4
    have ne1 : g ≠ g4 := by have := hS3.lt; have := hT4.ge; omega
    have ne3 : v4.ownBlock = none ∨ v4.ownBlock ≠ v3.ownBlock := other hS3.row_lt hT4.row_ge
    have HN3 := Aside0.mk ne3
    clear hb4 hS3 ne3
    go_wp2_with fail
    refine (own_c (hr'.below hB4) hn').mono ?_
    rintro x w5 ⟨v5, rfl, ho5, hb5⟩
    obtain ⟨A5, c5, rfl, hr5⟩ := rd_of_own ho5
    rw [HL'.out] at hr5 ⊢
    have hB5 := below_next hB4 hb5
    have hS5 := hS4.below hb5
    have hT5 := hT4.below hb5
    clear ho5
    go_wp2_with fail
    refine (Add_c hS5 hr5 hB' (ht.below hB5) ht0 hB5.size (by rw [HL.out]; omega)).mono ?_
    rintro x w6 ⟨rfl, v6, hS6, hf6, hat6⟩
    have hB6 := hf6.below hB5 hB5.size hS5.ge hS5.row_ge
    have hT6 := hT5.fr hf6 (Ne.symm ne1) (far_state hT5 hS5) (far_state hS5 hT5) HN3.out
    have HN6 := Aside0.mk (other' hat6 HN3.out hT5.row_lt)
    clear hS4 hT4 hb5 hr5 hf6 hat6 hS5 hT5
    go_wp2_with fail
    refine (own_c (hr''.below hB6) hn'').mono ?_
    rintro x w7 ⟨v7, rfl, ho7, hb7⟩
    obtain ⟨A7, c7, rfl, hr7⟩ := rd_of_own ho7
    rw [HL''.out] at hr7 ⊢
    have hB7 := below_next hB6 hb7
    have hS7 := hS6.below hb7
    have hT7 := hT6.below hb7
    have hTb : w.heap.size ≤ g4 := Nat.le_trans hB3.size hT7.ge
    have hTr : ∀ k, v4.ownBlock = some k → w.heap.size ≤ k := fun k hk => Nat.le_trans hB3.size (hT7.row_ge k hk)
    have hT7' : St w7 w.heap.size g4 v4 l := hT7.lower hB3.size
    clear ho7
    go_wp2_with fail
    refine (Add_c hT7' hr7 hB'' (ht.below hB7) ht0 hB7.size (by rw [HL.out]; omega)).mono ?_
    rintro x w8 ⟨rfl, v8, hT8, hf8, hat8⟩
    have hB8 := hf8.below hB7 hB7.size hTb hTr
    have hS8 := hS7.fr hf8 ne1 (far_state hS7 hT7) (far_state hT7 hS7) HN6.out
    clear hS6 hT6 hb7 hr7 hf8 hat8 hS7 hT7 hT7'
    go_wp2_with fail
    refine (Sum_c hS8 (ht.below hB8) (by simp [HL.out, HL'.out]; omega)).mono ?_
    rintro x w9 ⟨rfl, hb9⟩
    have hB9 := below_next hB8 hb9
    have hT9 := hT8.below hb9
    clear hS8 hT8 hb9
    go_wp2_with fail
    refine (Join_c (hr.below hB9) (hr'.below hB9) (by omega)).mono ?_
    rintro x w10 ⟨v10, rfl, ho10, hb10⟩
    obtain ⟨A10, c10, rfl, hr10⟩ := rd_of_own ho10
    have hB10 := below_next hB9 hb10
    have hT10 := hT9.below hb10
    have hIB : IsB (l ++ l') := fun x hx => by rcases List.mem_append.1 hx with h | h; exact hB x h; exact hB' x h
    have hlen : (l ++ l').length = n + n' := by rw [List.length_append, HL.out, HL'.out]
    rw [hlen] at hr10 ⊢
    clear ho10 hlen hT9 hb10
    go_wp2_with fail
    refine (refof_c hr10 hIB (by omega)).mono ?_
    rintro x w11 ⟨v11, rfl, ho11, hb11⟩
    obtain ⟨A11, c11, rfl, hr11⟩ := rd_of_own ho11
    have hB11 := below_next hB10 hb11
    have hT11 := hT10.below hb11
    clear ho11 hT10 hb11 hr10
    go_wp2_with fail
    refine (is_c hr11 (shaS_isB _) (shaS_isB _) (shaS_length _)).mono ?_
    rintro x w12 ⟨rfl, hb12⟩
    rw [eqB_self]
    have hB12 := below_next hB11 hb12
    have hT12 := hT11.below hb12
    clear hT11 hb12 hr11
    go_wp2_with fail
    refine (Sum_c hT12 (ht.below hB12) (by simp [HL.out, HL''.out]; omega)).mono ?_
    rintro x w13 ⟨rfl, hb13⟩
    have hB13 := below_next hB12 hb13
    clear hT12 hb13
    go_wp2_with fail
    refine (Join_c (hr.below hB13) (hr''.below hB13) (by omega)).mono ?_
    rintro x w14 ⟨v14, rfl, ho14, hb14⟩
    obtain ⟨A14, c14, rfl, hr14⟩ := rd_of_own ho14
    have hB14 := below_next hB13 hb14
    have hIB2 : IsB (l ++ l'') := fun x hx => by rcases List.mem_append.1 hx with h | h; exact hB x h; exact hB'' x h
    have hlen : (l ++ l'').length = n + n'' := by rw [List.length_append, HL.out, HL''.out]
    rw [hlen] at hr14 ⊢
    clear ho14 hlen hb14
    go_wp2_with fail
    refine (refof_c hr14 hIB2 (by omega)).mono ?_
    rintro x w15 ⟨v15, rfl, ho15, hb15⟩
    obtain ⟨A15, c15, rfl, hr15⟩ := rd_of_own ho15
    have hB15 := below_next hB14 hb15
    clear ho15 hb15 hr14
    go_wp2_with fail
    refine (is_c hr15 (shaS_isB _) (shaS_isB _) (shaS_length _)).mono ?_
    rintro x w16 ⟨rfl, hb16⟩
    rw [eqB_self]
    have hB16 := below_next hB15 hb16
    clear hb16 hr15
    go_wp2_with fail
    refine (awake02_c (ht.below hB16)).mono ?_
    rintro x w17 ⟨rfl, hb17⟩
    go_wp2_with fail
    go_ret
    exact ⟨rfl, below_next hB16 hb17⟩
  · exact big hall ht
end Go.Proofs.YtmmbonlidcbkcaaDoor.WalkDigestCopies
