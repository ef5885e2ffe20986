/- LabelNames, walked. -/
import Derived.Test.YtmmbonlidcbkcaaDoorMacA
import Derived.Deep.RegionHeld3
import Derived.Deep.MidRow
import Derived.Deep.Cut
import Derived.Test.YtmmbonlidcbkcaaDoorLbA
import Derived.Test.YtmmbonlidcbkcaaDoorLbI
namespace Go.Proofs.YtmmbonlidcbkcaaDoor.WalkLabelNames
open Go.RowKit Go.Proofs.YtmmbonlidcbkcaaDoorW.PrintWords Go.Proofs.YtmmbonlidcbkcaaDoor.Num Go.Proofs.YtmmbonlidcbkcaaDoor.Sha Go.Proofs.YtmmbonlidcbkcaaDoor.Hmac Go.Proofs.YtmmbonlidcbkcaaDoor.WordC Go.Proofs.YtmmbonlidcbkcaaDoor.Arr Go.Proofs.YtmmbonlidcbkcaaDoor.App Go.Proofs.YtmmbonlidcbkcaaDoor.DgC Go.Proofs.YtmmbonlidcbkcaaDoor.DgBlock Go.Proofs.YtmmbonlidcbkcaaDoor.DgState Go.Proofs.YtmmbonlidcbkcaaDoor.DgAdd Go.Proofs.YtmmbonlidcbkcaaDoor.DgSum Go.Proofs.YtmmbonlidcbkcaaDoor.DgOf Go.Proofs.YtmmbonlidcbkcaaDoor.DgCopy Go.Proofs.YtmmbonlidcbkcaaDoor.DgLaw Go.Proofs.YtmmbonlidcbkcaaDoor.DgWords Go.Proofs.YtmmbonlidcbkcaaDoor.DgParts Go.Proofs.YtmmbonlidcbkcaaDoor.RefOf Go.Proofs.YtmmbonlidcbkcaaDoor.MacC Go.Proofs.YtmmbonlidcbkcaaDoor.MacTag Go.Proofs.YtmmbonlidcbkcaaDoor.MacLaw Go.Proofs.YtmmbonlidcbkcaaDoor.MacAwake Go.Proofs.YtmmbonlidcbkcaaDoor.MacHold Go.Proofs.YtmmbonlidcbkcaaDoor.MacNew Go.Proofs.YtmmbonlidcbkcaaDoor.MacRef Go.Proofs.YtmmbonlidcbkcaaDoor.MacNil Go.Proofs.YtmmbonlidcbkcaaDoor.MacMany Go.Proofs.YtmmbonlidcbkcaaDoor.LbC Go.Proofs.YtmmbonlidcbkcaaDoor.LbR Go.Proofs.YtmmbonlidcbkcaaDoor.LbA Go.Proofs.YtmmbonlidcbkcaaDoor.LbI
set_option linter.unusedVariables false
set_option linter.unusedSimpArgs false

theorem id_any {A B : Option Addr} {n c m d : Nat} {l t : List Int} {k : Int} {w : World} (hr : Rd w A n c l) (hB : IsB l) (hr' : Rd w B m d t) (hT : IsB t) (hm : m ≤ 140737488340000) (ht : Tb w) :
    Calls Tryd.prog 52 #[.slice A n c, .int .i64 k, .slice B m d] w fun e w' => e = .returned (.tuple #[.agg (nums .u8 (idL l k t).1).toArray, .int .i64 (idL l k t).2]) ∧ Below w.heap.size w w' := by
  by_cases h : n = 32 ∧ 0 ≤ k ∧ k ≤ 255
  · obtain ⟨rfl, h0, h1⟩ := h
    refine (ID52_yes hr hB hr' hT hm h0 h1 ht).mono ?_
    rintro x w' ⟨rfl, hb⟩
    unfold idL; rw [if_pos ⟨hr.len, h0, h1⟩]
    exact ⟨rfl, hb⟩
  · refine (ID52_no (by omega)).mono ?_
    rintro x w' ⟨rfl, hb⟩
    unfold idL; rw [if_neg (by rw [hr.len]; exact h)]
    exact ⟨rfl, hb⟩
theorem refid_any {A B : Option Addr} {n c m d : Nat} {l t : List Int} {k : Int} {w : World} (hr : Rd w A n c l) (hB : IsB l) (hr' : Rd w B m d t) (hT : IsB t) (hm : m ≤ 140737488340000) :
    Calls Tryd.prog 53 #[.slice A n c, .int .i64 k, .slice B m d] w fun e w' => e = .returned (.tuple #[.agg (nums .u8 (idL l k t).1).toArray, .int .i64 (idL l k t).2]) ∧ Below w.heap.size w w' := by
  by_cases h : n = 32 ∧ 0 ≤ k ∧ k ≤ 255
  · obtain ⟨rfl, h0, h1⟩ := h
    refine (refID53_yes hr hB hr' hT hm h0 h1).mono ?_
    rintro x w' ⟨rfl, hb⟩
    unfold idL; rw [if_pos ⟨hr.len, h0, h1⟩]
    exact ⟨rfl, hb⟩
  · refine (refID53_no (by omega)).mono ?_
    rintro x w' ⟨rfl, hb⟩
    unfold idL; rw [if_neg (by rw [hr.len]; exact h)]
    exact ⟨rfl, hb⟩
set_option maxHeartbeats 4000000 in
set_option maxRecDepth 100000 in
theorem walk (A : Option Addr) (n c : Nat) (l : List Int) {w : World} (hr : Rd w A n c l) (hB : IsB l) (hn : n ≤ 140737488351232) (k : Int) (hk : (Lit.int .i64 k).wf = true) (B : Option Addr) (m d : Nat) (t : List Int) (hr' : Rd w B m d t) (hT : IsB t) (hm : m ≤ 140737488351232) (ht : Tb w) :
    Calls Tryd.prog 20 #[.slice A n c, .int .i64 k, .slice B m d] w fun x w' => x = .returned (.bool true) ∧ Below w.heap.size w w' := by
  clear hk
  by_cases h4 : m ≤ 4000
  · have b4 : ¬ (4000 : Int) < (m : Int) := by omega
    have HL := Aside0.mk hr.len
    have HL' := Aside0.mk hr'.len
    have hil := idL_length l k t
    obtain ⟨XE, HXE⟩ : ∃ XE, Aside0 (idL l k t = XE) := ⟨_, ⟨rfl⟩⟩
    rw [HXE.out] at hil
    obtain ⟨X, E⟩ := XE
    dsimp only at hil
    have HXL := Aside0.mk hil
    clear hil
    go_enter Tryd.func20, Tryd.ntmps20
    go_wp2_with fail
    refine (own48_c hr' hm).mono ?_
    rintro x w1 ⟨v1, rfl, ho1, hb1⟩
    obtain ⟨A1, c1, rfl, r1⟩ := rd_of_own ho1
    rw [HL'.out] at r1 ⊢
    clear ho1
    go_wp2_with fail
    refine (own48_c (hr.below hb1) hn).mono ?_
    rintro x w2 ⟨v2, rfl, ho2, hb2⟩
    obtain ⟨A2, c2, rfl, r2⟩ := rd_of_own ho2
    rw [HL.out] at r2 ⊢
    clear ho2
    have hB2 := below_next hb1 hb2
    go_wp2_with fail
    refine (id_any r2 hB (r1.below hb2) hT (by omega) (ht.below hB2)).mono ?_
    rintro x w3 ⟨rfl, hb3⟩
    rw [HXE.out]
    dsimp only
    have hB3 := below_next hB2 hb3
    clear r2
    go_wp2_with (first
      | (refine store_arr rfl 61 (.tmp 8) (.tmp 24) rfl w3.heap.size .u8 X rfl rfl 61 32 _ (heap_alloc_new _ _) size61 HXL.out rfl ?_; intro w4 hX4 hg4; have hb4 : Below w3.heap.size w3 w4 := ((Below.refl _ w3).alloc (Nat.le_refl _) _).grown hg4 (by simp) (fun k hk => by cases hk; exact Nat.le_refl _); have hB4 := below_next hB3 hb4; clear hg4))
    refine (refid_any (hr.below hB4) hB (hr'.below hB4) hT (by omega)).mono ?_
    rintro x w5 ⟨rfl, hb5⟩
    rw [HXE.out]
    dsimp only
    have hB5 := below_next hB4 hb5
    have hX5 := Blk.below hX4 hb5
    clear hX4
    have r15 := (((r1.below hb2).below hb3).below hb4).below hb5
    have q1 : ((strOfNums t).toList == (strOfNums t).toList) = true := str_self _
    have q2 : (E == E) = true := beq_self_eq_true _
    have q3 : ∀ W, (binOp .eql 61 (.agg (nums .u8 X).toArray) (.agg (nums .u8 X).toArray)).run Tryd.prog W = .ok (.bool true) W := fun W => by rw [eql61 HXL.out HXL.out, eqB_self]
    clear r1
    go_wp2_with (first
      | (refine store_arr rfl 61 (.tmp 10) (.tmp 31) rfl w5.heap.size .u8 X rfl rfl 61 32 _ (heap_alloc_new _ _) size61 HXL.out rfl ?_; intro w6 hY6 hg6; have hb6 : Below w5.heap.size w5 w6 := ((Below.refl _ w5).alloc (Nat.le_refl _) _).grown hg6 (by simp) (fun k hk => by cases hk; exact Nat.le_refl _); have hB6 := below_next hB5 hb6; have hX6 := Aside0.mk (Blk.below hX5 hb6); have HY6 := Aside0.mk hY6; have s1 := rd_string (r15.below hb6); have s2 := rd_string (hr'.below hB6); clear hg6 hX5 hY6)
      | (refine load_arr rfl 61 (.tmp 8) rfl w3.heap.size rfl 61 .u8 X 32 5 hX6.out Tryd.underlying61 size61 HXL.out ?_)
      | (refine load_arr rfl 61 (.tmp 10) rfl w5.heap.size rfl 61 .u8 X 32 5 HY6.out Tryd.underlying61 size61 HXL.out ?_))
    refine (awake51_c (ht.below hB6)).mono ?_
    rintro x w7 ⟨rfl, hb7⟩
    go_wp2_with fail
    go_ret
    exact ⟨rfl, below_next hB6 hb7⟩
  · have b4 : (4000 : Int) < (m : Int) := by omega
    go_enter Tryd.func20, Tryd.ntmps20
    go_wp2_with fail
    refine (awake51_c ht).mono ?_
    rintro x w7 ⟨rfl, hb7⟩
    go_wp2_with fail
    go_ret
    exact ⟨rfl, hb7⟩
end Go.Proofs.YtmmbonlidcbkcaaDoor.WalkLabelNames
