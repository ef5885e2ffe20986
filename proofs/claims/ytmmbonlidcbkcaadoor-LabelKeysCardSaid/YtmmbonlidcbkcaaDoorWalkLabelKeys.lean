/- LabelKeys, walked. -/
import Derived.Test.YtmmbonlidcbkcaaDoorMacA
import Derived.Deep.RegionHeld3
import Derived.Deep.MidRow
import Derived.Deep.Cut
import Derived.Test.YtmmbonlidcbkcaaDoorLbA
namespace Go.Proofs.YtmmbonlidcbkcaaDoor.WalkLabelKeys
open Go.RowKit Go.Proofs.YtmmbonlidcbkcaaDoorW.PrintWords Go.Proofs.YtmmbonlidcbkcaaDoor.Num Go.Proofs.YtmmbonlidcbkcaaDoor.Sha Go.Proofs.YtmmbonlidcbkcaaDoor.Hmac Go.Proofs.YtmmbonlidcbkcaaDoor.WordC Go.Proofs.YtmmbonlidcbkcaaDoor.Arr Go.Proofs.YtmmbonlidcbkcaaDoor.App Go.Proofs.YtmmbonlidcbkcaaDoor.DgC Go.Proofs.YtmmbonlidcbkcaaDoor.DgBlock Go.Proofs.YtmmbonlidcbkcaaDoor.DgState Go.Proofs.YtmmbonlidcbkcaaDoor.DgAdd Go.Proofs.YtmmbonlidcbkcaaDoor.DgSum Go.Proofs.YtmmbonlidcbkcaaDoor.DgOf Go.Proofs.YtmmbonlidcbkcaaDoor.DgCopy Go.Proofs.YtmmbonlidcbkcaaDoor.DgLaw Go.Proofs.YtmmbonlidcbkcaaDoor.DgWords Go.Proofs.YtmmbonlidcbkcaaDoor.DgParts Go.Proofs.YtmmbonlidcbkcaaDoor.RefOf Go.Proofs.YtmmbonlidcbkcaaDoor.MacC Go.Proofs.YtmmbonlidcbkcaaDoor.MacTag Go.Proofs.YtmmbonlidcbkcaaDoor.MacLaw Go.Proofs.YtmmbonlidcbkcaaDoor.MacAwake Go.Proofs.YtmmbonlidcbkcaaDoor.MacHold Go.Proofs.YtmmbonlidcbkcaaDoor.MacNew Go.Proofs.YtmmbonlidcbkcaaDoor.MacRef Go.Proofs.YtmmbonlidcbkcaaDoor.MacNil Go.Proofs.YtmmbonlidcbkcaaDoor.MacMany Go.Proofs.YtmmbonlidcbkcaaDoor.LbC Go.Proofs.YtmmbonlidcbkcaaDoor.LbR Go.Proofs.YtmmbonlidcbkcaaDoor.LbA
set_option linter.unusedVariables false
set_option linter.unusedSimpArgs false

/-- What a key comes to, the error too. -/
def keyL (l : List Int) (s : ByteArray) (e : Int) : List Int × Int := if l.length = 32 ∧ rightL s e = true then (tagS l (textS s e), 0) else ([], 1)
theorem key_any {A : Option Addr} {n c : Nat} {l : List Int} {s : ByteArray} {e : Int} {w : World} (hr : Rd w A n c l) (hB : IsB l) (ht : Tb w) :
    Calls Tryd.prog 49 #[.slice A n c, .string s, .int .i64 e] w fun x w' => ∃ A' m' c', x = .returned (.tuple #[.slice A' m' c', .int .i64 (keyL l s e).2]) ∧ Rd w' A' m' c' (keyL l s e).1 ∧ Below w.heap.size w w' := by
  by_cases h : n = 32 ∧ rightL s e = true
  · obtain ⟨rfl, h⟩ := h
    refine (Key49_yes hr hB h ht).mono ?_
    rintro x w' ⟨g, rfl, hO, _, hb⟩
    unfold keyL; rw [if_pos ⟨hr.len, h⟩]
    exact ⟨_, _, _, rfl, rd_blk32 hO (tagS_length _ _), hb⟩
  · refine (Key49_no ?_).mono ?_
    · by_cases hn : n = 32
      · exact .inr (by rw [Bool.eq_false_iff]; exact fun hx => h ⟨hn, hx⟩)
      · exact .inl hn
    rintro x w' ⟨rfl, hb⟩
    unfold keyL; rw [if_neg (by rw [hr.len]; exact h)]
    exact ⟨none, 0, 0, rfl, rd_nil _, hb⟩
theorem ref_any {A : Option Addr} {n c : Nat} {l : List Int} {s : ByteArray} {e : Int} {w : World} (hr : Rd w A n c l) (hB : IsB l) (hs : s.size ≤ maxLen) :
    Calls Tryd.prog 50 #[.slice A n c, .string s, .int .i64 e] w fun x w' => ∃ A' m' c', x = .returned (.tuple #[.slice A' m' c', .int .i64 (keyL l s e).2]) ∧ Rd w' A' m' c' (keyL l s e).1 ∧ Below w.heap.size w w' := by
  by_cases h : n = 32 ∧ rightL s e = true
  · obtain ⟨rfl, h⟩ := h
    refine (refKey50_yes hr hB h).mono ?_
    rintro x w' ⟨A', c', rfl, hO, hb⟩
    unfold keyL; rw [if_pos ⟨hr.len, h⟩]
    exact ⟨_, _, _, rfl, hO, hb⟩
  · refine (refKey50_no hs ?_).mono ?_
    · by_cases hn : n = 32
      · exact .inr (by rw [Bool.eq_false_iff]; exact fun hx => h ⟨hn, hx⟩)
      · exact .inl hn
    rintro x w' ⟨rfl, rfl⟩
    unfold keyL; rw [if_neg (by rw [hr.len]; exact h)]
    exact ⟨none, 0, 0, rfl, rd_nil _, Below.refl _ _⟩
set_option maxHeartbeats 4000000 in
set_option maxRecDepth 100000 in
theorem walk (A : Option Addr) (n c : Nat) (l : List Int) {w : World} (hr : Rd w A n c l) (hB : IsB l) (hn : n ≤ 140737488351232) (s : ByteArray) (hs : s.size ≤ maxLen) (e : Int) (he : (Lit.int .i64 e).wf = true) (ht : Tb w) :
    Calls Tryd.prog 19 #[.slice A n c, .string s, .int .i64 e] w fun x w' => x = .returned (.bool true) ∧ Below w.heap.size w w' := by
  have HL := Aside0.mk hr.len
  have HS := Aside0.mk hs
  clear he hs
  go_enter Tryd.func19, Tryd.ntmps19
  go_wp2_with fail
  refine (own48_c hr hn).mono ?_
  rintro x w1 ⟨v1, rfl, ho1, hb1⟩
  obtain ⟨A1, c1, rfl, r1⟩ := rd_of_own ho1
  rw [HL.out] at r1 ⊢
  clear ho1
  go_wp2_with fail
  refine (key_any r1 hB (ht.below hb1)).mono ?_
  rintro x w2 ⟨A2, m2, c2, rfl, r2, hb2⟩
  have hB2 := below_next hb1 hb2
  obtain ⟨XE, HXE⟩ : ∃ XE, Aside0 (keyL l s e = XE) := ⟨_, ⟨rfl⟩⟩
  rw [HXE.out] at r2 ⊢
  obtain ⟨X, E⟩ := XE
  dsimp only at r2 ⊢
  go_wp2_with fail
  refine (ref_any (hr.below hB2) hB HS.out).mono ?_
  rintro x w3 ⟨A3, m3, c3, rfl, r3, hb3⟩
  rw [HXE.out] at r3 ⊢
  dsimp only at r3 ⊢
  have hB3 := below_next hB2 hb3
  have s1 := rd_string (r2.below hb3)
  have s2 := rd_string r3
  have s3 := rd_string ((r1.below hb2).below hb3)
  have s4 := rd_string (hr.below hB3)
  have q1 : ((strOfNums X).toList == (strOfNums X).toList) = true := str_self _
  have q2 : ((strOfNums l).toList == (strOfNums l).toList) = true := str_self _
  have q3 : (E == E) = true := beq_self_eq_true _
  clear r1 r2 r3
  go_wp2_with fail
  refine (awake51_c (ht.below hB3)).mono ?_
  rintro x w4 ⟨rfl, hb4⟩
  go_wp2_with fail
  go_ret
  exact ⟨rfl, below_next hB3 hb4⟩
end Go.Proofs.YtmmbonlidcbkcaaDoor.WalkLabelKeys
