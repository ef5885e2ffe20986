/- OnetimeTags, walked. -/
import Derived.Test.YtkjmjgiklelpiaaApp
import Derived.Test.YtkjmjgiklelpiaaQuart
import Derived.Test.YtkjmjgiklelpiaaPlainCipherBlocks
import Derived.Deep.RegionHeld3
import Derived.Deep.Cut
import Derived.Deep.CutRange
import Derived.Test.YtkjmjgiklelpiaaOtMb
import Derived.Test.YtkjmjgiklelpiaaWalkOnetimeNobody
namespace Go.Proofs.Ytkjmjgiklelpiaa.WalkOnetimeTags
open Go.RowKit Go.Proofs.YtkjmjgiklelpiaaW.PrintWords Go.Proofs.Ytkjmjgiklelpiaa.Num Go.Proofs.Ytkjmjgiklelpiaa.WordC Go.Proofs.Ytkjmjgiklelpiaa.Arr Go.Proofs.Ytkjmjgiklelpiaa.App Go.Proofs.Ytkjmjgiklelpiaa.CiC Go.Proofs.Ytkjmjgiklelpiaa.CiD Go.Proofs.Ytkjmjgiklelpiaa.OtC Go.Proofs.Ytkjmjgiklelpiaa.OtR Go.Proofs.Ytkjmjgiklelpiaa.OtL Go.Proofs.Ytkjmjgiklelpiaa.OtM Go.Proofs.Ytkjmjgiklelpiaa.OtT Go.Proofs.Ytkjmjgiklelpiaa.OtV Go.Proofs.Ytkjmjgiklelpiaa.OtK Go.Proofs.Ytkjmjgiklelpiaa.OtN Go.Proofs.Ytkjmjgiklelpiaa.OtO Go.Proofs.Ytkjmjgiklelpiaa.OtP Go.Proofs.Ytkjmjgiklelpiaa.OtQ Go.Proofs.Ytkjmjgiklelpiaa.OtS Go.Proofs.Ytkjmjgiklelpiaa.OtU Go.Proofs.Ytkjmjgiklelpiaa.OtD Go.Proofs.Ytkjmjgiklelpiaa.OtE Go.Proofs.Ytkjmjgiklelpiaa.OtF Go.Proofs.Ytkjmjgiklelpiaa.OtG Go.Proofs.Ytkjmjgiklelpiaa.OtH Go.Proofs.Ytkjmjgiklelpiaa.OtI Go.Proofs.Ytkjmjgiklelpiaa.OtJ Go.Proofs.Ytkjmjgiklelpiaa.WalkOnetimeNobody
set_option linter.unusedVariables false
set_option linter.unusedSimpArgs false

theorem rd_nil (w : World) : Rd w none 0 0 [] := by
  have h : Ow w 0 (.slice none 0 0) [] := Kd.R_nil _ _ _ _ _
  obtain ⟨A, c, e, hr⟩ := rd_of_own h
  injection e with e1 e2 e3
  subst e1 e3
  exact hr
set_option maxHeartbeats 8000000 in
set_option maxRecDepth 100000 in
theorem walk (A : Option Addr) (n c : Nat) (k : List Int) {w : World} (hr : Rd w A n c k) (hB : IsB k) (hn : n ≤ 140737488351232) (A' : Option Addr) (m c' : Nat) (b : List Int) (hr' : Rd w A' m c' b) (hB' : IsB b) (hn' : m ≤ 140737488351232) :
    Calls Try.prog 8 #[.slice A n c, .slice A' m c'] w fun e w' => e = .returned (.bool true) ∧ Below w.heap.size w w' := by
  by_cases hm : m ≤ 4000
  · have hmi : ¬ (4000 : Int) < (m : Int) := by omega
    have HL := Aside0.mk hr.len
    have HL' := Aside0.mk hr'.len
    have HR0 := Aside0.mk hr
    have HR0' := Aside0.mk hr'
    have HM1 : Aside0 (m ≤ 140737488355328 ∧ m ≤ 1000000) := ⟨⟨by omega, by omega⟩⟩
    clear hr hr' hm
    go_enter Try.func8, Try.ntmps8
    go_wp2_with fail
    refine (own26_c HR0.out hn).mono ?_
    rintro x w1 ⟨v1, rfl, ho1, hb1⟩
    obtain ⟨A1, c1, rfl, r1⟩ := rd_of_own ho1
    rw [HL.out] at r1 ⊢
    clear ho1
    go_wp2_with fail
    refine (own26_c (HR0'.out.below hb1) hn').mono ?_
    rintro x w2 ⟨v2, rfl, ho2, hb2⟩
    obtain ⟨A2, c2, rfl, r2⟩ := rd_of_own ho2
    rw [HL'.out] at r2 ⊢
    have HB2 := Aside0.mk (below_next hb1 hb2)
    have R1 := Aside0.mk (r1.below hb2)
    have R2 := Aside0.mk r2
    clear ho2 r1 r2 hb1 hb2
    go_wp2_with fail
    by_cases h32 : n = 32
    · subst h32
      refine (OTag_c R1.out R2.out hB hB' HM1.out.1).mono ?_
      rintro x w3 ⟨v3, rfl, ho3, hb3⟩
      obtain ⟨A3, c3, rfl, r3⟩ := rd_of_own ho3
      have HB3 := Aside0.mk (below_next HB2.out hb3)
      have hT := Aside0.mk (tag_ok HL.out hB hB')
      obtain ⟨T, HT⟩ : ∃ z, Aside0 (tagS (endS (rK k) b) (sK k) = z) := ⟨_, ⟨rfl⟩⟩
      rw [HT.out] at r3 hT ⊢
      have R3 := Aside0.mk r3
      have Q1 := Aside0.mk (R1.out.below hb3)
      have Q2 := Aside0.mk (R2.out.below hb3)
      clear ho3 r3 hb3
      go_wp2_with fail
      refine (refTag_c (HR0.out.below HB3.out) (HR0'.out.below HB3.out) hB hB' HM1.out.2).mono ?_
      rintro x w4 ⟨v4, l, rfl, ho4, hl, hb4⟩
      rw [IsTag.uniq hl hT.out] at ho4
      obtain ⟨A4, c4, rfl, r4⟩ := rd_of_own ho4
      have HB4 := Aside0.mk (below_next HB3.out hb4)
      have s1 := rd_string (R3.out.below hb4)
      have s2 := rd_string r4
      have s3 := rd_string (Q1.out.below hb4)
      have s4 := rd_string (Q2.out.below hb4)
      have s5 := rd_string (HR0.out.below HB4.out)
      have s6 := rd_string (HR0'.out.below HB4.out)
      have e1 := str_self T
      have e2 := str_self k
      have e3 := str_self b
      clear ho4 r4 hb4 hl
      go_wp2_with fail
      refine awake25_c.mono ?_
      rintro x w5 ⟨rfl, hb5⟩
      have HB5 := Aside0.mk (below_next HB4.out hb5)
      clear s1 s2 s3 s4 s5 s6
      go_wp2_with fail
      go_ret
      exact ⟨rfl, HB5.out⟩
    · refine (OTag_no h32).mono ?_
      rintro x w3 ⟨rfl, rfl⟩
      go_wp2_with fail
      refine (refTag_no h32).mono ?_
      rintro x w4 ⟨rfl, rfl⟩
      have s0 := rd_string (rd_nil w4)
      have e0 := str_self []
      have s3 := rd_string R1.out
      have s4 := rd_string R2.out
      have s5 := rd_string (HR0.out.below HB2.out)
      have s6 := rd_string (HR0'.out.below HB2.out)
      have e2 := str_self k
      have e3 := str_self b
      go_wp2_with fail
      refine awake25_c.mono ?_
      rintro x w5 ⟨rfl, hb5⟩
      have HB5 := Aside0.mk (below_next HB2.out hb5)
      clear s0 s3 s4 s5 s6
      go_wp2_with fail
      go_ret
      exact ⟨rfl, HB5.out⟩
  · have hmi : (4000 : Int) < (m : Int) := by omega
    go_enter Try.func8, Try.ntmps8
    go_wp2_with fail
    refine awake25_c.mono ?_
    rintro x w5 ⟨rfl, hb5⟩
    go_wp2_with fail
    go_ret
    exact ⟨rfl, hb5⟩
end Go.Proofs.Ytkjmjgiklelpiaa.WalkOnetimeTags
