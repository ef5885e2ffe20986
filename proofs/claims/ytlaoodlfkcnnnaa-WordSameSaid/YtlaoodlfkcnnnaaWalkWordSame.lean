/- WordSame, walked. -/
import Derived.Test.YtlaoodlfkcnnnaaWordC
import Derived.Test.YtlaoodlfkcnnnaaPlainWordSame
import Derived.Deep.RegionHeld3
import Derived.Outline
namespace Go.Proofs.Ytlaoodlfkcnnnaa.WalkWordSame
open Go.RowKit Go.Proofs.YtlaoodlfkcnnnaaW.PrintWords Go.Proofs.Ytlaoodlfkcnnnaa.Num Go.Proofs.Ytlaoodlfkcnnnaa.WordC
set_option linter.unusedVariables false

theorem Same_c {A A' : Option Addr} {n n' c c' : Nat} {l l' : List Int} {w : World} (hr : Rd w A n c l) (hr' : Rd w A' n' c' l') (hB : IsB l) (hB' : IsB l') (hn : n ≤ 140737488351232) :
    Calls Try.prog 27 #[.slice A n c, .slice A' n' c'] w fun e w' => e = .returned (.bool (eqB l l')) ∧ Drawn0 w w' := by
  obtain ⟨rfl, hc, hC⟩ := hr
  obtain ⟨rfl, hc', hC'⟩ := hr'
  exact PWordSame.word_Same.calls (l.length + 1) A c l A' c' l' _ w hC hc hC' hc' (PlainWordSame.Same_eq l l' hB hB' hn _ (by omega))

set_option maxHeartbeats 4000000 in
set_option maxRecDepth 100000 in
theorem walk (A : Option Addr) (n c : Nat) (l : List Int) {w : World} (hr : Rd w A n c l) (hB : IsB l) (hn : n ≤ 140737488351232)
    (A' : Option Addr) (n' c' : Nat) (l' : List Int) (hr' : Rd w A' n' c' l') (hB' : IsB l') (hn' : n' ≤ 140737488351232) :
    Calls Try.prog 7 #[.slice A n c, .slice A' n' c'] w fun e w' => e = .returned (.bool true) ∧ Below w.heap.size w w' := by
  have hg : (eqB l l' == ((strOfNums l).toList == (strOfNums l').toList)) = true := by rw [str_eq hB hB']; simp
  have hs : eqB l l = true := eqB_self l
  have hl : l.length ≤ 140737488351232 := by have := hr.len; omega
  have t1 : True := trivial
  have t2 : True := trivial
  have t3 : True := trivial
  have t4 : True := trivial
  have HB0 : Below w.heap.size w w.drew := (Below.refl _ w).drew
  go_enter Try.func7, Try.ntmps7
  go_wp2_with fail
  go_region_held3 (fun w' => (convert 22 9 (.slice A n c)).run Try.prog w' = .ok (.string (strOfNums l)) w' ∧ (convert 22 9 (.slice A' n' c')).run Try.prog w' = .ok (.string (strOfNums l')) w')
    (first | exact ⟨rd_string (hr.below HB0), rd_string (hr'.below HB0)⟩ | exact ⟨rd_string ((hr.below HB0).drewN _), rd_string ((hr'.below HB0).drewN _)⟩)
    (first
     | (go_at_call 15; have _t := t1; (with_reducible refine (own01_c (hr.below HB0) hn).mono ?_); rintro e w1 ⟨v1, rfl, ho1, hb1⟩; obtain ⟨A1, c1, rfl, hx1⟩ := rd_of_own ho1; have HB1 := below_next HB0 hb1; clear HB0 t1 _t; have HB0 := HB1)
     | (go_at_call 15; have _t := t2; (with_reducible refine (own01_c (hr'.below HB0) hn').mono ?_); rintro e w2 ⟨v2, rfl, ho2, hb2⟩; obtain ⟨A2, c2, rfl, hx2⟩ := rd_of_own ho2; have HB2 := below_next HB0 hb2; clear HB0 t2 _t; have HB0 := HB2)
     | (go_at_call 15; have _t := t3; (with_reducible refine (own01_c ((hr.below HB0).drewN _) hn).mono ?_); rintro e w3 ⟨v3, rfl, ho3, hb3⟩; obtain ⟨A3, c3, rfl, hx3⟩ := rd_of_own ho3; have HB3 := below_next (pw_below_drewN HB0 _) hb3; clear HB0 t3 _t; have HB0 := HB3)
     | (go_at_call 15; (with_reducible refine (own01_c (hr.below HB0) hn).mono ?_); rintro e w4 ⟨v4, rfl, ho4, hb4⟩; obtain ⟨A4, c4, rfl, hx4⟩ := rd_of_own ho4; have HB4 := below_next HB0 hb4; clear HB0; have HB0 := HB4)
     | (go_at_call 27; have _t := t4; (with_reducible refine (Same_c (hx1.below hb2) hx2 hB hB' hl).mono ?_); rintro e w' ⟨rfl, ⟨nd, rfl⟩⟩; clear t4 _t)
     | (go_at_call 27; (with_reducible refine (Same_c (hx3.below hb4) hx4 hB hB hl).mono ?_); rintro e w' ⟨rfl, ⟨nd4, rfl⟩⟩)
     | (go_at_call 20; (with_reducible refine awake01_c.mono ?_); rintro e w5 ⟨rfl, hb5⟩; have HB5 := below_next (pw_below_drewN HB0 _) hb5; clear HB0; have HB0 := HB5))
  go_wp2
  go_ret
  exact ⟨rfl, HB0⟩
end Go.Proofs.Ytlaoodlfkcnnnaa.WalkWordSame
