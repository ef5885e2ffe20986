/- WordFills, walked: bytes filled up are the document's, and lie in memory of their own: what is written into them changes no argument. -/
import Derived.Test.YtlaoodlfkcnnnaaFillC
namespace Go.Proofs.Ytlaoodlfkcnnnaa.WalkWordFills
open Go.RowKit Go.Proofs.YtlaoodlfkcnnnaaW.PrintWords Go.Proofs.Ytlaoodlfkcnnnaa.Num Go.Proofs.Ytlaoodlfkcnnnaa.WordC Go.Proofs.Ytlaoodlfkcnnnaa.FillC
set_option linter.unusedVariables false

set_option maxHeartbeats 4000000 in
set_option maxRecDepth 100000 in
theorem yes (A : Option Addr) (n c : Nat) (l : List Int) {w : World} (hr : Rd w A n c l) (hB : IsB l) (hn : n ≤ 140737488351232) (s : Nat) (h1 : 1 ≤ s) (h2 : s ≤ 4096) :
    Calls Try.prog 6 #[.slice A n c, .int .i64 (s : Int)] w fun e w' => e = .returned (.bool true) ∧ Below w.heap.size w w' := by
  go_enter Try.func6, Try.ntmps6
  go_wp2_with fail
  refine (own01_c hr hn).mono ?_
  rintro e w1 ⟨v, rfl, ho, hb1⟩
  obtain ⟨A1, c1, rfl, hx⟩ := rd_of_own ho
  have hl : l.length ≤ 140737488351232 := by have := hr.len; omega
  go_wp2_with fail
  refine (Fill_yes hx hl s rfl h1 h2).mono ?_
  rintro e w2 ⟨v2, rfl, ho2, hb2⟩
  obtain ⟨A2, c2, rfl, hx2⟩ := rd_of_own ho2
  go_wp2_with fail
  refine (refFill_yes ((hr.below hb1).below hb2) hn s rfl h1 h2).mono ?_
  rintro e w3 ⟨v3, rfl, ho3, hb3⟩
  obtain ⟨A3, c3, rfl, hx3⟩ := rd_of_own ho3
  have s1 := rd_string (hx2.below hb3)
  have s2 := rd_string hx3
  have g1 : ((strOfNums (filled l s)).toList != (strOfNums (filled l s)).toList) = false := by simp
  have hfl : (filled l s).length ≤ 9223372036854775807 := hx2.len ▸ (Kd.C_max hx2.cells)
  go_wp2_with fail
  have hO : Ow w3 w1.heap.size (.slice A2 (filled l s).length c2) (filled l s) := Kd.R_below ho2 hb3
  have hB3 : Below w1.heap.size w1 w3 := below_next hb2 hb3
  have hA : (filled l s).length = 0 ∨ ∃ g, A2 = some ⟨g, 0, none⟩ ∧ w1.heap.size ≤ g := by
    rcases Nat.eq_zero_or_pos (filled l s).length with h | h
    · exact .inl h
    · obtain ⟨g, cap, e, hg, _⟩ := Kd.R_form hO h
      injection e with e1 e2 e3
      exact .inr ⟨g, e1, hg⟩
  clear hx2 hx3 ho2 ho3 ho s1 s2 hb2 hb3
  obtain ⟨f, hf⟩ : ∃ f, f = filled l s := ⟨_, rfl⟩
  rw [← hf] at hA hO hfl ⊢
  clear hf g1
  rcases hA with hA | ⟨g, rfl, hg⟩
  · have hz : ¬ (0 : Int) < (f.length : Int) := by omega
    clear hA hfl
    go_loopw [37] (fun i wr => i = .int .i64 0 ∧ Below w1.heap.size w1 wr) (fun _ _ => 0)
    case atStart => exact ⟨rfl, hB3⟩
    case round =>
      obtain ⟨rfl, hB'⟩ := hrel
      have s1 := rd_string (hx.below hB')
      have s2 := rd_string ((hr.below hb1).below hB')
      go_wp2_with fail
      refine awake01_c.mono ?_
      rintro e w6 ⟨rfl, hb6⟩
      go_wp2_with fail
      go_ret
      exact ⟨rfl, below_next (below_next hb1 hB') hb6⟩
  · go_loopw [37] (fun i wr => ∃ (k : Nat) (l' : List Int), k ≤ f.length ∧ i = .int .i64 k ∧ Ow wr w1.heap.size (.slice (some ⟨g, 0, none⟩) f.length c2) l' ∧ Below w1.heap.size w1 wr) (fun i _ => f.length - (intOf i).toNat)
    case atStart => exact ⟨0, f, Nat.zero_le _, rfl, hO, hB3⟩
    case round =>
      obtain ⟨k, l', hk, rfl, hO', hB'⟩ := hrel
      by_cases hlt : k < f.length
      · have hlt' : (k : Int) < (f.length : Int) := by omega
        obtain ⟨hc, hfz⟩ := Kd.R_celln (0 : Int) hO' (k : Int) (by omega) (by omega)
        have hput := fun x => Kd.R_putn hO' (k : Int) x
        rw [Int.toNat_natCast] at hc hfz hput
        obtain ⟨x, hx0⟩ : ∃ x, x = rdOf 0 l' (k : Int) := ⟨_, rfl⟩
        rw [← hx0] at hc
        clear hx0
        have HP := Aside0.mk hput
        clear hput
        go_wp2
        go_roundw
        case rel => exact ⟨k + 1, _, by omega, by go_num, HP.out _, hB'.setCell hg _⟩
        case measure => simp [intOf]; omega
      · have hge : ¬ (k : Int) < (f.length : Int) := by omega
        have s1 := rd_string (hx.below hB')
        have s2 := rd_string ((hr.below hb1).below hB')
        go_wp2_with fail
        refine awake01_c.mono ?_
        rintro e w6 ⟨rfl, hb6⟩
        go_wp2_with fail
        go_ret
        exact ⟨rfl, below_next (below_next hb1 hB') hb6⟩
theorem rd_nil (w : World) : Rd w none 0 0 [] := ⟨rfl, Nat.le_refl _, Kd.C_nil _ w⟩
set_option maxHeartbeats 4000000 in
set_option maxRecDepth 100000 in
theorem no (A : Option Addr) (n c : Nat) (l : List Int) {w : World} (hr : Rd w A n c l) (hB : IsB l) (hn : n ≤ 140737488351232) (z : Int) (hz : z < 1 ∨ 4096 < z) :
    Calls Try.prog 6 #[.slice A n c, .int .i64 z] w fun e w' => e = .returned (.bool true) ∧ Below w.heap.size w w' := by
  have g1 : ((strOfNums []).toList != (strOfNums []).toList) = false := by simp
  go_enter Try.func6, Try.ntmps6
  go_wp2_with fail
  refine (own01_c hr hn).mono ?_
  rintro e w1 ⟨v, rfl, ho, hb1⟩
  obtain ⟨A1, c1, rfl, hx⟩ := rd_of_own ho
  go_wp2_with fail
  refine (Fill_no hz).mono ?_
  rintro e w2 ⟨rfl, rfl⟩
  go_wp2_with fail
  refine (refFill_no (hr.below hb1) hz).mono ?_
  rintro e w3 ⟨v3, rfl, ho3, hb3⟩
  obtain ⟨A3, c3, rfl, hx3⟩ := rd_of_own ho3
  have hx3' : Rd w3 A3 0 c3 [] := hx3
  have s1 := rd_string (rd_nil w3)
  have s2 := rd_string hx3'
  go_wp2_with fail
  clear s1 s2 g1 hx3 hx3' ho3
  go_loopw [37] (fun i wr => i = .int .i64 0 ∧ Below w1.heap.size w1 wr) (fun _ _ => 0)
  case atStart => exact ⟨rfl, hb3⟩
  case round =>
    obtain ⟨rfl, hB'⟩ := hrel
    have s1 := rd_string (hx.below hB')
    have s2 := rd_string ((hr.below hb1).below hB')
    go_wp2_with fail
    refine awake01_c.mono ?_
    rintro e w6 ⟨rfl, hb6⟩
    go_wp2_with fail
    go_ret
    exact ⟨rfl, below_next (below_next hb1 hB') hb6⟩
theorem walk (A : Option Addr) (n c : Nat) (l : List Int) {w : World} (hr : Rd w A n c l) (hB : IsB l) (hn : n ≤ 140737488351232) (z : Int) (_hz : (Lit.int .i64 z).wf = true) :
    Calls Try.prog 6 #[.slice A n c, .int .i64 z] w fun e w' => e = .returned (.bool true) ∧ Below w.heap.size w w' := by
  by_cases h : z < 1 ∨ 4096 < z
  · exact no A n c l hr hB hn z h
  · obtain ⟨s, rfl⟩ : ∃ s : Nat, z = s := ⟨z.toNat, by omega⟩
    exact yes A n c l hr hB hn s (by omega) (by omega)
end Go.Proofs.Ytlaoodlfkcnnnaa.WalkWordFills
