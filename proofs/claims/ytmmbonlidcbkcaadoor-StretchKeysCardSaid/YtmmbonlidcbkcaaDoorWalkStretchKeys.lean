/- StretchKeys, walked. -/
import Derived.Test.YtmmbonlidcbkcaaDoorMacA
import Derived.Deep.RegionHeld3
import Derived.Deep.MidRow
import Derived.Deep.Cut
import Derived.Test.YtmmbonlidcbkcaaDoorStAw
namespace Go.Proofs.YtmmbonlidcbkcaaDoor.WalkStretchKeys
open Go.RowKit Go.Proofs.YtmmbonlidcbkcaaDoorW.PrintWords Go.Proofs.YtmmbonlidcbkcaaDoor.Num Go.Proofs.YtmmbonlidcbkcaaDoor.Sha Go.Proofs.YtmmbonlidcbkcaaDoor.Hmac Go.Proofs.YtmmbonlidcbkcaaDoor.WordC Go.Proofs.YtmmbonlidcbkcaaDoor.Arr Go.Proofs.YtmmbonlidcbkcaaDoor.App Go.Proofs.YtmmbonlidcbkcaaDoor.DgC Go.Proofs.YtmmbonlidcbkcaaDoor.DgBlock Go.Proofs.YtmmbonlidcbkcaaDoor.DgState Go.Proofs.YtmmbonlidcbkcaaDoor.DgAdd Go.Proofs.YtmmbonlidcbkcaaDoor.DgSum Go.Proofs.YtmmbonlidcbkcaaDoor.DgOf Go.Proofs.YtmmbonlidcbkcaaDoor.DgCopy Go.Proofs.YtmmbonlidcbkcaaDoor.DgLaw Go.Proofs.YtmmbonlidcbkcaaDoor.DgWords Go.Proofs.YtmmbonlidcbkcaaDoor.DgParts Go.Proofs.YtmmbonlidcbkcaaDoor.RefOf Go.Proofs.YtmmbonlidcbkcaaDoor.MacC Go.Proofs.YtmmbonlidcbkcaaDoor.MacTag Go.Proofs.YtmmbonlidcbkcaaDoor.MacLaw Go.Proofs.YtmmbonlidcbkcaaDoor.MacAwake Go.Proofs.YtmmbonlidcbkcaaDoor.MacHold Go.Proofs.YtmmbonlidcbkcaaDoor.MacNew Go.Proofs.YtmmbonlidcbkcaaDoor.MacRef Go.Proofs.YtmmbonlidcbkcaaDoor.MacNil Go.Proofs.YtmmbonlidcbkcaaDoor.MacMany Go.Proofs.YtmmbonlidcbkcaaDoor.StC Go.Proofs.YtmmbonlidcbkcaaDoor.StAw
set_option linter.unusedVariables false
set_option linter.unusedSimpArgs false

/-- What a key comes to, errors too. -/
def resS (pass salt : List Int) (r k : Int) : List Int × Int := if r < 1 ∨ 4096 < r then ([], 6) else if k < 0 ∨ 256 < k then ([], 2) else (stretchS pass salt r.toNat k.toNat, 0)
theorem key_any {A B : Option Addr} {n c m d : Nat} {pass salt : List Int} {r k : Int} {w : World} (hr : Rd w A n c pass) (hB : IsB pass) (hn : n ≤ 140737488351232) (hr' : Rd w B m d salt) (hS : IsB salt) (hm : m ≤ 140737488340000) (ht : Tb w) :
    Calls Tryd.prog 45 #[.slice A n c, .slice B m d, .int .i64 r, .int .i64 k] w fun e w' => ∃ A' m' c', e = .returned (.tuple #[.slice A' m' c', .int .i64 (resS pass salt r k).2]) ∧ Rd w' A' m' c' (resS pass salt r k).1 ∧ Below w.heap.size w w' := by
  by_cases h : r < 1 ∨ 4096 < r
  · refine (Key45_rounds h).mono ?_
    rintro e w' ⟨rfl, rfl⟩
    unfold resS; rw [if_pos h]
    exact ⟨none, 0, 0, rfl, rd_nil _, Below.refl _ _⟩
  · by_cases h2 : k < 0 ∨ 256 < k
    · refine (Key45_long (by omega) (by omega) h2).mono ?_
      rintro e w' ⟨rfl, rfl⟩
      unfold resS; rw [if_neg h, if_pos h2]
      exact ⟨none, 0, 0, rfl, rd_nil _, Below.refl _ _⟩
    · refine (Key45_c hr hB hn hr' hS hm (by omega) (by omega) (by omega) (by omega) ht).mono ?_
      rintro e w' ⟨A', c', rfl, hrd, hb⟩
      unfold resS; rw [if_neg h, if_neg h2]
      exact ⟨A', _, c', rfl, hrd, hb⟩
theorem ref_any {A B : Option Addr} {n c m d : Nat} {pass salt : List Int} {r k : Int} {w : World} (hr : Rd w A n c pass) (hB : IsB pass) (hn : n ≤ 140737488351232) (hr' : Rd w B m d salt) (hS : IsB salt) (hm : m ≤ 140737488340000) :
    Calls Tryd.prog 46 #[.slice A n c, .slice B m d, .int .i64 r, .int .i64 k] w fun e w' => ∃ A' m' c', e = .returned (.tuple #[.slice A' m' c', .int .i64 (resS pass salt r k).2]) ∧ Rd w' A' m' c' (resS pass salt r k).1 ∧ Below w.heap.size w w' := by
  by_cases h : r < 1 ∨ 4096 < r
  · refine (refKey46_rounds h).mono ?_
    rintro e w' ⟨rfl, rfl⟩
    unfold resS; rw [if_pos h]
    exact ⟨none, 0, 0, rfl, rd_nil _, Below.refl _ _⟩
  · by_cases h2 : k < 0 ∨ 256 < k
    · refine (refKey46_long (by omega) (by omega) h2).mono ?_
      rintro e w' ⟨rfl, rfl⟩
      unfold resS; rw [if_neg h, if_pos h2]
      exact ⟨none, 0, 0, rfl, rd_nil _, Below.refl _ _⟩
    · refine (refKey46_c hr hB hn hr' hS hm (by omega) (by omega) (by omega) (by omega)).mono ?_
      rintro e w' ⟨A', c', rfl, hrd, hb⟩
      unfold resS; rw [if_neg h, if_neg h2]
      exact ⟨A', _, c', rfl, hrd, hb⟩
set_option maxHeartbeats 2000000 in
set_option maxRecDepth 100000 in
theorem big {A : Option Addr} {n c : Nat} {B : Option Addr} {m d : Nat} {r k : Int} {w : World} (ht : Tb w) (h : (64 < r ∧ r ≤ 4096) ∨ 400 < n ∨ 400 < m) :
    Calls Tryd.prog 15 #[.agg #[.slice A n c, .slice B m d, .int .i64 r, .int .i64 k]] w fun e w' => e = .returned (.bool true) ∧ Below w.heap.size w w' := by
  have hb0 : Below w.heap.size w (w.alloc (.cells #[.slice A n c, .slice B m d, .int .i64 r, .int .i64 k] 50)) := (Below.refl _ w).alloc (Nat.le_refl _) _
  have ht0 := ht.below hb0
  by_cases h1 : 64 < r
  · by_cases h2 : r ≤ 4096
    · clear h
      go_enter Tryd.func15, Tryd.ntmps15
      go_wp2_with fail
      refine (awake43_c ht0).mono ?_
      rintro x w5 ⟨rfl, hb5⟩
      go_wp2_with fail
      go_ret
      exact ⟨rfl, below_next hb0 hb5⟩
    · have h2' : ¬ r ≤ 4096 := h2
      by_cases h3 : 400 < n
      · have b1 : (400 : Int) < (n : Int) := by omega
        clear h
        go_enter Tryd.func15, Tryd.ntmps15
        go_wp2_with fail
        refine (awake43_c ht0).mono ?_
        rintro x w5 ⟨rfl, hb5⟩
        go_wp2_with fail
        go_ret
        exact ⟨rfl, below_next hb0 hb5⟩
      · have b1 : ¬ (400 : Int) < (n : Int) := by omega
        have b2 : (400 : Int) < (m : Int) := by omega
        clear h
        go_enter Tryd.func15, Tryd.ntmps15
        go_wp2_with fail
        refine (awake43_c ht0).mono ?_
        rintro x w5 ⟨rfl, hb5⟩
        go_wp2_with fail
        go_ret
        exact ⟨rfl, below_next hb0 hb5⟩
  · have h1' : ¬ 64 < r := h1
    by_cases h3 : 400 < n
    · have b1 : (400 : Int) < (n : Int) := by omega
      clear h
      go_enter Tryd.func15, Tryd.ntmps15
      go_wp2_with fail
      refine (awake43_c ht0).mono ?_
      rintro x w5 ⟨rfl, hb5⟩
      go_wp2_with fail
      go_ret
      exact ⟨rfl, below_next hb0 hb5⟩
    · have b1 : ¬ (400 : Int) < (n : Int) := by omega
      have b2 : (400 : Int) < (m : Int) := by omega
      clear h
      go_enter Tryd.func15, Tryd.ntmps15
      go_wp2_with fail
      refine (awake43_c ht0).mono ?_
      rintro x w5 ⟨rfl, hb5⟩
      go_wp2_with fail
      go_ret
      exact ⟨rfl, below_next hb0 hb5⟩
set_option maxHeartbeats 4000000 in
set_option maxRecDepth 100000 in
/-- Behind the tests. -/
theorem main {A : Option Addr} {n c : Nat} {pass : List Int} {B : Option Addr} {m d : Nat} {salt : List Int} {r k : Int} {w : World} (hr : Rd w A n c pass) (hB : IsB pass) (hr' : Rd w B m d salt) (hS : IsB salt) (ht : Tb w) (h1 : n ≤ 400) (h2 : m ≤ 400) (hd : decide (64 < r) = false ∨ (decide (64 < r) = true ∧ decide (r ≤ 4096) = false)) :
    Calls Tryd.prog 15 #[.agg #[.slice A n c, .slice B m d, .int .i64 r, .int .i64 k]] w fun e w' => e = .returned (.bool true) ∧ Below w.heap.size w w' := by
  have b1 : ¬ (400 : Int) < (n : Int) := by omega
  have b2 : ¬ (400 : Int) < (m : Int) := by omega
  have HL := Aside0.mk hr.len
  have HLS := Aside0.mk hr'.len
  have hb0 : Below w.heap.size w (w.alloc (.cells #[.slice A n c, .slice B m d, .int .i64 r, .int .i64 k] 50)) := (Below.refl _ w).alloc (Nat.le_refl _) _
  have hX0 : Blk (w.alloc (.cells #[.slice A n c, .slice B m d, .int .i64 r, .int .i64 k] 50)) w.heap.size 50 [.slice A n c, .slice B m d, .int .i64 r, .int .i64 k] := heap_alloc_new _ _
  rcases hd with hd | ⟨hd, hd'⟩
  all_goals
    go_enter Tryd.func15, Tryd.ntmps15
    go_upto_region 3 with (fail)
    generalize hW : w.alloc _ = W0 at hb0 hX0 ⊢
    clear hW
    have hBD : Below W0.heap.size W0 W0.drew := (Below.refl _ W0).drew
    have hBd := below_next hb0 hBD
    have hXd := Blk.below hX0 hBD
    have hrd := hr.below hBd
    have hrd' := hr'.below hBd
    have c0 : W0.drew.cell? ⟨w.heap.size, 0, none⟩ = some (.slice A n c) := Blk.cell hXd 0
    have c1 : W0.drew.cell? ⟨w.heap.size, 1, none⟩ = some (.slice B m d) := Blk.cell hXd 1
    have HXD := Aside0.mk hXd
    clear hXd hX0
    go_region_held3 (fun w' => w'.cell? ⟨w.heap.size, 0, none⟩ = some (.slice A n c) ∧ w'.cell? ⟨w.heap.size, 1, none⟩ = some (.slice B m d))
      (first | exact ⟨c0, c1⟩ | exact ⟨d0, d1⟩ | exact ⟨e0, e1⟩)
      (first
        | (go_at_call 44; (with_reducible refine (own44_c hrd (by omega)).mono ?_); rintro x w1 ⟨v1, rfl, ho1, hb1⟩; obtain ⟨A1, k1, rfl, r1⟩ := rd_of_own ho1; rw [HL.out] at r1 ⊢; clear ho1; have d0 : w1.cell? ⟨w.heap.size, 0, none⟩ = some (.slice A n c) := Blk.cell (Blk.below HXD.out hb1) 0; have d1 : w1.cell? ⟨w.heap.size, 1, none⟩ = some (.slice B m d) := Blk.cell (Blk.below HXD.out hb1) 1; have hrd2 := hrd'.below hb1)
        | (go_at_call 44; (with_reducible refine (own44_c hrd2 (by omega)).mono ?_); rintro x w2 ⟨v2, rfl, ho2, hb2⟩; obtain ⟨A2, k2, rfl, r2⟩ := rd_of_own ho2; rw [HLS.out] at r2 ⊢; clear ho2; have e0 : w2.cell? ⟨w.heap.size, 0, none⟩ = some (.slice A n c) := Blk.cell (Blk.below (Blk.below HXD.out hb1) hb2) 0; have e1 : w2.cell? ⟨w.heap.size, 1, none⟩ = some (.slice B m d) := Blk.cell (Blk.below (Blk.below HXD.out hb1) hb2) 1))
    have hX2 := Blk.below (Blk.below HXD.out hb1) hb2
    have hB2 := below_next (below_next hBd hb1) hb2
    have e2 : w2.cell? ⟨w.heap.size, 2, none⟩ = some (.int .i64 r) := Blk.cell hX2 2
    have e3 : w2.cell? ⟨w.heap.size, 3, none⟩ = some (.int .i64 k) := Blk.cell hX2 3
    have HX2 := Aside0.mk hX2
    clear d0 d1 c0 c1 hrd hrd' hrd2 HXD hX2
    go_wp2_with fail
    refine (key_any (r1.below hb2) hB (by omega) r2 hS (by omega) (ht.below hB2)).mono ?_
    rintro x w3 ⟨A3, m3, k3, rfl, r3, hb3⟩
    obtain ⟨XE, HXE⟩ : ∃ XE, Aside0 (resS pass salt r k = XE) := ⟨_, ⟨rfl⟩⟩
    rw [HXE.out] at r3 ⊢
    obtain ⟨X, E⟩ := XE
    dsimp only at r3 ⊢
    have hB3 := below_next hB2 hb3
    have hX3 := Blk.below HX2.out hb3
    have f0 : w3.cell? ⟨w.heap.size, 0, none⟩ = some (.slice A n c) := Blk.cell hX3 0
    have f1 : w3.cell? ⟨w.heap.size, 1, none⟩ = some (.slice B m d) := Blk.cell hX3 1
    have f2 : w3.cell? ⟨w.heap.size, 2, none⟩ = some (.int .i64 r) := Blk.cell hX3 2
    have f3 : w3.cell? ⟨w.heap.size, 3, none⟩ = some (.int .i64 k) := Blk.cell hX3 3
    have HX3 := Aside0.mk hX3
    clear e0 e1 e2 e3 hX3
    go_wp2_with fail
    refine (ref_any (hr.below hB3) hB (by omega) (hr'.below hB3) hS (by omega)).mono ?_
    rintro x w4 ⟨A4, m4, k4, rfl, r4, hb4⟩
    rw [HXE.out] at r4 ⊢
    dsimp only at r4 ⊢
    have hB4 := below_next hB3 hb4
    have hX4 := Blk.below HX3.out hb4
    have g0 : w4.cell? ⟨w.heap.size, 0, none⟩ = some (.slice A n c) := Blk.cell hX4 0
    have g1 : w4.cell? ⟨w.heap.size, 1, none⟩ = some (.slice B m d) := Blk.cell hX4 1
    have s1 := rd_string (r3.below hb4)
    have s2 := rd_string r4
    have s3 := rd_string (((r1.below hb2).below hb3).below hb4)
    have s4 := rd_string ((r2.below hb3).below hb4)
    have s5 := rd_string (hr.below hB4)
    have s6 := rd_string (hr'.below hB4)
    have q1 : ((strOfNums X).toList == (strOfNums X).toList) = true := str_self _
    have q2 : ((strOfNums pass).toList == (strOfNums pass).toList) = true := str_self _
    have q3 : ((strOfNums salt).toList == (strOfNums salt).toList) = true := str_self _
    have q4 : (E == E) = true := beq_self_eq_true _
    clear f0 f1 f2 f3 hX4 r1 r2 r3 r4
    go_wp2_with fail
    refine (awake43_c (ht.below hB4)).mono ?_
    rintro x w5 ⟨rfl, hb5⟩
    go_wp2_with fail
    go_ret
    exact ⟨rfl, below_next hB4 hb5⟩
theorem walk (A : Option Addr) (n c : Nat) (pass : List Int) {w : World} (hr : Rd w A n c pass) (hB : IsB pass) (B : Option Addr) (m d : Nat) (salt : List Int) (hr' : Rd w B m d salt) (hS : IsB salt) (r : Int) (hr0 : (Lit.int .i64 r).wf = true) (k : Int) (hk0 : (Lit.int .i64 k).wf = true) (ht : Tb w) :
    Calls Tryd.prog 15 #[.agg #[.slice A n c, .slice B m d, .int .i64 r, .int .i64 k]] w fun e w' => e = .returned (.bool true) ∧ Below w.heap.size w w' := by
  by_cases h : (64 < r ∧ r ≤ 4096) ∨ 400 < n ∨ 400 < m
  · exact big ht h
  · refine main hr hB hr' hS ht (by omega) (by omega) ?_
    by_cases h1 : 64 < r
    · exact .inr ⟨by simpa using h1, by simp; omega⟩
    · exact .inl (by simpa using h1)
end Go.Proofs.YtmmbonlidcbkcaaDoor.WalkStretchKeys
