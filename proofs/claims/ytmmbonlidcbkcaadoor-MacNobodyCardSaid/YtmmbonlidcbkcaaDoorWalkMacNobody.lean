/- MacNobody, walked. -/
import Derived.Test.YtmmbonlidcbkcaaDoorDgA
import Derived.Deep.RegionHeld3
import Derived.Test.YtmmbonlidcbkcaaDoorMacA
import Derived.Deep.MidRow
import Derived.Deep.Cut
namespace Go.Proofs.YtmmbonlidcbkcaaDoor.WalkMacNobody
open Go.RowKit Go.Proofs.YtmmbonlidcbkcaaDoorW.PrintWords Go.Proofs.YtmmbonlidcbkcaaDoor.Num Go.Proofs.YtmmbonlidcbkcaaDoor.Sha Go.Proofs.YtmmbonlidcbkcaaDoor.WordC Go.Proofs.YtmmbonlidcbkcaaDoor.Arr Go.Proofs.YtmmbonlidcbkcaaDoor.App Go.Proofs.YtmmbonlidcbkcaaDoor.DgC Go.Proofs.YtmmbonlidcbkcaaDoor.DgBlock Go.Proofs.YtmmbonlidcbkcaaDoor.DgState Go.Proofs.YtmmbonlidcbkcaaDoor.DgAdd Go.Proofs.YtmmbonlidcbkcaaDoor.DgSum Go.Proofs.YtmmbonlidcbkcaaDoor.DgOf Go.Proofs.YtmmbonlidcbkcaaDoor.DgCopy Go.Proofs.YtmmbonlidcbkcaaDoor.DgLaw Go.Proofs.YtmmbonlidcbkcaaDoor.DgWords Go.Proofs.YtmmbonlidcbkcaaDoor.RefOf Go.Proofs.YtmmbonlidcbkcaaDoor.MacC Go.Proofs.YtmmbonlidcbkcaaDoor.MacTag Go.Proofs.YtmmbonlidcbkcaaDoor.MacLaw Go.Proofs.YtmmbonlidcbkcaaDoor.MacAwake Go.Proofs.YtmmbonlidcbkcaaDoor.MacHold Go.Proofs.YtmmbonlidcbkcaaDoor.MacNil Go.Proofs.YtmmbonlidcbkcaaDoor.MacMany Go.Proofs.YtmmbonlidcbkcaaDoor.Hmac Go.Proofs.YtmmbonlidcbkcaaDoor.MacNew Go.Proofs.YtmmbonlidcbkcaaDoor.MacRef
set_option linter.unusedVariables false
set_option linter.unusedSimpArgs false

theorem wpList_load_gmid {P : Program} {ops : Array Oper} {rest : List Oper} {op : Oper} {a : Act} {w : World} {Q : Exit → Act → World → Prop} (hw : Region.wanted op (yielded ops a.tmps) = true) (ty : TypeId) (x : Operand) (ho : op.op = .load ty x)
    (b o : Nat) (hx : a.eval x = .pointer (some ⟨b, o, none⟩)) (cs : List Value) (d : TypeDesc) (hc : w.rangeAt b o cs)
    (hu : P.underlying ty = some d) (hd : d.isRow = true) (hi : (P.info? ty).map (·.size) = some cs.length)
    (h : wpList P ops Q rest (a.put op.dst (.agg cs.toArray)) w) : wpList P ops Q (op :: rest) a w := by
  unfold wpList
  rw [if_pos hw]
  exact .inl (wp_load_mid ty x ho b o hx cs d hc hu hd hi h)
set_option maxHeartbeats 8000000 in
set_option maxRecDepth 100000 in
theorem walk (A : Option Addr) (n c : Nat) (l : List Int) {w : World} (hr : Rd w A n c l) (hB : IsB l) (hn : n ≤ 140737488351232) (ht : Tb w) :
    Calls Tryd.prog 14 #[.slice A n c] w fun e w' => e = .returned (.bool true) ∧ Below w.heap.size w w' := by
  by_cases h : n ≤ 4000
  · have hle : ¬ (4000 : Int) < (n : Int) := by omega
    have HL := Aside0.mk hr.len
    have hlT := tagS_length [] l
    have hIT := tagS_isB [] l
    obtain ⟨T, HT⟩ : ∃ T, Aside0 (tagS [] l = T) := ⟨_, ⟨rfl⟩⟩
    rw [HT.out] at hlT hIT
    have HLT := Aside0.mk hlT
    clear hlT
    go_enter Tryd.func14, Tryd.ntmps14
    go_wp2_with fail
    refine (reftag36_c (rd_nil w) isB_nil (by omega) hr hB (by omega)).mono ?_
    rintro x w1 ⟨v1, rfl, ho1, hb1⟩
    rw [HT.out] at ho1
    obtain ⟨A1, c1, rfl, r1⟩ := rd_of_own ho1
    rw [HLT.out] at r1 ⊢
    clear ho1
    go_wp2_with fail
    refine (own35_c (hr.below hb1) hn).mono ?_
    rintro x w2 ⟨v2, rfl, ho2, hb2⟩
    obtain ⟨A2, c2, rfl, r2⟩ := rd_of_own ho2
    rw [HL.out] at r2 ⊢
    clear ho2
    have hB2 := below_next hb1 hb2
    have ht2 := ht.below hB2
    have hP : Pt (w2.alloc (.cells #[.slice A2 n c2] 22)) (some ⟨w2.heap.size, 0, none⟩) 1 1 [l] := pt_one r2
    have hb2a : Below w2.heap.size w2 (w2.alloc (.cells #[.slice A2 n c2] 22)) := (Below.refl _ w2).alloc (Nat.le_refl _) _
    go_wp2_with fail
    refine (Many_c (key := []) (fun W B m d k l' hb hk hr' hI hm => ?_) hP (isB_one hB) (by omega) (by rw [flat_one, HL.out]; omega)).mono ?_
    · subst hk
      have hbW : Below W.heap.size W (W.alloc (.cells #[.slice B m d] 22)) := (Below.refl _ W).alloc (Nat.le_refl _) _
      have htW : Tb (W.alloc (.cells #[.slice B m d] 22)) := ((ht2.below hb2a).below hb).below hbW
      refine (Tag_nil (pt_one hr') (isB_one hI) (by rw [flat_one, hr'.len]; omega) htW).mono ?_
      rintro e w' ⟨rfl, hb'⟩
      rw [flat_one]
      exact ⟨rfl, hbW.trans (hb'.mono (by simp))⟩
    rintro x w3 ⟨v3, rfl, hTg, hb3⟩
    have hTg' : Tg w3 (w2.alloc (.cells #[.slice A2 n c2] 22)).heap.size v3 [T] := by rw [← HT.out]; exact hTg
    obtain ⟨g3, c3, rfl, hR3⟩ := tg_range hTg'
    have hb23 : Below w2.heap.size w2 w3 := hb2a.trans (hb3.mono (by simp))
    have hB3 := below_next hB2 hb23
    have r13 := (r1.below hb2).below hb23
    clear hTg hTg' hb3 hb2a hP r2
    go_wp2_with fail
    refine (own35_c (hr.below hB3) hn).mono ?_
    rintro x w4 ⟨v4, rfl, ho4, hb4⟩
    obtain ⟨A4, c4, rfl, r4⟩ := rd_of_own ho4
    rw [HL.out] at r4 ⊢
    clear ho4
    have hB4 := below_next hB3 hb4
    have hb4a : Below w4.heap.size w4 (w4.alloc (.cells #[.slice A4 n c4] 22)) := (Below.refl _ w4).alloc (Nat.le_refl _) _
    go_wp2_with fail
    refine (Tag_nil (pt_one r4) (isB_one hB) (by rw [flat_one, HL.out]; omega) ((ht.below hB4).below hb4a)).mono ?_
    rintro x w5 ⟨rfl, hb5⟩
    rw [flat_one, HT.out]
    have hb45 : Below w4.heap.size w4 w5 := hb4a.trans (hb5.mono (by simp))
    have hB5 := below_next hB4 hb45
    have r15 := (r13.below hb4).below hb45
    go_wp2_with fail
    refine (is37_c r15 hIT hIT HLT.out).mono ?_
    rintro x w6 ⟨rfl, hb6⟩
    rw [eqB_self]
    have hB6 := below_next hB5 hb6
    have r16 := r15.below hb6
    clear r4 hb4a hb5
    go_wp2_with fail
    refine (own35_c r16 (by omega)).mono ?_
    rintro x w7 ⟨v7, rfl, ho7, hb7⟩
    obtain ⟨A7, c7, rfl, r7⟩ := rd_of_own ho7
    rw [HLT.out] at r7 ⊢
    clear ho7
    have hB7 := below_next hB6 hb7
    go_wp2_with fail
    refine (own35_c (hr.below hB7) hn).mono ?_
    rintro x w8 ⟨v8, rfl, ho8, hb8⟩
    obtain ⟨A8, c8, rfl, r8⟩ := rd_of_own ho8
    rw [HL.out] at r8 ⊢
    clear ho8
    have hB8 := below_next hB7 hb8
    have hb8a : Below w8.heap.size w8 (w8.alloc (.cells #[.slice A8 n c8] 22)) := (Below.refl _ w8).alloc (Nat.le_refl _) _
    go_wp2_with fail
    refine (holds42_nil ((r7.below hb8).below hb8a) hIT (pt_one r8) (isB_one hB) (by rw [flat_one, HL.out]; omega) ((ht.below hB8).below hb8a)).mono ?_
    rintro x w9 ⟨rfl, hb9⟩
    rw [flat_one, HT.out, eqB_self]
    have hb89 : Below w8.heap.size w8 w9 := hb8a.trans (hb9.mono (by simp))
    have hB9 := below_next hB8 hb89
    have hR9 : w9.rangeAt g3 0 (nums .u8 T) := fun j u hj => by
      have h1 := hR3 j u hj
      have h2 : (w3.heap[g3]?) ≠ none := by
        intro e
        unfold World.cell? at h1
        simp [e] at h1
      have hlt : g3 < w3.heap.size := by
        rcases Nat.lt_or_ge g3 w3.heap.size with h | h
        · exact h
        · exact absurd (Array.getElem?_eq_none h) h2
      have hb39 : Below w3.heap.size w3 w9 := below_next (below_next (below_next (below_next (below_next hb4 hb45) hb6) hb7) hb8) hb89
      have e := hb39.block g3 hlt
      unfold World.cell? at h1 ⊢
      simpa [e] using h1
    have hi27 : (Tryd.prog.info? 27).map (·.size) = some (nums .u8 T).length := by rw [nums_length, HLT.out]; exact size27
    have HR9 := Aside0.mk hR9
    have HI27 := Aside0.mk hi27
    clear hR9 hi27
    have r19 := ((((r16.below hb7).below hb8).below hb89))
    go_wp2_with (first
      | (refine wpList_load_gmid (by rfl) 27 (.tmp 40) rfl g3 0 rfl (nums .u8 T) _ HR9.out Tryd.underlying27 rfl HI27.out ?_))
    refine (is37_c r19 hIT hIT HLT.out).mono ?_
    rintro x w10 ⟨rfl, hb10⟩
    rw [eqB_self]
    have hB10 := below_next hB9 hb10
    go_wp2_with fail
    refine (awake34_c (ht.below hB10)).mono ?_
    rintro x w11 ⟨rfl, hb11⟩
    have hB11 := below_next hB10 hb11
    go_wp2_with fail
    go_ret
    exact ⟨rfl, hB11⟩
  · have hgt : (4000 : Int) < (n : Int) := by omega
    go_enter Tryd.func14, Tryd.ntmps14
    go_wp2_with fail
    refine (awake34_c ht).mono ?_
    rintro x w5 ⟨rfl, hb5⟩
    go_wp2_with fail
    go_ret
    exact ⟨rfl, hb5⟩
end Go.Proofs.YtmmbonlidcbkcaaDoor.WalkMacNobody
