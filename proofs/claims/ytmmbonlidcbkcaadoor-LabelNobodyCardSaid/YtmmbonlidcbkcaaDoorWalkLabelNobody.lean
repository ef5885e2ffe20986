/- LabelNobody, walked. -/
import Derived.Test.YtmmbonlidcbkcaaDoorMacA
import Derived.Deep.RegionHeld3
import Derived.Deep.MidRow
import Derived.Deep.Cut
import Derived.Test.YtmmbonlidcbkcaaDoorLbA
namespace Go.Proofs.YtmmbonlidcbkcaaDoor.WalkLabelNobody
open Go.RowKit Go.Proofs.YtmmbonlidcbkcaaDoorW.PrintWords Go.Proofs.YtmmbonlidcbkcaaDoor.Num Go.Proofs.YtmmbonlidcbkcaaDoor.Sha Go.Proofs.YtmmbonlidcbkcaaDoor.Hmac Go.Proofs.YtmmbonlidcbkcaaDoor.WordC Go.Proofs.YtmmbonlidcbkcaaDoor.Arr Go.Proofs.YtmmbonlidcbkcaaDoor.App Go.Proofs.YtmmbonlidcbkcaaDoor.DgC Go.Proofs.YtmmbonlidcbkcaaDoor.DgBlock Go.Proofs.YtmmbonlidcbkcaaDoor.DgState Go.Proofs.YtmmbonlidcbkcaaDoor.DgAdd Go.Proofs.YtmmbonlidcbkcaaDoor.DgSum Go.Proofs.YtmmbonlidcbkcaaDoor.DgOf Go.Proofs.YtmmbonlidcbkcaaDoor.DgCopy Go.Proofs.YtmmbonlidcbkcaaDoor.DgLaw Go.Proofs.YtmmbonlidcbkcaaDoor.DgWords Go.Proofs.YtmmbonlidcbkcaaDoor.DgParts Go.Proofs.YtmmbonlidcbkcaaDoor.RefOf Go.Proofs.YtmmbonlidcbkcaaDoor.MacC Go.Proofs.YtmmbonlidcbkcaaDoor.MacTag Go.Proofs.YtmmbonlidcbkcaaDoor.MacLaw Go.Proofs.YtmmbonlidcbkcaaDoor.MacAwake Go.Proofs.YtmmbonlidcbkcaaDoor.MacHold Go.Proofs.YtmmbonlidcbkcaaDoor.MacNew Go.Proofs.YtmmbonlidcbkcaaDoor.MacRef Go.Proofs.YtmmbonlidcbkcaaDoor.MacNil Go.Proofs.YtmmbonlidcbkcaaDoor.MacMany Go.Proofs.YtmmbonlidcbkcaaDoor.LbC Go.Proofs.YtmmbonlidcbkcaaDoor.LbR Go.Proofs.YtmmbonlidcbkcaaDoor.LbA
set_option linter.unusedVariables false
set_option linter.unusedSimpArgs false

set_option maxHeartbeats 4000000 in
set_option maxRecDepth 100000 in
theorem walk (b : Bool) (e : Int) (he : (Lit.int .i64 e).wf = true) (A : Option Addr) (n c : Nat) (l : List Int) {w : World} (hr : Rd w A n c l) (hB : IsB l) (hn : n ≤ 140737488351232) (s : ByteArray) (hs : s.size ≤ maxLen) (ht : Tb w) :
    Calls Tryd.prog 22 #[.agg #[.bool b, .int .i64 e, .slice A n c, .string s]] w fun x w' => x = .returned (.bool true) ∧ Below w.heap.size w w' := by
  clear he
  have HL := Aside0.mk hr.len
  have HS := Aside0.mk hs
  clear hs
  cases hf : rightL s e with
  | false =>
    have HF := Aside0.mk hf
    clear hf
    go_enter Tryd.func22, Tryd.ntmps22
    go_upto_region 2 with (fail)
    generalize hW : w.alloc _ = W0
    have hb0 : Below w.heap.size w W0 := by rw [← hW]; exact (Below.refl _ w).alloc (Nat.le_refl _) _
    have hX0 : Blk W0 w.heap.size 72 [.bool b, .int .i64 e, .slice A n c, .string s] := by rw [← hW]; exact heap_alloc_new _ _
    clear hW
    have a1 : W0.cell? ⟨w.heap.size, 1, none⟩ = some (.int .i64 e) := Blk.cell hX0 1
    have a3 : W0.cell? ⟨w.heap.size, 3, none⟩ = some (.string s) := Blk.cell hX0 3
    go_wp2_with fail
    refine (Key55_arg HF.out).mono ?_
    rintro x w1 ⟨rfl, hb1⟩
    have hB1 := below_next hb0 hb1
    have hX1 := Blk.below hX0 hb1
    have b1 : w1.cell? ⟨w.heap.size, 1, none⟩ = some (.int .i64 e) := Blk.cell hX1 1
    have b3 : w1.cell? ⟨w.heap.size, 3, none⟩ = some (.string s) := Blk.cell hX1 3
    clear a1 a3
    go_wp2_with fail
    refine (refRight65_c HS.out).mono ?_
    rintro x w2 ⟨rfl, rfl⟩
    rw [HF.out]
    have hD : Below w2.heap.size w2 w2.drew := (Below.refl _ w2).drew
    have hXd := Blk.below hX1 hD
    have hBd := below_next hB1 hD
    have d1 : w2.drew.cell? ⟨w.heap.size, 1, none⟩ = some (.int .i64 e) := Blk.cell hXd 1
    have d2 : w2.drew.cell? ⟨w.heap.size, 2, none⟩ = some (.slice A n c) := Blk.cell hXd 2
    have hrd := hr.below hBd
    have HXD := Aside0.mk hXd
    clear hXd hX1 hX0
    go_wp2_with fail
    go_region_held3 (fun w' => w'.cell? ⟨w.heap.size, 1, none⟩ = some (.int .i64 e) ∧ w'.cell? ⟨w.heap.size, 2, none⟩ = some (.slice A n c))
      (first | exact ⟨d1, d2⟩ | exact ⟨e1, e2⟩ | exact ⟨f1, f2⟩)
      (first
        | (go_at_call 48; (with_reducible refine (own48_c hrd hn).mono ?_); rintro x w3 ⟨v3, rfl, ho3, hb3⟩; obtain ⟨A3, c3, rfl, r3⟩ := rd_of_own ho3; rw [HL.out] at r3 ⊢; clear ho3; have e1 : w3.cell? ⟨w.heap.size, 1, none⟩ = some (.int .i64 e) := Blk.cell (Blk.below HXD.out hb3) 1; have e2 : w3.cell? ⟨w.heap.size, 2, none⟩ = some (.slice A n c) := Blk.cell (Blk.below HXD.out hb3) 2; have ht3 := ht.below (below_next hBd hb3))
        | (go_at_call 57; (with_reducible refine Put57_nil.mono ?_); rintro x w5 ⟨rfl, rfl⟩)
        | (go_at_call 59; (with_reducible refine Epochs59_nil.mono ?_); rintro x w5 ⟨rfl, rfl⟩)
        | (go_at_call 63; (with_reducible refine Master63_nil.mono ?_); rintro x w5 ⟨rfl, rfl⟩)
        | (go_at_call 61; (with_reducible refine Last61_nil.mono ?_); rintro x w5 ⟨rfl, rfl⟩)
        | (go_at_call 51; (with_reducible refine (awake51_c ht3).mono ?_); rintro x w4 ⟨rfl, hb4⟩; have f1 : w4.cell? ⟨w.heap.size, 1, none⟩ = some (.int .i64 e) := Blk.cell (Blk.below (Blk.below HXD.out hb3) hb4) 1; have f2 : w4.cell? ⟨w.heap.size, 2, none⟩ = some (.slice A n c) := Blk.cell (Blk.below (Blk.below HXD.out hb3) hb4) 2))
    go_wp2_with fail
    go_ret
    exact ⟨rfl, below_next (below_next hBd hb3) hb4⟩
  | true =>
    have HF := Aside0.mk hf
    clear hf
    go_enter Tryd.func22, Tryd.ntmps22
    go_upto_region 2 with (fail)
    generalize hW : w.alloc _ = W0
    have hb0 : Below w.heap.size w W0 := by rw [← hW]; exact (Below.refl _ w).alloc (Nat.le_refl _) _
    have hX0 : Blk W0 w.heap.size 72 [.bool b, .int .i64 e, .slice A n c, .string s] := by rw [← hW]; exact heap_alloc_new _ _
    clear hW
    have a1 : W0.cell? ⟨w.heap.size, 1, none⟩ = some (.int .i64 e) := Blk.cell hX0 1
    have a3 : W0.cell? ⟨w.heap.size, 3, none⟩ = some (.string s) := Blk.cell hX0 3
    go_wp2_with fail
    refine (Key55_nil HF.out).mono ?_
    rintro x w1 ⟨rfl, hb1⟩
    have hB1 := below_next hb0 hb1
    have hX1 := Blk.below hX0 hb1
    have b1 : w1.cell? ⟨w.heap.size, 1, none⟩ = some (.int .i64 e) := Blk.cell hX1 1
    have b3 : w1.cell? ⟨w.heap.size, 3, none⟩ = some (.string s) := Blk.cell hX1 3
    clear a1 a3
    go_wp2_with fail
    refine (refRight65_c HS.out).mono ?_
    rintro x w2 ⟨rfl, rfl⟩
    rw [HF.out]
    have hD : Below w2.heap.size w2 w2.drew := (Below.refl _ w2).drew
    have hXd := Blk.below hX1 hD
    have hBd := below_next hB1 hD
    have d1 : w2.drew.cell? ⟨w.heap.size, 1, none⟩ = some (.int .i64 e) := Blk.cell hXd 1
    have d2 : w2.drew.cell? ⟨w.heap.size, 2, none⟩ = some (.slice A n c) := Blk.cell hXd 2
    have hrd := hr.below hBd
    have HXD := Aside0.mk hXd
    clear hXd hX1 hX0
    go_wp2_with fail
    go_region_held3 (fun w' => w'.cell? ⟨w.heap.size, 1, none⟩ = some (.int .i64 e) ∧ w'.cell? ⟨w.heap.size, 2, none⟩ = some (.slice A n c))
      (first | exact ⟨d1, d2⟩ | exact ⟨e1, e2⟩ | exact ⟨f1, f2⟩)
      (first
        | (go_at_call 48; (with_reducible refine (own48_c hrd hn).mono ?_); rintro x w3 ⟨v3, rfl, ho3, hb3⟩; obtain ⟨A3, c3, rfl, r3⟩ := rd_of_own ho3; rw [HL.out] at r3 ⊢; clear ho3; have e1 : w3.cell? ⟨w.heap.size, 1, none⟩ = some (.int .i64 e) := Blk.cell (Blk.below HXD.out hb3) 1; have e2 : w3.cell? ⟨w.heap.size, 2, none⟩ = some (.slice A n c) := Blk.cell (Blk.below HXD.out hb3) 2; have ht3 := ht.below (below_next hBd hb3))
        | (go_at_call 57; (with_reducible refine Put57_nil.mono ?_); rintro x w5 ⟨rfl, rfl⟩)
        | (go_at_call 59; (with_reducible refine Epochs59_nil.mono ?_); rintro x w5 ⟨rfl, rfl⟩)
        | (go_at_call 63; (with_reducible refine Master63_nil.mono ?_); rintro x w5 ⟨rfl, rfl⟩)
        | (go_at_call 61; (with_reducible refine Last61_nil.mono ?_); rintro x w5 ⟨rfl, rfl⟩)
        | (go_at_call 51; (with_reducible refine (awake51_c ht3).mono ?_); rintro x w4 ⟨rfl, hb4⟩; have f1 : w4.cell? ⟨w.heap.size, 1, none⟩ = some (.int .i64 e) := Blk.cell (Blk.below (Blk.below HXD.out hb3) hb4) 1; have f2 : w4.cell? ⟨w.heap.size, 2, none⟩ = some (.slice A n c) := Blk.cell (Blk.below (Blk.below HXD.out hb3) hb4) 2))
    go_wp2_with fail
    go_ret
    exact ⟨rfl, below_next (below_next hBd hb3) hb4⟩
end Go.Proofs.YtmmbonlidcbkcaaDoor.WalkLabelNobody
