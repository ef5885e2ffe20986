/- label: what the document fixes. -/
import Derived.Test.YtmmbonlidcbkcaaDoorMacA
import Derived.Deep.RegionHeld3
import Derived.Deep.MidRow
import Derived.Deep.Cut
import Derived.Test.YtmmbonlidcbkcaaDoorLbR
namespace Go.Proofs.YtmmbonlidcbkcaaDoor.LbA
open Go.RowKit Go.Proofs.YtmmbonlidcbkcaaDoorW.PrintWords Go.Proofs.YtmmbonlidcbkcaaDoor.Num Go.Proofs.YtmmbonlidcbkcaaDoor.Sha Go.Proofs.YtmmbonlidcbkcaaDoor.Hmac Go.Proofs.YtmmbonlidcbkcaaDoor.WordC Go.Proofs.YtmmbonlidcbkcaaDoor.Arr Go.Proofs.YtmmbonlidcbkcaaDoor.App Go.Proofs.YtmmbonlidcbkcaaDoor.DgC Go.Proofs.YtmmbonlidcbkcaaDoor.DgBlock Go.Proofs.YtmmbonlidcbkcaaDoor.DgState Go.Proofs.YtmmbonlidcbkcaaDoor.DgAdd Go.Proofs.YtmmbonlidcbkcaaDoor.DgSum Go.Proofs.YtmmbonlidcbkcaaDoor.DgOf Go.Proofs.YtmmbonlidcbkcaaDoor.DgCopy Go.Proofs.YtmmbonlidcbkcaaDoor.DgLaw Go.Proofs.YtmmbonlidcbkcaaDoor.DgWords Go.Proofs.YtmmbonlidcbkcaaDoor.DgParts Go.Proofs.YtmmbonlidcbkcaaDoor.RefOf Go.Proofs.YtmmbonlidcbkcaaDoor.MacC Go.Proofs.YtmmbonlidcbkcaaDoor.MacTag Go.Proofs.YtmmbonlidcbkcaaDoor.MacLaw Go.Proofs.YtmmbonlidcbkcaaDoor.MacAwake Go.Proofs.YtmmbonlidcbkcaaDoor.MacHold Go.Proofs.YtmmbonlidcbkcaaDoor.MacNew Go.Proofs.YtmmbonlidcbkcaaDoor.MacRef Go.Proofs.YtmmbonlidcbkcaaDoor.MacNil Go.Proofs.YtmmbonlidcbkcaaDoor.MacMany Go.Proofs.YtmmbonlidcbkcaaDoor.LbC Go.Proofs.YtmmbonlidcbkcaaDoor.LbR
set_option linter.unusedVariables false
set_option linter.unusedSimpArgs false

theorem right_seal : rightL ⟨#[115, 101, 97, 108]⟩ 1 = true := by kernel_rfl
def zero32 : List Int := List.replicate 32 0
theorem zero32_isB : IsB zero32 := fun x hx => by rw [List.eq_of_mem_replicate hx]; omega
theorem last_two : lastS [⟨2, zero32⟩] = 2 := by kernel_rfl
theorem find_two : findM [⟨2, zero32⟩] 1 = none := by kernel_rfl
theorem rd_zero (W : World) : Rd (W.alloc (.cells (nums .u8 zero32).toArray 5)) (some ⟨W.heap.size, 0, none⟩) 32 32 zero32 := rd_const W zero32 (0, 0) (by simp [zero32])
theorem make32 (w : World) : (Instr.makeSlice 22 (.int .i64 32) (.int .i64 32)).run Tryd.prog w = .ok (.slice (some ⟨w.heap.size, 0, none⟩) 32 32) (w.alloc (.cells (nums .u8 zero32).toArray 5)) := by kernel_rfl
set_option maxHeartbeats 4000000 in
set_option maxRecDepth 100000 in
theorem awake51_c {w : World} (ht : Tb w) : Calls Tryd.prog 51 #[] w fun e w' => e = .returned (.bool true) ∧ Below w.heap.size w w' := by
  have hmk := fun w => make32 w
  go_enter Tryd.func51, Tryd.ntmps51
  go_wp2_with fail
  refine New54_c.mono ?_
  rintro x w1 ⟨rb, rfl, hR1, hb1⟩
  go_wp2_with fail
  have hba : Below w1.heap.size w1 (w1.alloc (.cells (nums .u8 zero32).toArray 5)) := (Below.refl _ w1).alloc (Nat.le_refl _) _
  refine (Key49_yes (rd_zero w1) zero32_isB right_seal (ht.below (below_next hb1 hba))).mono ?_
  rintro x w2 ⟨g2, rfl, hO2, hg2, hb2⟩
  have hB2 := below_next (below_next hb1 hba) hb2
  have hR2 := (hR1.move hba).move hb2
  obtain ⟨T, HT⟩ : ∃ T, Aside0 (tagS zero32 (textS ⟨#[115, 101, 97, 108]⟩ 1) = T) := ⟨_, ⟨rfl⟩⟩
  have hTl := tagS_length zero32 (textS ⟨#[115, 101, 97, 108]⟩ 1)
  rw [HT.out] at hO2 hTl
  have HTL := Aside0.mk hTl
  have HO2 := Aside0.mk hO2
  clear hO2 hTl
  go_wp2_with fail
  have hbc : Below w2.heap.size w2 (w2.alloc (.cells (nums .u8 zero32).toArray 5)) := (Below.refl _ w2).alloc (Nat.le_refl _) _
  have hBc := below_next hB2 hbc
  refine (Put57_new (hR2.move hbc) (by omega) (by omega) (findM_nil 2) (rd_zero w2) zero32_isB (by simp) hBc.size).mono ?_
  rintro x w3 ⟨rfl, hR3, hbe3, hcl3⟩
  have hB3 := hbe3 w w.heap.size hBc (Nat.le_refl _)
  have hO3 : Blk w3 g2 27 (nums .u8 T) := hcl3 _ _ _ _ (Blk.below HO2.out hbc)
  have hR3' := hR3.imp (ok' := fun _ => True) (fun _ _ _ => trivial)
  have hR3'' : Rg w3 w.heap.size (fun _ => True) rb [⟨2, zero32⟩] := hR3'
  clear hR3 hR3' hcl3 hbe3 hR2 hR1
  go_wp2_with fail
  refine (Put57_bad (.inr (.inr (by omega)))).mono ?_
  rintro x w4 ⟨rfl, rfl⟩
  go_wp2_with fail
  refine (Last61_c hR3'').mono ?_
  rintro x w5 ⟨rfl, hb5⟩
  rw [last_two]
  have hB5 := below_next hB3 hb5
  go_wp2_with fail
  refine (Key55_none (hR3''.move hb5) right_seal find_two).mono ?_
  rintro x w6 ⟨rfl, hb6⟩
  have hB6 := below_next hB5 hb6
  go_wp2_with fail
  have hbd : Below w6.heap.size w6 (w6.alloc (.cells (nums .u8 zero32).toArray 5)) := (Below.refl _ w6).alloc (Nat.le_refl _) _
  refine (refKey50_yes (rd_zero w6) zero32_isB right_seal).mono ?_
  rintro x w7 ⟨A7, c7, rfl, r7, hb7⟩
  rw [HT.out] at r7
  have hB7 := below_next (below_next hB6 hbd) hb7
  have r3 := rd_blk32 (Blk.below (Blk.below (Blk.below (Blk.below hO3 hb5) hb6) hbd) hb7) HTL.out
  have s1 := rd_string r3
  have s2 := rd_string r7
  have g1 : ((strOfNums T).toList == (strOfNums T).toList) = true := str_self _
  clear r3 r7 hO3 hR3''
  go_wp2_with fail
  go_ret
  exact ⟨rfl, hB7⟩
end Go.Proofs.YtmmbonlidcbkcaaDoor.LbA
