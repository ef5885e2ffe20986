/- What the rows' condition gives the walks: the table of the rounds' numbers, as it lies; and that the program's own start meets it. -/
import Derived.Test.YtmmbonlidcbkcaaDoorRows
import Derived.Test.YtmmbonlidcbkcaaDoorDgA
import Derived.LaidMore
import Derived.LaidHandle
import Derived.MakeChecks
import Derived.Lib.LaidTab
namespace Go.Proofs.YtmmbonlidcbkcaaDoor.Laid
open Go.RowKit Go.Proofs.YtmmbonlidcbkcaaDoorW.PrintWords Go.Proofs.YtmmbonlidcbkcaaDoor.Sha Go.Proofs.YtmmbonlidcbkcaaDoor.DgBlock
set_option maxRecDepth 100000
abbrev laid1 : List (String × DataW Unit) := [("hypogeum/digest.rounds", Rows.laid_hypogeum_digest_rounds)]
theorem door_met (os : Os) (args : Array Value) : laidMetH Tryd.prog laid1 ((World.doorLaid Tryd.prog 400 os).forCall (fun _ _ => 0) ⟨#[], args, []⟩).memory := by
  rw [MakeChecks.laidMetH_plain _ _ _ (by kernel_rfl)]
  exact laidMet_of_run' 8 (by kernel_rfl) (by kernel_rfl)
theorem tb_of_laid {W : World} (h : laidMetH Tryd.prog laid1 W) : Tb W := by
  rw [MakeChecks.laidMetH_plain _ _ _ (by kernel_rfl)] at h
  have hg : Tryd.prog.globalNamed "hypogeum/digest.rounds" = some 0 := by kernel_rfl
  have hT : Lib.TabIs Tryd.prog W "hypogeum/digest.rounds" .u32 keysS :=
    Lib.tabIs_of_head (t := 110) (e := 88) (n := 64) hg (by kernel_rfl) Tryd.underlying110 Tryd.underlying88 (by kernel_rfl) (by kernel_rfl) h
  unfold Lib.TabIs World.var? at hT
  rw [hg] at hT
  simp only [Option.bind_some] at hT
  split at hT
  · rename_i cs t fr hc
    injection hT with hT
    subst hT
    exact ⟨t, fr, hc⟩
  · cases hT
end Go.Proofs.YtmmbonlidcbkcaaDoor.Laid
