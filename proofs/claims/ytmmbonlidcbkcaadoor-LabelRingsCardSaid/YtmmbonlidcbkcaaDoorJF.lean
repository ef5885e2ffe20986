/- Closed facts on the program that every row of this seat asks for, each checked once. -/
import Derived.Test.YtmmbonlidcbkcaaDoorRows
import Derived.JoinedOf
import Derived.KernelRfl
namespace Go.Proofs.YtmmbonlidcbkcaaDoor.JF
theorem mayEnter : Tryd.pinned.checked.prog.mayEnter = true := by kernel_rfl
theorem lifts : Tryd.pinned.checked.prog.liftsFinal = Rows.digestSumsRow.lifted := by kernel_rfl
theorem plainKeys : Tryd.pinned.checked.prog.plainKeys = Rows.digestSumsRow.plainKeys := by kernel_rfl
theorem stopsHeard : Tryd.pinned.checked.prog.stopsHeard = true := by kernel_rfl
end Go.Proofs.YtmmbonlidcbkcaaDoor.JF
