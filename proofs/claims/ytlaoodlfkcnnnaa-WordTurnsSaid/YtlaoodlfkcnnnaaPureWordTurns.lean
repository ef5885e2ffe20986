/- A word turned by any number of places is the document's: the program's two shifts are as many single turns. Conditions: none but that the numbers are of their kinds. -/
import Derived.Test.YtlaoodlfkcnnnaaPWordTurnsx1
import Derived.Test.YtlaoodlfkcnnnaaPlainWordTurns
namespace Go.Proofs.Ytlaoodlfkcnnnaa.Pure
open Go.RowKit Go.Proofs.Ytlaoodlfkcnnnaa.PWordTurns Go.Proofs.YtlaoodlfkcnnnaaW.PrintWords Go.Proofs.YtlaoodlfkcnnnaaW.PrintLast Go.Proofs.Ytlaoodlfkcnnnaa.Num Go.Proofs.Ytlaoodlfkcnnnaa.PlainWordTurns

theorem WordTurns : hypogeumlaw01_WordTurns.Pure := by
  intro a n ha hn
  have ha' := wf_u32 ha
  have hn' := wf_i64 hn
  refine ⟨40, ?_⟩
  unfold hypogeumlaw01_WordTurns.f
  rw [Turn_eq a n ha'.1 ha'.2, refTurn_eq a n ha'.1 ha'.2 hn' 40 (by omega), awake_eq 40 (by omega)]
  simp

end Go.Proofs.Ytlaoodlfkcnnnaa.Pure
