/- Which of two words is chosen is what the document says: the program's mask is all ones just if the bit is not nought. Conditions: none but that the numbers are of their kinds. -/
import Derived.Test.YtlaoodlfkcnnnaaPWordChoosesx1
import Derived.Test.YtlaoodlfkcnnnaaPlainWordChooses
namespace Go.Proofs.Ytlaoodlfkcnnnaa.Pure
open Go.RowKit Go.Proofs.Ytlaoodlfkcnnnaa.PWordChooses Go.Proofs.YtlaoodlfkcnnnaaW.PrintWords Go.Proofs.YtlaoodlfkcnnnaaW.PrintLast Go.Proofs.Ytlaoodlfkcnnnaa.Num Go.Proofs.Ytlaoodlfkcnnnaa.PlainWordChooses

theorem WordChooses : hypogeumlaw01_WordChooses.Pure := by
  intro b x y hb hx hy
  have hb' := wf_u32 hb
  have hx' := wf_u32 hx
  have hy' := wf_u32 hy
  refine ⟨9, ?_⟩
  unfold hypogeumlaw01_WordChooses.f
  rw [Choose_eq b x y hb'.1 hb'.2 hx'.1 hx'.2 hy'.1 hy'.2, refChoose_eq, awake_eq 9 (by omega)]
  simp

end Go.Proofs.Ytlaoodlfkcnnnaa.Pure
