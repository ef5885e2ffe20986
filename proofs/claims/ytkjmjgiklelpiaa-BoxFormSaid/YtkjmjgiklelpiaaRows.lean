/-
  No cell of these rows narrows 'for every input' (looked for: loops, veiled, ifaces, maps, wideKeys, modest, calm, conditions, laid).
  DERIVED. THE GIVEN ROWS OF THIS SEAT. 13 by the template 'for every input the law returns true; each argument reads behind the call as it read before'; 0 by the template 'total and deterministic' (their statements: YtkjmjgiklelpiaaTotals.lean).
  GIVEN WITH THE SEED: the statements are not yours to turn. If you find one false, say at which input.
  Laid BY PROGRAM, IN A SANDBOX (cutbox-rows.mjs): the forced cells as the released guide's own fill.sh prints them over the translation 8c4d3367af26a62b… (all of the seat's roots in one cut). By AI agents, Wed Nov 11 2026. No macro, syntax, notation, axiom, sorry.
-/
import Derived.Test.YtkjmjgiklelpiaaChecked
import GoSem.Claim
import GoSem.ClaimJoined
import GoSem.ClaimMapViews
import Derived.JoinedTies
import Derived.KernelRfl
namespace Go.Proofs.Ytkjmjgiklelpiaa
/- THE CELL 'sum', in the pinned program and in every row, IS THE sha256 OF THE DUMP (.gsa) THAT YtkjmjgiklelpiaaProg.lean LOADS. Nothing in Lean hashes anything: it is a label: what it is worth is what the hold of that sum in a sandbox is worth. -/
noncomputable def Try.pinned : Pinned := { name := "ytkjmjgiklelpiaa", sum := "8c4d3367af26a62bc7d1e4b29be23dae554d5877c697c90931cd76ebe1812b65", checked := Try.checked }
namespace Rows
def none {H : Type} : Left H := { results := [], args := [] }

/-- 'hypogeumlaw05.CipherBlocks': WHATEVER THE INPUT: true; the input reads as it did. -/
def cipherBlocksSpec : ChangeSpec := { name := "cipherBlocks", fn := fun _ => fun
  | [d1, d2, d3] => { results := [.lit (.bool true)], args := [d1, d2, d3] }
  | _ => none }
def cipherBlocksRow : OpenClaim := { program := "ytkjmjgiklelpiaa", sum := "8c4d3367af26a62bc7d1e4b29be23dae554d5877c697c90931cd76ebe1812b65", func := "hypogeum/hypogeumlaw05.CipherBlocks", spec := "cipherBlocks", apart := false }
def CipherBlocksSaid : Prop := cipherBlocksRow.holds Try.pinned (OpenSpec.ofChange cipherBlocksSpec)

/-- ITS FALSE NEIGHBOUR: 'it returns false'. Refute it at one input. -/
def cipherBlocksWrong : ChangeSpec := { name := "cipherBlocks", fn := fun _ => fun
  | [d1, d2, d3] => { results := [.lit (.bool false)], args := [d1, d2, d3] }
  | _ => none }
def CipherBlocksWrongFalsely : Prop := cipherBlocksRow.holds Try.pinned (OpenSpec.ofChange cipherBlocksWrong)

/-- 'hypogeumlaw05.CipherGives': WHATEVER THE INPUT: true; the input reads as it did. -/
def cipherGivesSpec : ChangeSpec := { name := "cipherGives", fn := fun _ => fun
  | [d1, d2, d3, d4] => { results := [.lit (.bool true)], args := [d1, d2, d3, d4] }
  | _ => none }
def cipherGivesRow : OpenClaim := { program := "ytkjmjgiklelpiaa", sum := "8c4d3367af26a62bc7d1e4b29be23dae554d5877c697c90931cd76ebe1812b65", func := "hypogeum/hypogeumlaw05.CipherGives", spec := "cipherGives", unfollowed := true, recurses := true, apart := false }
def CipherGivesSaid : Prop := cipherGivesRow.holds Try.pinned (OpenSpec.ofChange cipherGivesSpec)

/-- ITS FALSE NEIGHBOUR: 'it returns false'. Refute it at one input. -/
def cipherGivesWrong : ChangeSpec := { name := "cipherGives", fn := fun _ => fun
  | [d1, d2, d3, d4] => { results := [.lit (.bool false)], args := [d1, d2, d3, d4] }
  | _ => none }
def CipherGivesWrongFalsely : Prop := cipherGivesRow.holds Try.pinned (OpenSpec.ofChange cipherGivesWrong)

/-- 'hypogeumlaw05.CipherMixes': WHATEVER THE INPUT: true; the input reads as it did. -/
def cipherMixesSpec : ChangeSpec := { name := "cipherMixes", fn := fun _ => fun
  | [d] => { results := [.lit (.bool true)], args := [d] }
  | _ => none }
def cipherMixesRow : OpenClaim := { program := "ytkjmjgiklelpiaa", sum := "8c4d3367af26a62bc7d1e4b29be23dae554d5877c697c90931cd76ebe1812b65", func := "hypogeum/hypogeumlaw05.CipherMixes", spec := "cipherMixes", unfollowed := true, recurses := true, apart := false }
def CipherMixesSaid : Prop := cipherMixesRow.holds Try.pinned (OpenSpec.ofChange cipherMixesSpec)

/-- ITS FALSE NEIGHBOUR: 'it returns false'. Refute it at one input. -/
def cipherMixesWrong : ChangeSpec := { name := "cipherMixes", fn := fun _ => fun
  | [d] => { results := [.lit (.bool false)], args := [d] }
  | _ => none }
def CipherMixesWrongFalsely : Prop := cipherMixesRow.holds Try.pinned (OpenSpec.ofChange cipherMixesWrong)

/-- 'hypogeumlaw05.CipherTwice': WHATEVER THE INPUT: true; the input reads as it did. -/
def cipherTwiceSpec : ChangeSpec := { name := "cipherTwice", fn := fun _ => fun
  | [d] => { results := [.lit (.bool true)], args := [d] }
  | _ => none }
def cipherTwiceRow : OpenClaim := { program := "ytkjmjgiklelpiaa", sum := "8c4d3367af26a62bc7d1e4b29be23dae554d5877c697c90931cd76ebe1812b65", func := "hypogeum/hypogeumlaw05.CipherTwice", spec := "cipherTwice", unfollowed := true, recurses := true, apart := false }
def CipherTwiceSaid : Prop := cipherTwiceRow.holds Try.pinned (OpenSpec.ofChange cipherTwiceSpec)

/-- ITS FALSE NEIGHBOUR: 'it returns false'. Refute it at one input. -/
def cipherTwiceWrong : ChangeSpec := { name := "cipherTwice", fn := fun _ => fun
  | [d] => { results := [.lit (.bool false)], args := [d] }
  | _ => none }
def CipherTwiceWrongFalsely : Prop := cipherTwiceRow.holds Try.pinned (OpenSpec.ofChange cipherTwiceWrong)

/-- 'hypogeumlaw05.CipherParts': WHATEVER THE INPUT: true; the input reads as it did. -/
def cipherPartsSpec : ChangeSpec := { name := "cipherParts", fn := fun _ => fun
  | [d1, d2, d3] => { results := [.lit (.bool true)], args := [d1, d2, d3] }
  | _ => none }
def cipherPartsRow : OpenClaim := { program := "ytkjmjgiklelpiaa", sum := "8c4d3367af26a62bc7d1e4b29be23dae554d5877c697c90931cd76ebe1812b65", func := "hypogeum/hypogeumlaw05.CipherParts", spec := "cipherParts", unfollowed := true, recurses := true, apart := false }
def CipherPartsSaid : Prop := cipherPartsRow.holds Try.pinned (OpenSpec.ofChange cipherPartsSpec)

/-- ITS FALSE NEIGHBOUR: 'it returns false'. Refute it at one input. -/
def cipherPartsWrong : ChangeSpec := { name := "cipherParts", fn := fun _ => fun
  | [d1, d2, d3] => { results := [.lit (.bool false)], args := [d1, d2, d3] }
  | _ => none }
def CipherPartsWrongFalsely : Prop := cipherPartsRow.holds Try.pinned (OpenSpec.ofChange cipherPartsWrong)

/-- 'hypogeumlaw06.OnetimeTags': WHATEVER THE INPUT: true; the input reads as it did. -/
def onetimeTagsSpec : ChangeSpec := { name := "onetimeTags", fn := fun _ => fun
  | [d1, d2] => { results := [.lit (.bool true)], args := [d1, d2] }
  | _ => none }
def onetimeTagsRow : OpenClaim := { program := "ytkjmjgiklelpiaa", sum := "8c4d3367af26a62bc7d1e4b29be23dae554d5877c697c90931cd76ebe1812b65", func := "hypogeum/hypogeumlaw06.OnetimeTags", spec := "onetimeTags", apart := false }
def OnetimeTagsSaid : Prop := onetimeTagsRow.holds Try.pinned (OpenSpec.ofChange onetimeTagsSpec)

/-- ITS FALSE NEIGHBOUR: 'it returns false'. Refute it at one input. -/
def onetimeTagsWrong : ChangeSpec := { name := "onetimeTags", fn := fun _ => fun
  | [d1, d2] => { results := [.lit (.bool false)], args := [d1, d2] }
  | _ => none }
def OnetimeTagsWrongFalsely : Prop := onetimeTagsRow.holds Try.pinned (OpenSpec.ofChange onetimeTagsWrong)

/-- 'hypogeumlaw06.OnetimeAdds': WHATEVER THE INPUT: true; the input reads as it did. -/
def onetimeAddsSpec : ChangeSpec := { name := "onetimeAdds", fn := fun _ => fun
  | [d1, d2] => { results := [.lit (.bool true)], args := [d1, d2] }
  | _ => none }
def onetimeAddsRow : OpenClaim := { program := "ytkjmjgiklelpiaa", sum := "8c4d3367af26a62bc7d1e4b29be23dae554d5877c697c90931cd76ebe1812b65", func := "hypogeum/hypogeumlaw06.OnetimeAdds", spec := "onetimeAdds", apart := false }
def OnetimeAddsSaid : Prop := onetimeAddsRow.holds Try.pinned (OpenSpec.ofChange onetimeAddsSpec)

/-- ITS FALSE NEIGHBOUR: 'it returns false'. Refute it at one input. -/
def onetimeAddsWrong : ChangeSpec := { name := "onetimeAdds", fn := fun _ => fun
  | [d1, d2] => { results := [.lit (.bool false)], args := [d1, d2] }
  | _ => none }
def OnetimeAddsWrongFalsely : Prop := onetimeAddsRow.holds Try.pinned (OpenSpec.ofChange onetimeAddsWrong)

/-- 'hypogeumlaw06.OnetimeBits': WHATEVER THE INPUT: true; the input reads as it did. -/
def onetimeBitsSpec : ChangeSpec := { name := "onetimeBits", fn := fun _ => fun
  | [d1, d2, d3] => { results := [.lit (.bool true)], args := [d1, d2, d3] }
  | _ => none }
def onetimeBitsRow : OpenClaim := { program := "ytkjmjgiklelpiaa", sum := "8c4d3367af26a62bc7d1e4b29be23dae554d5877c697c90931cd76ebe1812b65", func := "hypogeum/hypogeumlaw06.OnetimeBits", spec := "onetimeBits", apart := false }
def OnetimeBitsSaid : Prop := onetimeBitsRow.holds Try.pinned (OpenSpec.ofChange onetimeBitsSpec)

/-- ITS FALSE NEIGHBOUR: 'it returns false'. Refute it at one input. -/
def onetimeBitsWrong : ChangeSpec := { name := "onetimeBits", fn := fun _ => fun
  | [d1, d2, d3] => { results := [.lit (.bool false)], args := [d1, d2, d3] }
  | _ => none }
def OnetimeBitsWrongFalsely : Prop := onetimeBitsRow.holds Try.pinned (OpenSpec.ofChange onetimeBitsWrong)

/-- 'hypogeumlaw06.OnetimeNobody': WHATEVER THE INPUT: true; the input reads as it did. -/
def onetimeNobodySpec : ChangeSpec := { name := "onetimeNobody", fn := fun _ => fun
  | [d] => { results := [.lit (.bool true)], args := [d] }
  | _ => none }
def onetimeNobodyRow : OpenClaim := { program := "ytkjmjgiklelpiaa", sum := "8c4d3367af26a62bc7d1e4b29be23dae554d5877c697c90931cd76ebe1812b65", func := "hypogeum/hypogeumlaw06.OnetimeNobody", spec := "onetimeNobody", apart := false }
def OnetimeNobodySaid : Prop := onetimeNobodyRow.holds Try.pinned (OpenSpec.ofChange onetimeNobodySpec)

/-- ITS FALSE NEIGHBOUR: 'it returns false'. Refute it at one input. -/
def onetimeNobodyWrong : ChangeSpec := { name := "onetimeNobody", fn := fun _ => fun
  | [d] => { results := [.lit (.bool false)], args := [d] }
  | _ => none }
def OnetimeNobodyWrongFalsely : Prop := onetimeNobodyRow.holds Try.pinned (OpenSpec.ofChange onetimeNobodyWrong)

/-- 'hypogeumlaw07.BoxSeals': WHATEVER THE INPUT: true; the input reads as it did. -/
def boxSealsSpec : ChangeSpec := { name := "boxSeals", fn := fun _ => fun
  | [d] => { results := [.lit (.bool true)], args := [d] }
  | _ => none }
def boxSealsRow : OpenClaim := { program := "ytkjmjgiklelpiaa", sum := "8c4d3367af26a62bc7d1e4b29be23dae554d5877c697c90931cd76ebe1812b65", func := "hypogeum/hypogeumlaw07.BoxSeals", spec := "boxSeals", unfollowed := true, recurses := true, apart := false }
def BoxSealsSaid : Prop := boxSealsRow.holds Try.pinned (OpenSpec.ofChange boxSealsSpec)

/-- ITS FALSE NEIGHBOUR: 'it returns false'. Refute it at one input. -/
def boxSealsWrong : ChangeSpec := { name := "boxSeals", fn := fun _ => fun
  | [d] => { results := [.lit (.bool false)], args := [d] }
  | _ => none }
def BoxSealsWrongFalsely : Prop := boxSealsRow.holds Try.pinned (OpenSpec.ofChange boxSealsWrong)

/-- 'hypogeumlaw07.BoxOpens': WHATEVER THE INPUT: true; the input reads as it did. -/
def boxOpensSpec : ChangeSpec := { name := "boxOpens", fn := fun _ => fun
  | [d] => { results := [.lit (.bool true)], args := [d] }
  | _ => none }
def boxOpensRow : OpenClaim := { program := "ytkjmjgiklelpiaa", sum := "8c4d3367af26a62bc7d1e4b29be23dae554d5877c697c90931cd76ebe1812b65", func := "hypogeum/hypogeumlaw07.BoxOpens", spec := "boxOpens", unfollowed := true, recurses := true, apart := false }
def BoxOpensSaid : Prop := boxOpensRow.holds Try.pinned (OpenSpec.ofChange boxOpensSpec)

/-- ITS FALSE NEIGHBOUR: 'it returns false'. Refute it at one input. -/
def boxOpensWrong : ChangeSpec := { name := "boxOpens", fn := fun _ => fun
  | [d] => { results := [.lit (.bool false)], args := [d] }
  | _ => none }
def BoxOpensWrongFalsely : Prop := boxOpensRow.holds Try.pinned (OpenSpec.ofChange boxOpensWrong)

/-- 'hypogeumlaw07.BoxBack': WHATEVER THE INPUT: true; the input reads as it did. -/
def boxBackSpec : ChangeSpec := { name := "boxBack", fn := fun _ => fun
  | [d1, d2] => { results := [.lit (.bool true)], args := [d1, d2] }
  | _ => none }
def boxBackRow : OpenClaim := { program := "ytkjmjgiklelpiaa", sum := "8c4d3367af26a62bc7d1e4b29be23dae554d5877c697c90931cd76ebe1812b65", func := "hypogeum/hypogeumlaw07.BoxBack", spec := "boxBack", unfollowed := true, recurses := true, apart := false }
def BoxBackSaid : Prop := boxBackRow.holds Try.pinned (OpenSpec.ofChange boxBackSpec)

/-- ITS FALSE NEIGHBOUR: 'it returns false'. Refute it at one input. -/
def boxBackWrong : ChangeSpec := { name := "boxBack", fn := fun _ => fun
  | [d1, d2] => { results := [.lit (.bool false)], args := [d1, d2] }
  | _ => none }
def BoxBackWrongFalsely : Prop := boxBackRow.holds Try.pinned (OpenSpec.ofChange boxBackWrong)

/-- 'hypogeumlaw07.BoxForm': WHATEVER THE INPUT: true; the input reads as it did. -/
def boxFormSpec : ChangeSpec := { name := "boxForm", fn := fun _ => fun
  | [d] => { results := [.lit (.bool true)], args := [d] }
  | _ => none }
def boxFormRow : OpenClaim := { program := "ytkjmjgiklelpiaa", sum := "8c4d3367af26a62bc7d1e4b29be23dae554d5877c697c90931cd76ebe1812b65", func := "hypogeum/hypogeumlaw07.BoxForm", spec := "boxForm", unfollowed := true, recurses := true, apart := false }
def BoxFormSaid : Prop := boxFormRow.holds Try.pinned (OpenSpec.ofChange boxFormSpec)

/-- ITS FALSE NEIGHBOUR: 'it returns false'. Refute it at one input. -/
def boxFormWrong : ChangeSpec := { name := "boxForm", fn := fun _ => fun
  | [d] => { results := [.lit (.bool false)], args := [d] }
  | _ => none }
def BoxFormWrongFalsely : Prop := boxFormRow.holds Try.pinned (OpenSpec.ofChange boxFormWrong)

/- THE SECOND FORM. 'bulk': how many values and letters a reading holds, each counted each time it is reached (what is shared counts as often as it is met; a slice's spare places count too). A statement '..UptoSaid' is the law's where the arguments, and the package variables that the reading takes, are together of bulk at most 1048576: NARROWER than '..Said'. Prove '..Said' where nothing that the law and all that it calls make is longer than what came in: it says more and counts as full. Else prove '..UptoSaid'. A law counts once. -/
mutual
def uptoBulk {H : Type} : DataW H → Nat
  | .lit (.string bytes) => bytes.length + 1
  | .lit _ => 1
  | .nil => 1
  | .ptr d => uptoBulk d + 1
  | .slice elems spare => uptoBulkAll elems + uptoBulkAll spare + 1
  | .agg parts => uptoBulkAll parts + 1
  | .iface _ d => uptoBulk d + 1
  | .map entries => uptoBulkEntries entries + 1
  | .held _ => 1
def uptoBulkAll {H : Type} : List (DataW H) → Nat
  | [] => 0
  | d :: r => uptoBulk d + uptoBulkAll r
def uptoBulkEntries {H : Type} : List (Lit × DataW H) → Nat
  | [] => 0
  | x :: r => uptoBulkEntry x + uptoBulkEntries r
def uptoBulkEntry {H : Type} : Lit × DataW H → Nat
  | (.string bytes, d) => bytes.length + uptoBulk d + 1
  | (_, d) => uptoBulk d + 1
 end
def uptoSmall : (H : Type) → List (DataW H) → Bool := fun _ ds => decide (uptoBulkAll ds ≤ 1048576)
def OpenSpec.upto (s : _root_.Go.ChangeSpec) : _root_.Go.OpenSpec := { _root_.Go.OpenSpec.ofChange s with cond := some uptoSmall }

/-- 'hypogeumlaw05.CipherBlocks', WHERE WHAT IT READS IS OF BULK AT MOST 1048576: true; the input reads as it did. -/
def cipherBlocksUptoRow : OpenClaim := { program := "ytkjmjgiklelpiaa", sum := "8c4d3367af26a62bc7d1e4b29be23dae554d5877c697c90931cd76ebe1812b65", func := "hypogeum/hypogeumlaw05.CipherBlocks", spec := "cipherBlocks", apart := false, narrowed := true }
def CipherBlocksUptoSaid : Prop := cipherBlocksUptoRow.holds Try.pinned (OpenSpec.upto cipherBlocksSpec)

/-- 'hypogeumlaw05.CipherGives', WHERE WHAT IT READS IS OF BULK AT MOST 1048576: true; the input reads as it did. -/
def cipherGivesUptoRow : OpenClaim := { program := "ytkjmjgiklelpiaa", sum := "8c4d3367af26a62bc7d1e4b29be23dae554d5877c697c90931cd76ebe1812b65", func := "hypogeum/hypogeumlaw05.CipherGives", spec := "cipherGives", unfollowed := true, recurses := true, apart := false, narrowed := true }
def CipherGivesUptoSaid : Prop := cipherGivesUptoRow.holds Try.pinned (OpenSpec.upto cipherGivesSpec)

/-- 'hypogeumlaw05.CipherMixes', WHERE WHAT IT READS IS OF BULK AT MOST 1048576: true; the input reads as it did. -/
def cipherMixesUptoRow : OpenClaim := { program := "ytkjmjgiklelpiaa", sum := "8c4d3367af26a62bc7d1e4b29be23dae554d5877c697c90931cd76ebe1812b65", func := "hypogeum/hypogeumlaw05.CipherMixes", spec := "cipherMixes", unfollowed := true, recurses := true, apart := false, narrowed := true }
def CipherMixesUptoSaid : Prop := cipherMixesUptoRow.holds Try.pinned (OpenSpec.upto cipherMixesSpec)

/-- 'hypogeumlaw05.CipherTwice', WHERE WHAT IT READS IS OF BULK AT MOST 1048576: true; the input reads as it did. -/
def cipherTwiceUptoRow : OpenClaim := { program := "ytkjmjgiklelpiaa", sum := "8c4d3367af26a62bc7d1e4b29be23dae554d5877c697c90931cd76ebe1812b65", func := "hypogeum/hypogeumlaw05.CipherTwice", spec := "cipherTwice", unfollowed := true, recurses := true, apart := false, narrowed := true }
def CipherTwiceUptoSaid : Prop := cipherTwiceUptoRow.holds Try.pinned (OpenSpec.upto cipherTwiceSpec)

/-- 'hypogeumlaw05.CipherParts', WHERE WHAT IT READS IS OF BULK AT MOST 1048576: true; the input reads as it did. -/
def cipherPartsUptoRow : OpenClaim := { program := "ytkjmjgiklelpiaa", sum := "8c4d3367af26a62bc7d1e4b29be23dae554d5877c697c90931cd76ebe1812b65", func := "hypogeum/hypogeumlaw05.CipherParts", spec := "cipherParts", unfollowed := true, recurses := true, apart := false, narrowed := true }
def CipherPartsUptoSaid : Prop := cipherPartsUptoRow.holds Try.pinned (OpenSpec.upto cipherPartsSpec)

/-- 'hypogeumlaw06.OnetimeTags', WHERE WHAT IT READS IS OF BULK AT MOST 1048576: true; the input reads as it did. -/
def onetimeTagsUptoRow : OpenClaim := { program := "ytkjmjgiklelpiaa", sum := "8c4d3367af26a62bc7d1e4b29be23dae554d5877c697c90931cd76ebe1812b65", func := "hypogeum/hypogeumlaw06.OnetimeTags", spec := "onetimeTags", apart := false, narrowed := true }
def OnetimeTagsUptoSaid : Prop := onetimeTagsUptoRow.holds Try.pinned (OpenSpec.upto onetimeTagsSpec)

/-- 'hypogeumlaw06.OnetimeAdds', WHERE WHAT IT READS IS OF BULK AT MOST 1048576: true; the input reads as it did. -/
def onetimeAddsUptoRow : OpenClaim := { program := "ytkjmjgiklelpiaa", sum := "8c4d3367af26a62bc7d1e4b29be23dae554d5877c697c90931cd76ebe1812b65", func := "hypogeum/hypogeumlaw06.OnetimeAdds", spec := "onetimeAdds", apart := false, narrowed := true }
def OnetimeAddsUptoSaid : Prop := onetimeAddsUptoRow.holds Try.pinned (OpenSpec.upto onetimeAddsSpec)

/-- 'hypogeumlaw06.OnetimeBits', WHERE WHAT IT READS IS OF BULK AT MOST 1048576: true; the input reads as it did. -/
def onetimeBitsUptoRow : OpenClaim := { program := "ytkjmjgiklelpiaa", sum := "8c4d3367af26a62bc7d1e4b29be23dae554d5877c697c90931cd76ebe1812b65", func := "hypogeum/hypogeumlaw06.OnetimeBits", spec := "onetimeBits", apart := false, narrowed := true }
def OnetimeBitsUptoSaid : Prop := onetimeBitsUptoRow.holds Try.pinned (OpenSpec.upto onetimeBitsSpec)

/-- 'hypogeumlaw06.OnetimeNobody', WHERE WHAT IT READS IS OF BULK AT MOST 1048576: true; the input reads as it did. -/
def onetimeNobodyUptoRow : OpenClaim := { program := "ytkjmjgiklelpiaa", sum := "8c4d3367af26a62bc7d1e4b29be23dae554d5877c697c90931cd76ebe1812b65", func := "hypogeum/hypogeumlaw06.OnetimeNobody", spec := "onetimeNobody", apart := false, narrowed := true }
def OnetimeNobodyUptoSaid : Prop := onetimeNobodyUptoRow.holds Try.pinned (OpenSpec.upto onetimeNobodySpec)

/-- 'hypogeumlaw07.BoxSeals', WHERE WHAT IT READS IS OF BULK AT MOST 1048576: true; the input reads as it did. -/
def boxSealsUptoRow : OpenClaim := { program := "ytkjmjgiklelpiaa", sum := "8c4d3367af26a62bc7d1e4b29be23dae554d5877c697c90931cd76ebe1812b65", func := "hypogeum/hypogeumlaw07.BoxSeals", spec := "boxSeals", unfollowed := true, recurses := true, apart := false, narrowed := true }
def BoxSealsUptoSaid : Prop := boxSealsUptoRow.holds Try.pinned (OpenSpec.upto boxSealsSpec)

/-- 'hypogeumlaw07.BoxOpens', WHERE WHAT IT READS IS OF BULK AT MOST 1048576: true; the input reads as it did. -/
def boxOpensUptoRow : OpenClaim := { program := "ytkjmjgiklelpiaa", sum := "8c4d3367af26a62bc7d1e4b29be23dae554d5877c697c90931cd76ebe1812b65", func := "hypogeum/hypogeumlaw07.BoxOpens", spec := "boxOpens", unfollowed := true, recurses := true, apart := false, narrowed := true }
def BoxOpensUptoSaid : Prop := boxOpensUptoRow.holds Try.pinned (OpenSpec.upto boxOpensSpec)

/-- 'hypogeumlaw07.BoxBack', WHERE WHAT IT READS IS OF BULK AT MOST 1048576: true; the input reads as it did. -/
def boxBackUptoRow : OpenClaim := { program := "ytkjmjgiklelpiaa", sum := "8c4d3367af26a62bc7d1e4b29be23dae554d5877c697c90931cd76ebe1812b65", func := "hypogeum/hypogeumlaw07.BoxBack", spec := "boxBack", unfollowed := true, recurses := true, apart := false, narrowed := true }
def BoxBackUptoSaid : Prop := boxBackUptoRow.holds Try.pinned (OpenSpec.upto boxBackSpec)

/-- 'hypogeumlaw07.BoxForm', WHERE WHAT IT READS IS OF BULK AT MOST 1048576: true; the input reads as it did. -/
def boxFormUptoRow : OpenClaim := { program := "ytkjmjgiklelpiaa", sum := "8c4d3367af26a62bc7d1e4b29be23dae554d5877c697c90931cd76ebe1812b65", func := "hypogeum/hypogeumlaw07.BoxForm", spec := "boxForm", unfollowed := true, recurses := true, apart := false, narrowed := true }
def BoxFormUptoSaid : Prop := boxFormUptoRow.holds Try.pinned (OpenSpec.upto boxFormSpec)

end Rows
end Go.Proofs.Ytkjmjgiklelpiaa
