/-
  No cell of these rows narrows 'for every input' (looked for: loops, veiled, ifaces, maps, wideKeys, modest, calm, conditions, laid).
  DERIVED. THE GIVEN ROWS OF THIS SEAT. 12 by the template 'for every input the law returns true; each argument reads behind the call as it read before'; 0 by the template 'total and deterministic' (their statements: YtlaoodlfkcnnnaaTotals.lean).
  GIVEN WITH THE SEED: the statements are not yours to turn. If you find one false, say at which input.
  Laid BY PROGRAM, IN A SANDBOX (cutbox-rows.mjs): the forced cells as the released guide's own fill.sh prints them over the translation 1486ed6b3bd3beff… (all of the seat's roots in one cut). By AI agents, Wed Nov 11 2026. No macro, syntax, notation, axiom, sorry.
-/
import Derived.Test.YtlaoodlfkcnnnaaChecked
import GoSem.Claim
import GoSem.ClaimJoined
import GoSem.ClaimMapViews
import Derived.JoinedTies
import Derived.KernelRfl
namespace Go.Proofs.Ytlaoodlfkcnnnaa
/- THE CELL 'sum', in the pinned program and in every row, IS THE sha256 OF THE DUMP (.gsa) THAT YtlaoodlfkcnnnaaProg.lean LOADS. Nothing in Lean hashes anything: it is a label: what it is worth is what the hold of that sum in a sandbox is worth. -/
noncomputable def Try.pinned : Pinned := { name := "ytlaoodlfkcnnnaa", sum := "1486ed6b3bd3beffebdffe19537d7bdcc705b9243acf6c2134d01358829e9ed3", checked := Try.checked }
namespace Rows
def none {H : Type} : Left H := { results := [], args := [] }

/-- 'hypogeumlaw01.WordLoads': WHATEVER THE INPUT: true; the input reads as it did. -/
def wordLoadsSpec : ChangeSpec := { name := "wordLoads", fn := fun _ => fun
  | [d1, d2] => { results := [.lit (.bool true)], args := [d1, d2] }
  | _ => none }
def wordLoadsRow : OpenClaim := { program := "ytlaoodlfkcnnnaa", sum := "1486ed6b3bd3beffebdffe19537d7bdcc705b9243acf6c2134d01358829e9ed3", func := "hypogeum/hypogeumlaw01.WordLoads", spec := "wordLoads", apart := false }
def WordLoadsSaid : Prop := wordLoadsRow.holds Try.pinned (OpenSpec.ofChange wordLoadsSpec)

/-- ITS FALSE NEIGHBOUR: 'it returns false'. Refute it at one input. -/
def wordLoadsWrong : ChangeSpec := { name := "wordLoads", fn := fun _ => fun
  | [d1, d2] => { results := [.lit (.bool false)], args := [d1, d2] }
  | _ => none }
def WordLoadsWrongFalsely : Prop := wordLoadsRow.holds Try.pinned (OpenSpec.ofChange wordLoadsWrong)

/-- 'hypogeumlaw01.WordTurns': WHATEVER THE INPUT: true; the input reads as it did. -/
def wordTurnsSpec : ChangeSpec := { name := "wordTurns", fn := fun _ => fun
  | [d1, d2] => { results := [.lit (.bool true)], args := [d1, d2] }
  | _ => none }
def wordTurnsRow : OpenClaim := { program := "ytlaoodlfkcnnnaa", sum := "1486ed6b3bd3beffebdffe19537d7bdcc705b9243acf6c2134d01358829e9ed3", func := "hypogeum/hypogeumlaw01.WordTurns", spec := "wordTurns", apart := false }
def WordTurnsSaid : Prop := wordTurnsRow.holds Try.pinned (OpenSpec.ofChange wordTurnsSpec)

/-- ITS FALSE NEIGHBOUR: 'it returns false'. Refute it at one input. -/
def wordTurnsWrong : ChangeSpec := { name := "wordTurns", fn := fun _ => fun
  | [d1, d2] => { results := [.lit (.bool false)], args := [d1, d2] }
  | _ => none }
def WordTurnsWrongFalsely : Prop := wordTurnsRow.holds Try.pinned (OpenSpec.ofChange wordTurnsWrong)

/-- 'hypogeumlaw01.WordChooses': WHATEVER THE INPUT: true; the input reads as it did. -/
def wordChoosesSpec : ChangeSpec := { name := "wordChooses", fn := fun _ => fun
  | [d1, d2, d3] => { results := [.lit (.bool true)], args := [d1, d2, d3] }
  | _ => none }
def wordChoosesRow : OpenClaim := { program := "ytlaoodlfkcnnnaa", sum := "1486ed6b3bd3beffebdffe19537d7bdcc705b9243acf6c2134d01358829e9ed3", func := "hypogeum/hypogeumlaw01.WordChooses", spec := "wordChooses", apart := false }
def WordChoosesSaid : Prop := wordChoosesRow.holds Try.pinned (OpenSpec.ofChange wordChoosesSpec)

/-- ITS FALSE NEIGHBOUR: 'it returns false'. Refute it at one input. -/
def wordChoosesWrong : ChangeSpec := { name := "wordChooses", fn := fun _ => fun
  | [d1, d2, d3] => { results := [.lit (.bool false)], args := [d1, d2, d3] }
  | _ => none }
def WordChoosesWrongFalsely : Prop := wordChoosesRow.holds Try.pinned (OpenSpec.ofChange wordChoosesWrong)

/-- 'hypogeumlaw01.WordFills': WHATEVER THE INPUT: true; the input reads as it did. -/
def wordFillsSpec : ChangeSpec := { name := "wordFills", fn := fun _ => fun
  | [d1, d2] => { results := [.lit (.bool true)], args := [d1, d2] }
  | _ => none }
def wordFillsRow : OpenClaim := { program := "ytlaoodlfkcnnnaa", sum := "1486ed6b3bd3beffebdffe19537d7bdcc705b9243acf6c2134d01358829e9ed3", func := "hypogeum/hypogeumlaw01.WordFills", spec := "wordFills", apart := false }
def WordFillsSaid : Prop := wordFillsRow.holds Try.pinned (OpenSpec.ofChange wordFillsSpec)

/-- ITS FALSE NEIGHBOUR: 'it returns false'. Refute it at one input. -/
def wordFillsWrong : ChangeSpec := { name := "wordFills", fn := fun _ => fun
  | [d1, d2] => { results := [.lit (.bool false)], args := [d1, d2] }
  | _ => none }
def WordFillsWrongFalsely : Prop := wordFillsRow.holds Try.pinned (OpenSpec.ofChange wordFillsWrong)

/-- 'hypogeumlaw01.WordSame': WHATEVER THE INPUT: true; the input reads as it did. -/
def wordSameSpec : ChangeSpec := { name := "wordSame", fn := fun _ => fun
  | [d1, d2] => { results := [.lit (.bool true)], args := [d1, d2] }
  | _ => none }
def wordSameRow : OpenClaim := { program := "ytlaoodlfkcnnnaa", sum := "1486ed6b3bd3beffebdffe19537d7bdcc705b9243acf6c2134d01358829e9ed3", func := "hypogeum/hypogeumlaw01.WordSame", spec := "wordSame", apart := false }
def WordSameSaid : Prop := wordSameRow.holds Try.pinned (OpenSpec.ofChange wordSameSpec)

/-- ITS FALSE NEIGHBOUR: 'it returns false'. Refute it at one input. -/
def wordSameWrong : ChangeSpec := { name := "wordSame", fn := fun _ => fun
  | [d1, d2] => { results := [.lit (.bool false)], args := [d1, d2] }
  | _ => none }
def WordSameWrongFalsely : Prop := wordSameRow.holds Try.pinned (OpenSpec.ofChange wordSameWrong)

/-- 'hypogeumlaw10.NonceTakes': WHATEVER THE INPUT: true; the input reads as it did. -/
def nonceTakesSpec : ChangeSpec := { name := "nonceTakes", fn := fun _ => fun
  | [d1, d2] => { results := [.lit (.bool true)], args := [d1, d2] }
  | _ => none }
def nonceTakesRow : OpenClaim := { program := "ytlaoodlfkcnnnaa", sum := "1486ed6b3bd3beffebdffe19537d7bdcc705b9243acf6c2134d01358829e9ed3", func := "hypogeum/hypogeumlaw10.NonceTakes", spec := "nonceTakes", apart := false }
def NonceTakesSaid : Prop := nonceTakesRow.holds Try.pinned (OpenSpec.ofChange nonceTakesSpec)

/-- ITS FALSE NEIGHBOUR: 'it returns false'. Refute it at one input. -/
def nonceTakesWrong : ChangeSpec := { name := "nonceTakes", fn := fun _ => fun
  | [d1, d2] => { results := [.lit (.bool false)], args := [d1, d2] }
  | _ => none }
def NonceTakesWrongFalsely : Prop := nonceTakesRow.holds Try.pinned (OpenSpec.ofChange nonceTakesWrong)

/-- 'hypogeumlaw01.WordStores': WHATEVER THE INPUT: true; the input reads as it did. -/
def wordStoresSpec : ChangeSpec := { name := "wordStores", fn := fun _ => fun
  | [d1, d2, d3] => { results := [.lit (.bool true)], args := [d1, d2, d3] }
  | _ => none }
def wordStoresRow : OpenClaim := { program := "ytlaoodlfkcnnnaa", sum := "1486ed6b3bd3beffebdffe19537d7bdcc705b9243acf6c2134d01358829e9ed3", func := "hypogeum/hypogeumlaw01.WordStores", spec := "wordStores", apart := false }
def WordStoresSaid : Prop := wordStoresRow.holds Try.pinned (OpenSpec.ofChange wordStoresSpec)

/-- ITS FALSE NEIGHBOUR: 'it returns false'. Refute it at one input. -/
def wordStoresWrong : ChangeSpec := { name := "wordStores", fn := fun _ => fun
  | [d1, d2, d3] => { results := [.lit (.bool false)], args := [d1, d2, d3] }
  | _ => none }
def WordStoresWrongFalsely : Prop := wordStoresRow.holds Try.pinned (OpenSpec.ofChange wordStoresWrong)

/-- 'hypogeumlaw01.WordBack': WHATEVER THE INPUT: true; the input reads as it did. -/
def wordBackSpec : ChangeSpec := { name := "wordBack", fn := fun _ => fun
  | [d1, d2, d3] => { results := [.lit (.bool true)], args := [d1, d2, d3] }
  | _ => none }
def wordBackRow : OpenClaim := { program := "ytlaoodlfkcnnnaa", sum := "1486ed6b3bd3beffebdffe19537d7bdcc705b9243acf6c2134d01358829e9ed3", func := "hypogeum/hypogeumlaw01.WordBack", spec := "wordBack", apart := false }
def WordBackSaid : Prop := wordBackRow.holds Try.pinned (OpenSpec.ofChange wordBackSpec)

/-- ITS FALSE NEIGHBOUR: 'it returns false'. Refute it at one input. -/
def wordBackWrong : ChangeSpec := { name := "wordBack", fn := fun _ => fun
  | [d1, d2, d3] => { results := [.lit (.bool false)], args := [d1, d2, d3] }
  | _ => none }
def WordBackWrongFalsely : Prop := wordBackRow.holds Try.pinned (OpenSpec.ofChange wordBackWrong)

/-- 'hypogeumlaw10.NonceTurns': WHATEVER THE INPUT: true; the input reads as it did. -/
def nonceTurnsSpec : ChangeSpec := { name := "nonceTurns", fn := fun _ => fun
  | [d1, d2] => { results := [.lit (.bool true)], args := [d1, d2] }
  | _ => none }
def nonceTurnsRow : OpenClaim := { program := "ytlaoodlfkcnnnaa", sum := "1486ed6b3bd3beffebdffe19537d7bdcc705b9243acf6c2134d01358829e9ed3", func := "hypogeum/hypogeumlaw10.NonceTurns", spec := "nonceTurns", apart := false }
def NonceTurnsSaid : Prop := nonceTurnsRow.holds Try.pinned (OpenSpec.ofChange nonceTurnsSpec)

/-- ITS FALSE NEIGHBOUR: 'it returns false'. Refute it at one input. -/
def nonceTurnsWrong : ChangeSpec := { name := "nonceTurns", fn := fun _ => fun
  | [d1, d2] => { results := [.lit (.bool false)], args := [d1, d2] }
  | _ => none }
def NonceTurnsWrongFalsely : Prop := nonceTurnsRow.holds Try.pinned (OpenSpec.ofChange nonceTurnsWrong)

/-- 'hypogeumlaw10.NonceOnce': WHATEVER THE INPUT: true; the input reads as it did. -/
def nonceOnceSpec : ChangeSpec := { name := "nonceOnce", fn := fun _ => fun
  | [d1, d2] => { results := [.lit (.bool true)], args := [d1, d2] }
  | _ => none }
def nonceOnceRow : OpenClaim := { program := "ytlaoodlfkcnnnaa", sum := "1486ed6b3bd3beffebdffe19537d7bdcc705b9243acf6c2134d01358829e9ed3", func := "hypogeum/hypogeumlaw10.NonceOnce", spec := "nonceOnce", apart := false }
def NonceOnceSaid : Prop := nonceOnceRow.holds Try.pinned (OpenSpec.ofChange nonceOnceSpec)

/-- ITS FALSE NEIGHBOUR: 'it returns false'. Refute it at one input. -/
def nonceOnceWrong : ChangeSpec := { name := "nonceOnce", fn := fun _ => fun
  | [d1, d2] => { results := [.lit (.bool false)], args := [d1, d2] }
  | _ => none }
def NonceOnceWrongFalsely : Prop := nonceOnceRow.holds Try.pinned (OpenSpec.ofChange nonceOnceWrong)

/-- 'hypogeumlaw10.NonceBytes': WHATEVER THE INPUT: true; the input reads as it did. -/
def nonceBytesSpec : ChangeSpec := { name := "nonceBytes", fn := fun _ => fun
  | [d1, d2, d3] => { results := [.lit (.bool true)], args := [d1, d2, d3] }
  | _ => none }
def nonceBytesRow : OpenClaim := { program := "ytlaoodlfkcnnnaa", sum := "1486ed6b3bd3beffebdffe19537d7bdcc705b9243acf6c2134d01358829e9ed3", func := "hypogeum/hypogeumlaw10.NonceBytes", spec := "nonceBytes", apart := false }
def NonceBytesSaid : Prop := nonceBytesRow.holds Try.pinned (OpenSpec.ofChange nonceBytesSpec)

/-- ITS FALSE NEIGHBOUR: 'it returns false'. Refute it at one input. -/
def nonceBytesWrong : ChangeSpec := { name := "nonceBytes", fn := fun _ => fun
  | [d1, d2, d3] => { results := [.lit (.bool false)], args := [d1, d2, d3] }
  | _ => none }
def NonceBytesWrongFalsely : Prop := nonceBytesRow.holds Try.pinned (OpenSpec.ofChange nonceBytesWrong)

/-- 'hypogeumlaw10.NonceForm': WHATEVER THE INPUT: true; the input reads as it did. -/
def nonceFormSpec : ChangeSpec := { name := "nonceForm", fn := fun _ => fun
  | [d1, d2, d3] => { results := [.lit (.bool true)], args := [d1, d2, d3] }
  | _ => none }
def nonceFormRow : OpenClaim := { program := "ytlaoodlfkcnnnaa", sum := "1486ed6b3bd3beffebdffe19537d7bdcc705b9243acf6c2134d01358829e9ed3", func := "hypogeum/hypogeumlaw10.NonceForm", spec := "nonceForm", apart := false }
def NonceFormSaid : Prop := nonceFormRow.holds Try.pinned (OpenSpec.ofChange nonceFormSpec)

/-- ITS FALSE NEIGHBOUR: 'it returns false'. Refute it at one input. -/
def nonceFormWrong : ChangeSpec := { name := "nonceForm", fn := fun _ => fun
  | [d1, d2, d3] => { results := [.lit (.bool false)], args := [d1, d2, d3] }
  | _ => none }
def NonceFormWrongFalsely : Prop := nonceFormRow.holds Try.pinned (OpenSpec.ofChange nonceFormWrong)

/- THE SECOND FORM. 'bulk': how many values and letters a reading holds, each counted each time it is reached (what is shared counts as often as it is met; a slice's spare places count too). A statement '..UptoSaid' is the law's where the arguments, and the package variables that the reading takes, are together of bulk at most 1048576: NARROWER than '..Said'. Prove '..Said' where nothing that the law and all that it calls make is longer than what came in: it says more and counts as full. Else prove '..UptoSaid'. A law counts once. -/
mutual
def uptoBulk {H : Type} : DataW H → Nat
  | .lit (.string bytes) => bytes.length + 1
  | .lit _ => 1
  | .nil => 1
  | .ptr d => uptoBulk d + 1
  | .slice elems spare => uptoBulkAll elems + uptoBulkAll spare + 1
  | .agg parts => uptoBulkAll parts + 1
  | .iface _ d => uptoBulk d + 1
  | .map entries => uptoBulkEntries entries + 1
  | .held _ => 1
def uptoBulkAll {H : Type} : List (DataW H) → Nat
  | [] => 0
  | d :: r => uptoBulk d + uptoBulkAll r
def uptoBulkEntries {H : Type} : List (Lit × DataW H) → Nat
  | [] => 0
  | x :: r => uptoBulkEntry x + uptoBulkEntries r
def uptoBulkEntry {H : Type} : Lit × DataW H → Nat
  | (.string bytes, d) => bytes.length + uptoBulk d + 1
  | (_, d) => uptoBulk d + 1
 end
def uptoSmall : (H : Type) → List (DataW H) → Bool := fun _ ds => decide (uptoBulkAll ds ≤ 1048576)
def OpenSpec.upto (s : _root_.Go.ChangeSpec) : _root_.Go.OpenSpec := { _root_.Go.OpenSpec.ofChange s with cond := some uptoSmall }

/-- 'hypogeumlaw01.WordLoads', WHERE WHAT IT READS IS OF BULK AT MOST 1048576: true; the input reads as it did. -/
def wordLoadsUptoRow : OpenClaim := { program := "ytlaoodlfkcnnnaa", sum := "1486ed6b3bd3beffebdffe19537d7bdcc705b9243acf6c2134d01358829e9ed3", func := "hypogeum/hypogeumlaw01.WordLoads", spec := "wordLoads", apart := false, narrowed := true }
def WordLoadsUptoSaid : Prop := wordLoadsUptoRow.holds Try.pinned (OpenSpec.upto wordLoadsSpec)

/-- 'hypogeumlaw01.WordTurns', WHERE WHAT IT READS IS OF BULK AT MOST 1048576: true; the input reads as it did. -/
def wordTurnsUptoRow : OpenClaim := { program := "ytlaoodlfkcnnnaa", sum := "1486ed6b3bd3beffebdffe19537d7bdcc705b9243acf6c2134d01358829e9ed3", func := "hypogeum/hypogeumlaw01.WordTurns", spec := "wordTurns", apart := false, narrowed := true }
def WordTurnsUptoSaid : Prop := wordTurnsUptoRow.holds Try.pinned (OpenSpec.upto wordTurnsSpec)

/-- 'hypogeumlaw01.WordChooses', WHERE WHAT IT READS IS OF BULK AT MOST 1048576: true; the input reads as it did. -/
def wordChoosesUptoRow : OpenClaim := { program := "ytlaoodlfkcnnnaa", sum := "1486ed6b3bd3beffebdffe19537d7bdcc705b9243acf6c2134d01358829e9ed3", func := "hypogeum/hypogeumlaw01.WordChooses", spec := "wordChooses", apart := false, narrowed := true }
def WordChoosesUptoSaid : Prop := wordChoosesUptoRow.holds Try.pinned (OpenSpec.upto wordChoosesSpec)

/-- 'hypogeumlaw01.WordFills', WHERE WHAT IT READS IS OF BULK AT MOST 1048576: true; the input reads as it did. -/
def wordFillsUptoRow : OpenClaim := { program := "ytlaoodlfkcnnnaa", sum := "1486ed6b3bd3beffebdffe19537d7bdcc705b9243acf6c2134d01358829e9ed3", func := "hypogeum/hypogeumlaw01.WordFills", spec := "wordFills", apart := false, narrowed := true }
def WordFillsUptoSaid : Prop := wordFillsUptoRow.holds Try.pinned (OpenSpec.upto wordFillsSpec)

/-- 'hypogeumlaw01.WordSame', WHERE WHAT IT READS IS OF BULK AT MOST 1048576: true; the input reads as it did. -/
def wordSameUptoRow : OpenClaim := { program := "ytlaoodlfkcnnnaa", sum := "1486ed6b3bd3beffebdffe19537d7bdcc705b9243acf6c2134d01358829e9ed3", func := "hypogeum/hypogeumlaw01.WordSame", spec := "wordSame", apart := false, narrowed := true }
def WordSameUptoSaid : Prop := wordSameUptoRow.holds Try.pinned (OpenSpec.upto wordSameSpec)

/-- 'hypogeumlaw10.NonceTakes', WHERE WHAT IT READS IS OF BULK AT MOST 1048576: true; the input reads as it did. -/
def nonceTakesUptoRow : OpenClaim := { program := "ytlaoodlfkcnnnaa", sum := "1486ed6b3bd3beffebdffe19537d7bdcc705b9243acf6c2134d01358829e9ed3", func := "hypogeum/hypogeumlaw10.NonceTakes", spec := "nonceTakes", apart := false, narrowed := true }
def NonceTakesUptoSaid : Prop := nonceTakesUptoRow.holds Try.pinned (OpenSpec.upto nonceTakesSpec)

/-- 'hypogeumlaw01.WordStores', WHERE WHAT IT READS IS OF BULK AT MOST 1048576: true; the input reads as it did. -/
def wordStoresUptoRow : OpenClaim := { program := "ytlaoodlfkcnnnaa", sum := "1486ed6b3bd3beffebdffe19537d7bdcc705b9243acf6c2134d01358829e9ed3", func := "hypogeum/hypogeumlaw01.WordStores", spec := "wordStores", apart := false, narrowed := true }
def WordStoresUptoSaid : Prop := wordStoresUptoRow.holds Try.pinned (OpenSpec.upto wordStoresSpec)

/-- 'hypogeumlaw01.WordBack', WHERE WHAT IT READS IS OF BULK AT MOST 1048576: true; the input reads as it did. -/
def wordBackUptoRow : OpenClaim := { program := "ytlaoodlfkcnnnaa", sum := "1486ed6b3bd3beffebdffe19537d7bdcc705b9243acf6c2134d01358829e9ed3", func := "hypogeum/hypogeumlaw01.WordBack", spec := "wordBack", apart := false, narrowed := true }
def WordBackUptoSaid : Prop := wordBackUptoRow.holds Try.pinned (OpenSpec.upto wordBackSpec)

/-- 'hypogeumlaw10.NonceTurns', WHERE WHAT IT READS IS OF BULK AT MOST 1048576: true; the input reads as it did. -/
def nonceTurnsUptoRow : OpenClaim := { program := "ytlaoodlfkcnnnaa", sum := "1486ed6b3bd3beffebdffe19537d7bdcc705b9243acf6c2134d01358829e9ed3", func := "hypogeum/hypogeumlaw10.NonceTurns", spec := "nonceTurns", apart := false, narrowed := true }
def NonceTurnsUptoSaid : Prop := nonceTurnsUptoRow.holds Try.pinned (OpenSpec.upto nonceTurnsSpec)

/-- 'hypogeumlaw10.NonceOnce', WHERE WHAT IT READS IS OF BULK AT MOST 1048576: true; the input reads as it did. -/
def nonceOnceUptoRow : OpenClaim := { program := "ytlaoodlfkcnnnaa", sum := "1486ed6b3bd3beffebdffe19537d7bdcc705b9243acf6c2134d01358829e9ed3", func := "hypogeum/hypogeumlaw10.NonceOnce", spec := "nonceOnce", apart := false, narrowed := true }
def NonceOnceUptoSaid : Prop := nonceOnceUptoRow.holds Try.pinned (OpenSpec.upto nonceOnceSpec)

/-- 'hypogeumlaw10.NonceBytes', WHERE WHAT IT READS IS OF BULK AT MOST 1048576: true; the input reads as it did. -/
def nonceBytesUptoRow : OpenClaim := { program := "ytlaoodlfkcnnnaa", sum := "1486ed6b3bd3beffebdffe19537d7bdcc705b9243acf6c2134d01358829e9ed3", func := "hypogeum/hypogeumlaw10.NonceBytes", spec := "nonceBytes", apart := false, narrowed := true }
def NonceBytesUptoSaid : Prop := nonceBytesUptoRow.holds Try.pinned (OpenSpec.upto nonceBytesSpec)

/-- 'hypogeumlaw10.NonceForm', WHERE WHAT IT READS IS OF BULK AT MOST 1048576: true; the input reads as it did. -/
def nonceFormUptoRow : OpenClaim := { program := "ytlaoodlfkcnnnaa", sum := "1486ed6b3bd3beffebdffe19537d7bdcc705b9243acf6c2134d01358829e9ed3", func := "hypogeum/hypogeumlaw10.NonceForm", spec := "nonceForm", apart := false, narrowed := true }
def NonceFormUptoSaid : Prop := nonceFormUptoRow.holds Try.pinned (OpenSpec.upto nonceFormSpec)

end Rows
end Go.Proofs.Ytlaoodlfkcnnnaa
