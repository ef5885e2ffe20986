/-
  NARROWER THAN 'FOR EVERY INPUT', by the rows' own cells (each row's printed sentence says how): DigestSums: laid · DigestParts: laid · DigestAdds: laid · DigestCut: laid · DigestCopies: laid · DigestNobody: laid · MacTags: laid · MacLong: laid · MacKeys: laid · MacHolds: laid · MacOne: laid · MacNobody: laid · StretchKeys: laid · StretchBegins: laid · StretchRounds: laid · StretchWhole: laid · LabelKeys: laid · LabelNames: laid · LabelRings: laid · LabelNobody: laid.
  DERIVED. THE GIVEN ROWS OF THIS SEAT. 20 by the template 'for every input the law returns true; each argument reads behind the call as it read before'; 0 by the template 'total and deterministic' (their statements: YtmmbonlidcbkcaaDoorTotals.lean).
  GIVEN WITH THE SEED: the statements are not yours to turn. If you find one false, say at which input.
  Laid BY PROGRAM, IN A SANDBOX (cutbox-rows.mjs): the forced cells as the released guide's own fill.sh prints them over the translation 220a7cfaf66c949b… (all of the seat's roots in one cut). By AI agents, Wed Nov 11 2026. No macro, syntax, notation, axiom, sorry.
-/
import Derived.Test.YtmmbonlidcbkcaaDoorChecked
import GoSem.Claim
import GoSem.ClaimJoined
import GoSem.ClaimMapViews
import Derived.JoinedTies
import Derived.KernelRfl
namespace Go.Proofs.YtmmbonlidcbkcaaDoor
/- THE CELL 'sum', in the pinned program and in every row, IS THE sha256 OF THE DUMP (.gsa) THAT YtmmbonlidcbkcaaDoorProg.lean LOADS. Nothing in Lean hashes anything: it is a label: what it is worth is what the hold of that sum in a sandbox is worth. -/
noncomputable def Tryd.pinned : Pinned := { name := "ytmmbonlidcbkcaadoor", sum := "220a7cfaf66c949bf162ba664c14a61e4f2f6ba01acbab56e9dbc1b18478abfe", checked := Tryd.checked }
namespace Rows
def none {H : Type} : Left H := { results := [], args := [] }

/- WHAT THE LISTED PACKAGE-LEVEL VARIABLES READ AS WHEN THE CALL BEGINS. Each datum BY PROGRAM (the guide's laid-datum.mjs) off the statement by which the dump's own 'gosem.cut.vars' lays the variable. In a bare row this is a premise. The card (YtmmbonlidcbkcaaDoorCards.lean) ties it to the program's text. -/
def laid_hypogeum_digest_rounds {H : Type} : DataW H := .agg [.lit (.int .u32 1116352408), .lit (.int .u32 1899447441), .lit (.int .u32 3049323471), .lit (.int .u32 3921009573), .lit (.int .u32 961987163), .lit (.int .u32 1508970993), .lit (.int .u32 2453635748), .lit (.int .u32 2870763221), .lit (.int .u32 3624381080), .lit (.int .u32 310598401), .lit (.int .u32 607225278), .lit (.int .u32 1426881987), .lit (.int .u32 1925078388), .lit (.int .u32 2162078206), .lit (.int .u32 2614888103), .lit (.int .u32 3248222580), .lit (.int .u32 3835390401), .lit (.int .u32 4022224774), .lit (.int .u32 264347078), .lit (.int .u32 604807628), .lit (.int .u32 770255983), .lit (.int .u32 1249150122), .lit (.int .u32 1555081692), .lit (.int .u32 1996064986), .lit (.int .u32 2554220882), .lit (.int .u32 2821834349), .lit (.int .u32 2952996808), .lit (.int .u32 3210313671), .lit (.int .u32 3336571891), .lit (.int .u32 3584528711), .lit (.int .u32 113926993), .lit (.int .u32 338241895), .lit (.int .u32 666307205), .lit (.int .u32 773529912), .lit (.int .u32 1294757372), .lit (.int .u32 1396182291), .lit (.int .u32 1695183700), .lit (.int .u32 1986661051), .lit (.int .u32 2177026350), .lit (.int .u32 2456956037), .lit (.int .u32 2730485921), .lit (.int .u32 2820302411), .lit (.int .u32 3259730800), .lit (.int .u32 3345764771), .lit (.int .u32 3516065817), .lit (.int .u32 3600352804), .lit (.int .u32 4094571909), .lit (.int .u32 275423344), .lit (.int .u32 430227734), .lit (.int .u32 506948616), .lit (.int .u32 659060556), .lit (.int .u32 883997877), .lit (.int .u32 958139571), .lit (.int .u32 1322822218), .lit (.int .u32 1537002063), .lit (.int .u32 1747873779), .lit (.int .u32 1955562222), .lit (.int .u32 2024104815), .lit (.int .u32 2227730452), .lit (.int .u32 2361852424), .lit (.int .u32 2428436474), .lit (.int .u32 2756734187), .lit (.int .u32 3204031479), .lit (.int .u32 3329325298)]

/-- 'hypogeumlaw02.DigestSums': WHATEVER THE INPUT: true; the input reads as it did. -/
def digestSumsSpec : ChangeSpec := { name := "digestSums", fn := fun _ => fun
  | [d] => { results := [.lit (.bool true)], args := [d] }
  | _ => none }
def digestSumsRow : OpenClaim := { program := "ytmmbonlidcbkcaadoor", sum := "220a7cfaf66c949bf162ba664c14a61e4f2f6ba01acbab56e9dbc1b18478abfe", func := "hypogeum/hypogeumlaw02.DigestSums", spec := "digestSums", named := ["hypogeum/digest.rounds"], apart := false, laid := [("hypogeum/digest.rounds", laid_hypogeum_digest_rounds)] }
def DigestSumsSaid : Prop := digestSumsRow.holds Tryd.pinned (OpenSpec.ofChange digestSumsSpec)

/-- ITS FALSE NEIGHBOUR: 'it returns false'. Refute it at one input. -/
def digestSumsWrong : ChangeSpec := { name := "digestSums", fn := fun _ => fun
  | [d] => { results := [.lit (.bool false)], args := [d] }
  | _ => none }
def DigestSumsWrongFalsely : Prop := digestSumsRow.holds Tryd.pinned (OpenSpec.ofChange digestSumsWrong)

/-- 'hypogeumlaw02.DigestParts': WHATEVER THE INPUT: true; the input reads as it did. -/
def digestPartsSpec : ChangeSpec := { name := "digestParts", fn := fun _ => fun
  | [d] => { results := [.lit (.bool true)], args := [d] }
  | _ => none }
def digestPartsRow : OpenClaim := { program := "ytmmbonlidcbkcaadoor", sum := "220a7cfaf66c949bf162ba664c14a61e4f2f6ba01acbab56e9dbc1b18478abfe", func := "hypogeum/hypogeumlaw02.DigestParts", spec := "digestParts", named := ["hypogeum/digest.rounds"], apart := false, laid := [("hypogeum/digest.rounds", laid_hypogeum_digest_rounds)] }
def DigestPartsSaid : Prop := digestPartsRow.holds Tryd.pinned (OpenSpec.ofChange digestPartsSpec)

/-- ITS FALSE NEIGHBOUR: 'it returns false'. Refute it at one input. -/
def digestPartsWrong : ChangeSpec := { name := "digestParts", fn := fun _ => fun
  | [d] => { results := [.lit (.bool false)], args := [d] }
  | _ => none }
def DigestPartsWrongFalsely : Prop := digestPartsRow.holds Tryd.pinned (OpenSpec.ofChange digestPartsWrong)

/-- 'hypogeumlaw02.DigestAdds': WHATEVER THE INPUT: true; the input reads as it did. -/
def digestAddsSpec : ChangeSpec := { name := "digestAdds", fn := fun _ => fun
  | [d] => { results := [.lit (.bool true)], args := [d] }
  | _ => none }
def digestAddsRow : OpenClaim := { program := "ytmmbonlidcbkcaadoor", sum := "220a7cfaf66c949bf162ba664c14a61e4f2f6ba01acbab56e9dbc1b18478abfe", func := "hypogeum/hypogeumlaw02.DigestAdds", spec := "digestAdds", named := ["hypogeum/digest.rounds"], apart := false, laid := [("hypogeum/digest.rounds", laid_hypogeum_digest_rounds)] }
def DigestAddsSaid : Prop := digestAddsRow.holds Tryd.pinned (OpenSpec.ofChange digestAddsSpec)

/-- ITS FALSE NEIGHBOUR: 'it returns false'. Refute it at one input. -/
def digestAddsWrong : ChangeSpec := { name := "digestAdds", fn := fun _ => fun
  | [d] => { results := [.lit (.bool false)], args := [d] }
  | _ => none }
def DigestAddsWrongFalsely : Prop := digestAddsRow.holds Tryd.pinned (OpenSpec.ofChange digestAddsWrong)

/-- 'hypogeumlaw02.DigestCut': WHATEVER THE INPUT: true; the input reads as it did. -/
def digestCutSpec : ChangeSpec := { name := "digestCut", fn := fun _ => fun
  | [d1, d2] => { results := [.lit (.bool true)], args := [d1, d2] }
  | _ => none }
def digestCutRow : OpenClaim := { program := "ytmmbonlidcbkcaadoor", sum := "220a7cfaf66c949bf162ba664c14a61e4f2f6ba01acbab56e9dbc1b18478abfe", func := "hypogeum/hypogeumlaw02.DigestCut", spec := "digestCut", named := ["hypogeum/digest.rounds"], apart := false, laid := [("hypogeum/digest.rounds", laid_hypogeum_digest_rounds)] }
def DigestCutSaid : Prop := digestCutRow.holds Tryd.pinned (OpenSpec.ofChange digestCutSpec)

/-- ITS FALSE NEIGHBOUR: 'it returns false'. Refute it at one input. -/
def digestCutWrong : ChangeSpec := { name := "digestCut", fn := fun _ => fun
  | [d1, d2] => { results := [.lit (.bool false)], args := [d1, d2] }
  | _ => none }
def DigestCutWrongFalsely : Prop := digestCutRow.holds Tryd.pinned (OpenSpec.ofChange digestCutWrong)

/-- 'hypogeumlaw02.DigestCopies': WHATEVER THE INPUT: true; the input reads as it did. -/
def digestCopiesSpec : ChangeSpec := { name := "digestCopies", fn := fun _ => fun
  | [d1, d2, d3] => { results := [.lit (.bool true)], args := [d1, d2, d3] }
  | _ => none }
def digestCopiesRow : OpenClaim := { program := "ytmmbonlidcbkcaadoor", sum := "220a7cfaf66c949bf162ba664c14a61e4f2f6ba01acbab56e9dbc1b18478abfe", func := "hypogeum/hypogeumlaw02.DigestCopies", spec := "digestCopies", named := ["hypogeum/digest.rounds"], apart := false, laid := [("hypogeum/digest.rounds", laid_hypogeum_digest_rounds)] }
def DigestCopiesSaid : Prop := digestCopiesRow.holds Tryd.pinned (OpenSpec.ofChange digestCopiesSpec)

/-- ITS FALSE NEIGHBOUR: 'it returns false'. Refute it at one input. -/
def digestCopiesWrong : ChangeSpec := { name := "digestCopies", fn := fun _ => fun
  | [d1, d2, d3] => { results := [.lit (.bool false)], args := [d1, d2, d3] }
  | _ => none }
def DigestCopiesWrongFalsely : Prop := digestCopiesRow.holds Tryd.pinned (OpenSpec.ofChange digestCopiesWrong)

/-- 'hypogeumlaw02.DigestNobody': WHATEVER THE INPUT: true; the input reads as it did. -/
def digestNobodySpec : ChangeSpec := { name := "digestNobody", fn := fun _ => fun
  | [d] => { results := [.lit (.bool true)], args := [d] }
  | _ => none }
def digestNobodyRow : OpenClaim := { program := "ytmmbonlidcbkcaadoor", sum := "220a7cfaf66c949bf162ba664c14a61e4f2f6ba01acbab56e9dbc1b18478abfe", func := "hypogeum/hypogeumlaw02.DigestNobody", spec := "digestNobody", named := ["hypogeum/digest.rounds"], apart := false, laid := [("hypogeum/digest.rounds", laid_hypogeum_digest_rounds)] }
def DigestNobodySaid : Prop := digestNobodyRow.holds Tryd.pinned (OpenSpec.ofChange digestNobodySpec)

/-- ITS FALSE NEIGHBOUR: 'it returns false'. Refute it at one input. -/
def digestNobodyWrong : ChangeSpec := { name := "digestNobody", fn := fun _ => fun
  | [d] => { results := [.lit (.bool false)], args := [d] }
  | _ => none }
def DigestNobodyWrongFalsely : Prop := digestNobodyRow.holds Tryd.pinned (OpenSpec.ofChange digestNobodyWrong)

/-- 'hypogeumlaw03.MacTags': WHATEVER THE INPUT: true; the input reads as it did. -/
def macTagsSpec : ChangeSpec := { name := "macTags", fn := fun _ => fun
  | [d1, d2, d3] => { results := [.lit (.bool true)], args := [d1, d2, d3] }
  | _ => none }
def macTagsRow : OpenClaim := { program := "ytmmbonlidcbkcaadoor", sum := "220a7cfaf66c949bf162ba664c14a61e4f2f6ba01acbab56e9dbc1b18478abfe", func := "hypogeum/hypogeumlaw03.MacTags", spec := "macTags", named := ["hypogeum/digest.rounds"], apart := false, laid := [("hypogeum/digest.rounds", laid_hypogeum_digest_rounds)] }
def MacTagsSaid : Prop := macTagsRow.holds Tryd.pinned (OpenSpec.ofChange macTagsSpec)

/-- ITS FALSE NEIGHBOUR: 'it returns false'. Refute it at one input. -/
def macTagsWrong : ChangeSpec := { name := "macTags", fn := fun _ => fun
  | [d1, d2, d3] => { results := [.lit (.bool false)], args := [d1, d2, d3] }
  | _ => none }
def MacTagsWrongFalsely : Prop := macTagsRow.holds Tryd.pinned (OpenSpec.ofChange macTagsWrong)

/-- 'hypogeumlaw03.MacLong': WHATEVER THE INPUT: true; the input reads as it did. -/
def macLongSpec : ChangeSpec := { name := "macLong", fn := fun _ => fun
  | [d1, d2] => { results := [.lit (.bool true)], args := [d1, d2] }
  | _ => none }
def macLongRow : OpenClaim := { program := "ytmmbonlidcbkcaadoor", sum := "220a7cfaf66c949bf162ba664c14a61e4f2f6ba01acbab56e9dbc1b18478abfe", func := "hypogeum/hypogeumlaw03.MacLong", spec := "macLong", named := ["hypogeum/digest.rounds"], apart := false, laid := [("hypogeum/digest.rounds", laid_hypogeum_digest_rounds)] }
def MacLongSaid : Prop := macLongRow.holds Tryd.pinned (OpenSpec.ofChange macLongSpec)

/-- ITS FALSE NEIGHBOUR: 'it returns false'. Refute it at one input. -/
def macLongWrong : ChangeSpec := { name := "macLong", fn := fun _ => fun
  | [d1, d2] => { results := [.lit (.bool false)], args := [d1, d2] }
  | _ => none }
def MacLongWrongFalsely : Prop := macLongRow.holds Tryd.pinned (OpenSpec.ofChange macLongWrong)

/-- 'hypogeumlaw03.MacKeys': WHATEVER THE INPUT: true; the input reads as it did. -/
def macKeysSpec : ChangeSpec := { name := "macKeys", fn := fun _ => fun
  | [d1, d2] => { results := [.lit (.bool true)], args := [d1, d2] }
  | _ => none }
def macKeysRow : OpenClaim := { program := "ytmmbonlidcbkcaadoor", sum := "220a7cfaf66c949bf162ba664c14a61e4f2f6ba01acbab56e9dbc1b18478abfe", func := "hypogeum/hypogeumlaw03.MacKeys", spec := "macKeys", unfollowed := true, recurses := true, named := ["hypogeum/digest.rounds"], apart := false, laid := [("hypogeum/digest.rounds", laid_hypogeum_digest_rounds)] }
def MacKeysSaid : Prop := macKeysRow.holds Tryd.pinned (OpenSpec.ofChange macKeysSpec)

/-- ITS FALSE NEIGHBOUR: 'it returns false'. Refute it at one input. -/
def macKeysWrong : ChangeSpec := { name := "macKeys", fn := fun _ => fun
  | [d1, d2] => { results := [.lit (.bool false)], args := [d1, d2] }
  | _ => none }
def MacKeysWrongFalsely : Prop := macKeysRow.holds Tryd.pinned (OpenSpec.ofChange macKeysWrong)

/-- 'hypogeumlaw03.MacHolds': WHATEVER THE INPUT: true; the input reads as it did. -/
def macHoldsSpec : ChangeSpec := { name := "macHolds", fn := fun _ => fun
  | [d1, d2, d3] => { results := [.lit (.bool true)], args := [d1, d2, d3] }
  | _ => none }
def macHoldsRow : OpenClaim := { program := "ytmmbonlidcbkcaadoor", sum := "220a7cfaf66c949bf162ba664c14a61e4f2f6ba01acbab56e9dbc1b18478abfe", func := "hypogeum/hypogeumlaw03.MacHolds", spec := "macHolds", named := ["hypogeum/digest.rounds"], apart := false, laid := [("hypogeum/digest.rounds", laid_hypogeum_digest_rounds)] }
def MacHoldsSaid : Prop := macHoldsRow.holds Tryd.pinned (OpenSpec.ofChange macHoldsSpec)

/-- ITS FALSE NEIGHBOUR: 'it returns false'. Refute it at one input. -/
def macHoldsWrong : ChangeSpec := { name := "macHolds", fn := fun _ => fun
  | [d1, d2, d3] => { results := [.lit (.bool false)], args := [d1, d2, d3] }
  | _ => none }
def MacHoldsWrongFalsely : Prop := macHoldsRow.holds Tryd.pinned (OpenSpec.ofChange macHoldsWrong)

/-- 'hypogeumlaw03.MacOne': WHATEVER THE INPUT: true; the input reads as it did. -/
def macOneSpec : ChangeSpec := { name := "macOne", fn := fun _ => fun
  | [d1, d2, d3, d4] => { results := [.lit (.bool true)], args := [d1, d2, d3, d4] }
  | _ => none }
def macOneRow : OpenClaim := { program := "ytmmbonlidcbkcaadoor", sum := "220a7cfaf66c949bf162ba664c14a61e4f2f6ba01acbab56e9dbc1b18478abfe", func := "hypogeum/hypogeumlaw03.MacOne", spec := "macOne", named := ["hypogeum/digest.rounds"], apart := false, laid := [("hypogeum/digest.rounds", laid_hypogeum_digest_rounds)] }
def MacOneSaid : Prop := macOneRow.holds Tryd.pinned (OpenSpec.ofChange macOneSpec)

/-- ITS FALSE NEIGHBOUR: 'it returns false'. Refute it at one input. -/
def macOneWrong : ChangeSpec := { name := "macOne", fn := fun _ => fun
  | [d1, d2, d3, d4] => { results := [.lit (.bool false)], args := [d1, d2, d3, d4] }
  | _ => none }
def MacOneWrongFalsely : Prop := macOneRow.holds Tryd.pinned (OpenSpec.ofChange macOneWrong)

/-- 'hypogeumlaw03.MacNobody': WHATEVER THE INPUT: true; the input reads as it did. -/
def macNobodySpec : ChangeSpec := { name := "macNobody", fn := fun _ => fun
  | [d] => { results := [.lit (.bool true)], args := [d] }
  | _ => none }
def macNobodyRow : OpenClaim := { program := "ytmmbonlidcbkcaadoor", sum := "220a7cfaf66c949bf162ba664c14a61e4f2f6ba01acbab56e9dbc1b18478abfe", func := "hypogeum/hypogeumlaw03.MacNobody", spec := "macNobody", unfollowed := true, recurses := true, named := ["hypogeum/digest.rounds"], apart := false, laid := [("hypogeum/digest.rounds", laid_hypogeum_digest_rounds)] }
def MacNobodySaid : Prop := macNobodyRow.holds Tryd.pinned (OpenSpec.ofChange macNobodySpec)

/-- ITS FALSE NEIGHBOUR: 'it returns false'. Refute it at one input. -/
def macNobodyWrong : ChangeSpec := { name := "macNobody", fn := fun _ => fun
  | [d] => { results := [.lit (.bool false)], args := [d] }
  | _ => none }
def MacNobodyWrongFalsely : Prop := macNobodyRow.holds Tryd.pinned (OpenSpec.ofChange macNobodyWrong)

/-- 'hypogeumlaw04.StretchKeys': WHATEVER THE INPUT: true; the input reads as it did. -/
def stretchKeysSpec : ChangeSpec := { name := "stretchKeys", fn := fun _ => fun
  | [d] => { results := [.lit (.bool true)], args := [d] }
  | _ => none }
def stretchKeysRow : OpenClaim := { program := "ytmmbonlidcbkcaadoor", sum := "220a7cfaf66c949bf162ba664c14a61e4f2f6ba01acbab56e9dbc1b18478abfe", func := "hypogeum/hypogeumlaw04.StretchKeys", spec := "stretchKeys", named := ["hypogeum/digest.rounds"], apart := false, laid := [("hypogeum/digest.rounds", laid_hypogeum_digest_rounds)] }
def StretchKeysSaid : Prop := stretchKeysRow.holds Tryd.pinned (OpenSpec.ofChange stretchKeysSpec)

/-- ITS FALSE NEIGHBOUR: 'it returns false'. Refute it at one input. -/
def stretchKeysWrong : ChangeSpec := { name := "stretchKeys", fn := fun _ => fun
  | [d] => { results := [.lit (.bool false)], args := [d] }
  | _ => none }
def StretchKeysWrongFalsely : Prop := stretchKeysRow.holds Tryd.pinned (OpenSpec.ofChange stretchKeysWrong)

/-- 'hypogeumlaw04.StretchBegins': WHATEVER THE INPUT: true; the input reads as it did. -/
def stretchBeginsSpec : ChangeSpec := { name := "stretchBegins", fn := fun _ => fun
  | [d1, d2, d3, d4, d5] => { results := [.lit (.bool true)], args := [d1, d2, d3, d4, d5] }
  | _ => none }
def stretchBeginsRow : OpenClaim := { program := "ytmmbonlidcbkcaadoor", sum := "220a7cfaf66c949bf162ba664c14a61e4f2f6ba01acbab56e9dbc1b18478abfe", func := "hypogeum/hypogeumlaw04.StretchBegins", spec := "stretchBegins", named := ["hypogeum/digest.rounds"], apart := false, laid := [("hypogeum/digest.rounds", laid_hypogeum_digest_rounds)] }
def StretchBeginsSaid : Prop := stretchBeginsRow.holds Tryd.pinned (OpenSpec.ofChange stretchBeginsSpec)

/-- ITS FALSE NEIGHBOUR: 'it returns false'. Refute it at one input. -/
def stretchBeginsWrong : ChangeSpec := { name := "stretchBegins", fn := fun _ => fun
  | [d1, d2, d3, d4, d5] => { results := [.lit (.bool false)], args := [d1, d2, d3, d4, d5] }
  | _ => none }
def StretchBeginsWrongFalsely : Prop := stretchBeginsRow.holds Tryd.pinned (OpenSpec.ofChange stretchBeginsWrong)

/-- 'hypogeumlaw04.StretchRounds': WHATEVER THE INPUT: true; the input reads as it did. -/
def stretchRoundsSpec : ChangeSpec := { name := "stretchRounds", fn := fun _ => fun
  | [d1, d2, d3] => { results := [.lit (.bool true)], args := [d1, d2, d3] }
  | _ => none }
def stretchRoundsRow : OpenClaim := { program := "ytmmbonlidcbkcaadoor", sum := "220a7cfaf66c949bf162ba664c14a61e4f2f6ba01acbab56e9dbc1b18478abfe", func := "hypogeum/hypogeumlaw04.StretchRounds", spec := "stretchRounds", named := ["hypogeum/digest.rounds"], apart := false, laid := [("hypogeum/digest.rounds", laid_hypogeum_digest_rounds)] }
def StretchRoundsSaid : Prop := stretchRoundsRow.holds Tryd.pinned (OpenSpec.ofChange stretchRoundsSpec)

/-- ITS FALSE NEIGHBOUR: 'it returns false'. Refute it at one input. -/
def stretchRoundsWrong : ChangeSpec := { name := "stretchRounds", fn := fun _ => fun
  | [d1, d2, d3] => { results := [.lit (.bool false)], args := [d1, d2, d3] }
  | _ => none }
def StretchRoundsWrongFalsely : Prop := stretchRoundsRow.holds Tryd.pinned (OpenSpec.ofChange stretchRoundsWrong)

/-- 'hypogeumlaw04.StretchWhole': WHATEVER THE INPUT: true; the input reads as it did. -/
def stretchWholeSpec : ChangeSpec := { name := "stretchWhole", fn := fun _ => fun
  | [d1, d2, d3] => { results := [.lit (.bool true)], args := [d1, d2, d3] }
  | _ => none }
def stretchWholeRow : OpenClaim := { program := "ytmmbonlidcbkcaadoor", sum := "220a7cfaf66c949bf162ba664c14a61e4f2f6ba01acbab56e9dbc1b18478abfe", func := "hypogeum/hypogeumlaw04.StretchWhole", spec := "stretchWhole", named := ["hypogeum/digest.rounds"], apart := false, laid := [("hypogeum/digest.rounds", laid_hypogeum_digest_rounds)] }
def StretchWholeSaid : Prop := stretchWholeRow.holds Tryd.pinned (OpenSpec.ofChange stretchWholeSpec)

/-- ITS FALSE NEIGHBOUR: 'it returns false'. Refute it at one input. -/
def stretchWholeWrong : ChangeSpec := { name := "stretchWhole", fn := fun _ => fun
  | [d1, d2, d3] => { results := [.lit (.bool false)], args := [d1, d2, d3] }
  | _ => none }
def StretchWholeWrongFalsely : Prop := stretchWholeRow.holds Tryd.pinned (OpenSpec.ofChange stretchWholeWrong)

/-- 'hypogeumlaw09.LabelKeys': WHATEVER THE INPUT: true; the input reads as it did. -/
def labelKeysSpec : ChangeSpec := { name := "labelKeys", fn := fun _ => fun
  | [d1, d2, d3] => { results := [.lit (.bool true)], args := [d1, d2, d3] }
  | _ => none }
def labelKeysRow : OpenClaim := { program := "ytmmbonlidcbkcaadoor", sum := "220a7cfaf66c949bf162ba664c14a61e4f2f6ba01acbab56e9dbc1b18478abfe", func := "hypogeum/hypogeumlaw09.LabelKeys", spec := "labelKeys", named := ["hypogeum/digest.rounds"], apart := false, laid := [("hypogeum/digest.rounds", laid_hypogeum_digest_rounds)] }
def LabelKeysSaid : Prop := labelKeysRow.holds Tryd.pinned (OpenSpec.ofChange labelKeysSpec)

/-- ITS FALSE NEIGHBOUR: 'it returns false'. Refute it at one input. -/
def labelKeysWrong : ChangeSpec := { name := "labelKeys", fn := fun _ => fun
  | [d1, d2, d3] => { results := [.lit (.bool false)], args := [d1, d2, d3] }
  | _ => none }
def LabelKeysWrongFalsely : Prop := labelKeysRow.holds Tryd.pinned (OpenSpec.ofChange labelKeysWrong)

/-- 'hypogeumlaw09.LabelNames': WHATEVER THE INPUT: true; the input reads as it did. -/
def labelNamesSpec : ChangeSpec := { name := "labelNames", fn := fun _ => fun
  | [d1, d2, d3] => { results := [.lit (.bool true)], args := [d1, d2, d3] }
  | _ => none }
def labelNamesRow : OpenClaim := { program := "ytmmbonlidcbkcaadoor", sum := "220a7cfaf66c949bf162ba664c14a61e4f2f6ba01acbab56e9dbc1b18478abfe", func := "hypogeum/hypogeumlaw09.LabelNames", spec := "labelNames", named := ["hypogeum/digest.rounds"], apart := false, laid := [("hypogeum/digest.rounds", laid_hypogeum_digest_rounds)] }
def LabelNamesSaid : Prop := labelNamesRow.holds Tryd.pinned (OpenSpec.ofChange labelNamesSpec)

/-- ITS FALSE NEIGHBOUR: 'it returns false'. Refute it at one input. -/
def labelNamesWrong : ChangeSpec := { name := "labelNames", fn := fun _ => fun
  | [d1, d2, d3] => { results := [.lit (.bool false)], args := [d1, d2, d3] }
  | _ => none }
def LabelNamesWrongFalsely : Prop := labelNamesRow.holds Tryd.pinned (OpenSpec.ofChange labelNamesWrong)

/-- 'hypogeumlaw09.LabelRings': WHATEVER THE INPUT: true; the input reads as it did. -/
def labelRingsSpec : ChangeSpec := { name := "labelRings", fn := fun _ => fun
  | [d] => { results := [.lit (.bool true)], args := [d] }
  | _ => none }
def labelRingsRow : OpenClaim := { program := "ytmmbonlidcbkcaadoor", sum := "220a7cfaf66c949bf162ba664c14a61e4f2f6ba01acbab56e9dbc1b18478abfe", func := "hypogeum/hypogeumlaw09.LabelRings", spec := "labelRings", named := ["hypogeum/digest.rounds"], apart := false, laid := [("hypogeum/digest.rounds", laid_hypogeum_digest_rounds)] }
def LabelRingsSaid : Prop := labelRingsRow.holds Tryd.pinned (OpenSpec.ofChange labelRingsSpec)

/-- ITS FALSE NEIGHBOUR: 'it returns false'. Refute it at one input. -/
def labelRingsWrong : ChangeSpec := { name := "labelRings", fn := fun _ => fun
  | [d] => { results := [.lit (.bool false)], args := [d] }
  | _ => none }
def LabelRingsWrongFalsely : Prop := labelRingsRow.holds Tryd.pinned (OpenSpec.ofChange labelRingsWrong)

/-- 'hypogeumlaw09.LabelNobody': WHATEVER THE INPUT: true; the input reads as it did. -/
def labelNobodySpec : ChangeSpec := { name := "labelNobody", fn := fun _ => fun
  | [d] => { results := [.lit (.bool true)], args := [d] }
  | _ => none }
def labelNobodyRow : OpenClaim := { program := "ytmmbonlidcbkcaadoor", sum := "220a7cfaf66c949bf162ba664c14a61e4f2f6ba01acbab56e9dbc1b18478abfe", func := "hypogeum/hypogeumlaw09.LabelNobody", spec := "labelNobody", named := ["hypogeum/digest.rounds"], apart := false, laid := [("hypogeum/digest.rounds", laid_hypogeum_digest_rounds)] }
def LabelNobodySaid : Prop := labelNobodyRow.holds Tryd.pinned (OpenSpec.ofChange labelNobodySpec)

/-- ITS FALSE NEIGHBOUR: 'it returns false'. Refute it at one input. -/
def labelNobodyWrong : ChangeSpec := { name := "labelNobody", fn := fun _ => fun
  | [d] => { results := [.lit (.bool false)], args := [d] }
  | _ => none }
def LabelNobodyWrongFalsely : Prop := labelNobodyRow.holds Tryd.pinned (OpenSpec.ofChange labelNobodyWrong)

/- THE SECOND FORM. 'bulk': how many values and letters a reading holds, each counted each time it is reached (what is shared counts as often as it is met; a slice's spare places count too). A statement '..UptoSaid' is the law's where the arguments, and the package variables that the reading takes, are together of bulk at most 1048576: NARROWER than '..Said'. Prove '..Said' where nothing that the law and all that it calls make is longer than what came in: it says more and counts as full. Else prove '..UptoSaid'. A law counts once. -/
mutual
def uptoBulk {H : Type} : DataW H → Nat
  | .lit (.string bytes) => bytes.length + 1
  | .lit _ => 1
  | .nil => 1
  | .ptr d => uptoBulk d + 1
  | .slice elems spare => uptoBulkAll elems + uptoBulkAll spare + 1
  | .agg parts => uptoBulkAll parts + 1
  | .iface _ d => uptoBulk d + 1
  | .map entries => uptoBulkEntries entries + 1
  | .held _ => 1
def uptoBulkAll {H : Type} : List (DataW H) → Nat
  | [] => 0
  | d :: r => uptoBulk d + uptoBulkAll r
def uptoBulkEntries {H : Type} : List (Lit × DataW H) → Nat
  | [] => 0
  | x :: r => uptoBulkEntry x + uptoBulkEntries r
def uptoBulkEntry {H : Type} : Lit × DataW H → Nat
  | (.string bytes, d) => bytes.length + uptoBulk d + 1
  | (_, d) => uptoBulk d + 1
 end
def uptoSmall : (H : Type) → List (DataW H) → Bool := fun _ ds => decide (uptoBulkAll ds ≤ 1048576)
def OpenSpec.upto (s : _root_.Go.ChangeSpec) : _root_.Go.OpenSpec := { _root_.Go.OpenSpec.ofChange s with cond := some uptoSmall }

/-- 'hypogeumlaw02.DigestSums', WHERE WHAT IT READS IS OF BULK AT MOST 1048576: true; the input reads as it did. -/
def digestSumsUptoRow : OpenClaim := { program := "ytmmbonlidcbkcaadoor", sum := "220a7cfaf66c949bf162ba664c14a61e4f2f6ba01acbab56e9dbc1b18478abfe", func := "hypogeum/hypogeumlaw02.DigestSums", spec := "digestSums", named := ["hypogeum/digest.rounds"], apart := false, laid := [("hypogeum/digest.rounds", laid_hypogeum_digest_rounds)], narrowed := true }
def DigestSumsUptoSaid : Prop := digestSumsUptoRow.holds Tryd.pinned (OpenSpec.upto digestSumsSpec)

/-- 'hypogeumlaw02.DigestParts', WHERE WHAT IT READS IS OF BULK AT MOST 1048576: true; the input reads as it did. -/
def digestPartsUptoRow : OpenClaim := { program := "ytmmbonlidcbkcaadoor", sum := "220a7cfaf66c949bf162ba664c14a61e4f2f6ba01acbab56e9dbc1b18478abfe", func := "hypogeum/hypogeumlaw02.DigestParts", spec := "digestParts", named := ["hypogeum/digest.rounds"], apart := false, laid := [("hypogeum/digest.rounds", laid_hypogeum_digest_rounds)], narrowed := true }
def DigestPartsUptoSaid : Prop := digestPartsUptoRow.holds Tryd.pinned (OpenSpec.upto digestPartsSpec)

/-- 'hypogeumlaw02.DigestAdds', WHERE WHAT IT READS IS OF BULK AT MOST 1048576: true; the input reads as it did. -/
def digestAddsUptoRow : OpenClaim := { program := "ytmmbonlidcbkcaadoor", sum := "220a7cfaf66c949bf162ba664c14a61e4f2f6ba01acbab56e9dbc1b18478abfe", func := "hypogeum/hypogeumlaw02.DigestAdds", spec := "digestAdds", named := ["hypogeum/digest.rounds"], apart := false, laid := [("hypogeum/digest.rounds", laid_hypogeum_digest_rounds)], narrowed := true }
def DigestAddsUptoSaid : Prop := digestAddsUptoRow.holds Tryd.pinned (OpenSpec.upto digestAddsSpec)

/-- 'hypogeumlaw02.DigestCut', WHERE WHAT IT READS IS OF BULK AT MOST 1048576: true; the input reads as it did. -/
def digestCutUptoRow : OpenClaim := { program := "ytmmbonlidcbkcaadoor", sum := "220a7cfaf66c949bf162ba664c14a61e4f2f6ba01acbab56e9dbc1b18478abfe", func := "hypogeum/hypogeumlaw02.DigestCut", spec := "digestCut", named := ["hypogeum/digest.rounds"], apart := false, laid := [("hypogeum/digest.rounds", laid_hypogeum_digest_rounds)], narrowed := true }
def DigestCutUptoSaid : Prop := digestCutUptoRow.holds Tryd.pinned (OpenSpec.upto digestCutSpec)

/-- 'hypogeumlaw02.DigestCopies', WHERE WHAT IT READS IS OF BULK AT MOST 1048576: true; the input reads as it did. -/
def digestCopiesUptoRow : OpenClaim := { program := "ytmmbonlidcbkcaadoor", sum := "220a7cfaf66c949bf162ba664c14a61e4f2f6ba01acbab56e9dbc1b18478abfe", func := "hypogeum/hypogeumlaw02.DigestCopies", spec := "digestCopies", named := ["hypogeum/digest.rounds"], apart := false, laid := [("hypogeum/digest.rounds", laid_hypogeum_digest_rounds)], narrowed := true }
def DigestCopiesUptoSaid : Prop := digestCopiesUptoRow.holds Tryd.pinned (OpenSpec.upto digestCopiesSpec)

/-- 'hypogeumlaw02.DigestNobody', WHERE WHAT IT READS IS OF BULK AT MOST 1048576: true; the input reads as it did. -/
def digestNobodyUptoRow : OpenClaim := { program := "ytmmbonlidcbkcaadoor", sum := "220a7cfaf66c949bf162ba664c14a61e4f2f6ba01acbab56e9dbc1b18478abfe", func := "hypogeum/hypogeumlaw02.DigestNobody", spec := "digestNobody", named := ["hypogeum/digest.rounds"], apart := false, laid := [("hypogeum/digest.rounds", laid_hypogeum_digest_rounds)], narrowed := true }
def DigestNobodyUptoSaid : Prop := digestNobodyUptoRow.holds Tryd.pinned (OpenSpec.upto digestNobodySpec)

/-- 'hypogeumlaw03.MacTags', WHERE WHAT IT READS IS OF BULK AT MOST 1048576: true; the input reads as it did. -/
def macTagsUptoRow : OpenClaim := { program := "ytmmbonlidcbkcaadoor", sum := "220a7cfaf66c949bf162ba664c14a61e4f2f6ba01acbab56e9dbc1b18478abfe", func := "hypogeum/hypogeumlaw03.MacTags", spec := "macTags", named := ["hypogeum/digest.rounds"], apart := false, laid := [("hypogeum/digest.rounds", laid_hypogeum_digest_rounds)], narrowed := true }
def MacTagsUptoSaid : Prop := macTagsUptoRow.holds Tryd.pinned (OpenSpec.upto macTagsSpec)

/-- 'hypogeumlaw03.MacLong', WHERE WHAT IT READS IS OF BULK AT MOST 1048576: true; the input reads as it did. -/
def macLongUptoRow : OpenClaim := { program := "ytmmbonlidcbkcaadoor", sum := "220a7cfaf66c949bf162ba664c14a61e4f2f6ba01acbab56e9dbc1b18478abfe", func := "hypogeum/hypogeumlaw03.MacLong", spec := "macLong", named := ["hypogeum/digest.rounds"], apart := false, laid := [("hypogeum/digest.rounds", laid_hypogeum_digest_rounds)], narrowed := true }
def MacLongUptoSaid : Prop := macLongUptoRow.holds Tryd.pinned (OpenSpec.upto macLongSpec)

/-- 'hypogeumlaw03.MacKeys', WHERE WHAT IT READS IS OF BULK AT MOST 1048576: true; the input reads as it did. -/
def macKeysUptoRow : OpenClaim := { program := "ytmmbonlidcbkcaadoor", sum := "220a7cfaf66c949bf162ba664c14a61e4f2f6ba01acbab56e9dbc1b18478abfe", func := "hypogeum/hypogeumlaw03.MacKeys", spec := "macKeys", unfollowed := true, recurses := true, named := ["hypogeum/digest.rounds"], apart := false, laid := [("hypogeum/digest.rounds", laid_hypogeum_digest_rounds)], narrowed := true }
def MacKeysUptoSaid : Prop := macKeysUptoRow.holds Tryd.pinned (OpenSpec.upto macKeysSpec)

/-- 'hypogeumlaw03.MacHolds', WHERE WHAT IT READS IS OF BULK AT MOST 1048576: true; the input reads as it did. -/
def macHoldsUptoRow : OpenClaim := { program := "ytmmbonlidcbkcaadoor", sum := "220a7cfaf66c949bf162ba664c14a61e4f2f6ba01acbab56e9dbc1b18478abfe", func := "hypogeum/hypogeumlaw03.MacHolds", spec := "macHolds", named := ["hypogeum/digest.rounds"], apart := false, laid := [("hypogeum/digest.rounds", laid_hypogeum_digest_rounds)], narrowed := true }
def MacHoldsUptoSaid : Prop := macHoldsUptoRow.holds Tryd.pinned (OpenSpec.upto macHoldsSpec)

/-- 'hypogeumlaw03.MacOne', WHERE WHAT IT READS IS OF BULK AT MOST 1048576: true; the input reads as it did. -/
def macOneUptoRow : OpenClaim := { program := "ytmmbonlidcbkcaadoor", sum := "220a7cfaf66c949bf162ba664c14a61e4f2f6ba01acbab56e9dbc1b18478abfe", func := "hypogeum/hypogeumlaw03.MacOne", spec := "macOne", named := ["hypogeum/digest.rounds"], apart := false, laid := [("hypogeum/digest.rounds", laid_hypogeum_digest_rounds)], narrowed := true }
def MacOneUptoSaid : Prop := macOneUptoRow.holds Tryd.pinned (OpenSpec.upto macOneSpec)

/-- 'hypogeumlaw03.MacNobody', WHERE WHAT IT READS IS OF BULK AT MOST 1048576: true; the input reads as it did. -/
def macNobodyUptoRow : OpenClaim := { program := "ytmmbonlidcbkcaadoor", sum := "220a7cfaf66c949bf162ba664c14a61e4f2f6ba01acbab56e9dbc1b18478abfe", func := "hypogeum/hypogeumlaw03.MacNobody", spec := "macNobody", unfollowed := true, recurses := true, named := ["hypogeum/digest.rounds"], apart := false, laid := [("hypogeum/digest.rounds", laid_hypogeum_digest_rounds)], narrowed := true }
def MacNobodyUptoSaid : Prop := macNobodyUptoRow.holds Tryd.pinned (OpenSpec.upto macNobodySpec)

/-- 'hypogeumlaw04.StretchKeys', WHERE WHAT IT READS IS OF BULK AT MOST 1048576: true; the input reads as it did. -/
def stretchKeysUptoRow : OpenClaim := { program := "ytmmbonlidcbkcaadoor", sum := "220a7cfaf66c949bf162ba664c14a61e4f2f6ba01acbab56e9dbc1b18478abfe", func := "hypogeum/hypogeumlaw04.StretchKeys", spec := "stretchKeys", named := ["hypogeum/digest.rounds"], apart := false, laid := [("hypogeum/digest.rounds", laid_hypogeum_digest_rounds)], narrowed := true }
def StretchKeysUptoSaid : Prop := stretchKeysUptoRow.holds Tryd.pinned (OpenSpec.upto stretchKeysSpec)

/-- 'hypogeumlaw04.StretchBegins', WHERE WHAT IT READS IS OF BULK AT MOST 1048576: true; the input reads as it did. -/
def stretchBeginsUptoRow : OpenClaim := { program := "ytmmbonlidcbkcaadoor", sum := "220a7cfaf66c949bf162ba664c14a61e4f2f6ba01acbab56e9dbc1b18478abfe", func := "hypogeum/hypogeumlaw04.StretchBegins", spec := "stretchBegins", named := ["hypogeum/digest.rounds"], apart := false, laid := [("hypogeum/digest.rounds", laid_hypogeum_digest_rounds)], narrowed := true }
def StretchBeginsUptoSaid : Prop := stretchBeginsUptoRow.holds Tryd.pinned (OpenSpec.upto stretchBeginsSpec)

/-- 'hypogeumlaw04.StretchRounds', WHERE WHAT IT READS IS OF BULK AT MOST 1048576: true; the input reads as it did. -/
def stretchRoundsUptoRow : OpenClaim := { program := "ytmmbonlidcbkcaadoor", sum := "220a7cfaf66c949bf162ba664c14a61e4f2f6ba01acbab56e9dbc1b18478abfe", func := "hypogeum/hypogeumlaw04.StretchRounds", spec := "stretchRounds", named := ["hypogeum/digest.rounds"], apart := false, laid := [("hypogeum/digest.rounds", laid_hypogeum_digest_rounds)], narrowed := true }
def StretchRoundsUptoSaid : Prop := stretchRoundsUptoRow.holds Tryd.pinned (OpenSpec.upto stretchRoundsSpec)

/-- 'hypogeumlaw04.StretchWhole', WHERE WHAT IT READS IS OF BULK AT MOST 1048576: true; the input reads as it did. -/
def stretchWholeUptoRow : OpenClaim := { program := "ytmmbonlidcbkcaadoor", sum := "220a7cfaf66c949bf162ba664c14a61e4f2f6ba01acbab56e9dbc1b18478abfe", func := "hypogeum/hypogeumlaw04.StretchWhole", spec := "stretchWhole", named := ["hypogeum/digest.rounds"], apart := false, laid := [("hypogeum/digest.rounds", laid_hypogeum_digest_rounds)], narrowed := true }
def StretchWholeUptoSaid : Prop := stretchWholeUptoRow.holds Tryd.pinned (OpenSpec.upto stretchWholeSpec)

/-- 'hypogeumlaw09.LabelKeys', WHERE WHAT IT READS IS OF BULK AT MOST 1048576: true; the input reads as it did. -/
def labelKeysUptoRow : OpenClaim := { program := "ytmmbonlidcbkcaadoor", sum := "220a7cfaf66c949bf162ba664c14a61e4f2f6ba01acbab56e9dbc1b18478abfe", func := "hypogeum/hypogeumlaw09.LabelKeys", spec := "labelKeys", named := ["hypogeum/digest.rounds"], apart := false, laid := [("hypogeum/digest.rounds", laid_hypogeum_digest_rounds)], narrowed := true }
def LabelKeysUptoSaid : Prop := labelKeysUptoRow.holds Tryd.pinned (OpenSpec.upto labelKeysSpec)

/-- 'hypogeumlaw09.LabelNames', WHERE WHAT IT READS IS OF BULK AT MOST 1048576: true; the input reads as it did. -/
def labelNamesUptoRow : OpenClaim := { program := "ytmmbonlidcbkcaadoor", sum := "220a7cfaf66c949bf162ba664c14a61e4f2f6ba01acbab56e9dbc1b18478abfe", func := "hypogeum/hypogeumlaw09.LabelNames", spec := "labelNames", named := ["hypogeum/digest.rounds"], apart := false, laid := [("hypogeum/digest.rounds", laid_hypogeum_digest_rounds)], narrowed := true }
def LabelNamesUptoSaid : Prop := labelNamesUptoRow.holds Tryd.pinned (OpenSpec.upto labelNamesSpec)

/-- 'hypogeumlaw09.LabelRings', WHERE WHAT IT READS IS OF BULK AT MOST 1048576: true; the input reads as it did. -/
def labelRingsUptoRow : OpenClaim := { program := "ytmmbonlidcbkcaadoor", sum := "220a7cfaf66c949bf162ba664c14a61e4f2f6ba01acbab56e9dbc1b18478abfe", func := "hypogeum/hypogeumlaw09.LabelRings", spec := "labelRings", named := ["hypogeum/digest.rounds"], apart := false, laid := [("hypogeum/digest.rounds", laid_hypogeum_digest_rounds)], narrowed := true }
def LabelRingsUptoSaid : Prop := labelRingsUptoRow.holds Tryd.pinned (OpenSpec.upto labelRingsSpec)

/-- 'hypogeumlaw09.LabelNobody', WHERE WHAT IT READS IS OF BULK AT MOST 1048576: true; the input reads as it did. -/
def labelNobodyUptoRow : OpenClaim := { program := "ytmmbonlidcbkcaadoor", sum := "220a7cfaf66c949bf162ba664c14a61e4f2f6ba01acbab56e9dbc1b18478abfe", func := "hypogeum/hypogeumlaw09.LabelNobody", spec := "labelNobody", named := ["hypogeum/digest.rounds"], apart := false, laid := [("hypogeum/digest.rounds", laid_hypogeum_digest_rounds)], narrowed := true }
def LabelNobodyUptoSaid : Prop := labelNobodyUptoRow.holds Tryd.pinned (OpenSpec.upto labelNobodySpec)

end Rows
end Go.Proofs.YtmmbonlidcbkcaaDoor
