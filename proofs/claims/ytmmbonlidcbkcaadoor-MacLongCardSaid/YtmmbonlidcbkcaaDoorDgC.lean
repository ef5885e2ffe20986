/- Contracts of the leaves of the digest. -/
import Derived.Test.YtmmbonlidcbkcaaDoorPlainLabelRings
import Derived.Test.YtmmbonlidcbkcaaDoorApp
import Derived.Test.YtmmbonlidcbkcaaDoorSha
namespace Go.Proofs.YtmmbonlidcbkcaaDoor.DgC
open Go.RowKit Go.Proofs.YtmmbonlidcbkcaaDoorW.PrintWords Go.Proofs.YtmmbonlidcbkcaaDoor.Num Go.Proofs.YtmmbonlidcbkcaaDoor.Sha Go.Proofs.YtmmbonlidcbkcaaDoor.WordC Go.Proofs.YtmmbonlidcbkcaaDoor.Arr Go.Proofs.YtmmbonlidcbkcaaDoor.App
set_option linter.unusedVariables false

theorem Load_c {A : Option Addr} {n c : Nat} {l : List Int} {w : World} (hr : Rd w A n c l) (hb : IsB l) (low : Bool) :
    Calls Tryd.prog 90 #[.slice A n c, .bool low] w fun e w' => e = .returned (.tuple #[.int .u32 (loadW l low).1, .int .i64 (loadW l low).2]) ∧ Drawn0 w w' := by
  obtain ⟨rfl, hc, hC⟩ := hr
  exact PLabelRings.word_Load.calls 5 A c l low _ _ w hC hc (PlainLabelRings.Load_eq l hb low 5 (by omega))
theorem late_c {a : Int} {w : World} (h0 : 0 ≤ a) (h1 : a < 4294967296) : Calls Tryd.prog 91 #[.int .u32 a] w fun e w' => e = .returned (.int .u32 (lateS a)) ∧ Drawn0 w w' := PLabelRings.digest_late.calls a _ w (PlainLabelRings.late_eq a h0 h1)
theorem early_c {a : Int} {w : World} (h0 : 0 ≤ a) (h1 : a < 4294967296) : Calls Tryd.prog 92 #[.int .u32 a] w fun e w' => e = .returned (.int .u32 (earlyS a)) ∧ Drawn0 w w' := PLabelRings.digest_early.calls a _ w (PlainLabelRings.early_eq a h0 h1)
theorem high_c {a : Int} {w : World} (h0 : 0 ≤ a) (h1 : a < 4294967296) : Calls Tryd.prog 85 #[.int .u32 a] w fun e w' => e = .returned (.int .u32 (highS a)) ∧ Drawn0 w w' := PLabelRings.digest_high.calls a _ w (PlainLabelRings.high_eq a h0 h1)
theorem low_c {a : Int} {w : World} (h0 : 0 ≤ a) (h1 : a < 4294967296) : Calls Tryd.prog 86 #[.int .u32 a] w fun e w' => e = .returned (.int .u32 (lowS a)) ∧ Drawn0 w w' := PLabelRings.digest_low.calls a _ w (PlainLabelRings.low_eq a h0 h1)
theorem Store_c {a : Int} {w : World} (h0 : 0 ≤ a) (h1 : a < 4294967296) (low : Bool) :
    Calls Tryd.prog 71 #[.int .u32 a, .bool low] w fun e w' => ∃ v, e = .returned v ∧ Ow w' w.heap.size v (storeW a low) ∧ Below w.heap.size w w' :=
  PLabelRings.word_Store.calls 5 a low _ w (PlainLabelRings.Store_eq a h0 h1 low 5 (by omega))
theorem refStore_c {a : Int} {w : World} (h0 : 0 ≤ a) (h1 : a < 4294967296) (low : Bool) :
    Calls Tryd.prog 68 #[.int .u32 a, .bool low] w fun e w' => ∃ v, e = .returned v ∧ Ow w' w.heap.size v (storeW a low) ∧ Below w.heap.size w w' :=
  PLabelRings.hypogeumref01_Store.calls 2002 a low _ w (PlainLabelRings.refStore_eq a h0 h1 low 2002 (by omega))
theorem Tell_c {a : Int} {w : World} (h0 : 0 ≤ a) (h1 : a < 18446744073709551616) :
    Calls Tryd.prog 70 #[.int .u64 a] w fun e w' => ∃ v, e = .returned v ∧ Ow w' w.heap.size v (told 8 a) ∧ Below w.heap.size w w' :=
  PLabelRings.word_Tell.calls 9 a _ w (PlainLabelRings.Tell_eq a h0 h1 9 (by omega))
theorem Told_c {a : Int} {w : World} (h0 : 0 ≤ a) (h1 : a < 18446744073709551616) (sz : Nat) (hs : sz ≤ 1000) {z : Int} (hz : z = sz) :
    Calls Tryd.prog 47 #[.int .u64 a, .int .i64 z] w fun e w' => ∃ v, e = .returned v ∧ Ow w' w.heap.size v (told sz a) ∧ Below w.heap.size w w' := by
  subst hz
  exact PLabelRings.hypogeumref01_Told.calls 2002 a sz _ w (PlainLabelRings.Told_eq a h0 h1 sz hs 2002 (by omega))
theorem right_c {a n : Int} {w : World} (h0 : 0 ≤ a) (h1 : a < 4294967296) (hn : 0 ≤ n ∧ n ≤ 64) : Calls Tryd.prog 83 #[.int .u32 a, .int .i64 n] w fun e w' => e = .returned (.int .u32 (turn a (-n))) ∧ Drawn0 w w' := PLabelRings.hypogeumref02_right.calls 34 a n _ w (PlainLabelRings.right_eq a n h0 h1 hn 34 (by omega))
/-- A slice of words of the call's own. -/
abbrev OwW (w : World) (base : Nat) (v : Value) (l : List Int) : Prop := Kd.R (Kd.int .u32) 88 w base (fun _ => True) v l
theorem refwords_c {A : Option Addr} {c : Nat} {l : List Int} {w : World} (hr : Rd w A 64 c l) (hb : IsB l) :
    Calls Tryd.prog 81 #[.slice A 64 c] w fun e w' => ∃ v, e = .returned v ∧ OwW w' w.heap.size v (schedS l) ∧ Below w.heap.size w w' := by
  obtain ⟨hl, hc, hC⟩ := hr
  have := PLabelRings.hypogeumref02_words.calls 300 A c l _ w (by rw [hl]; exact hC) (by omega) (PlainLabelRings.words_eq l hb hl 300 (by omega))
  rwa [hl] at this
theorem keys_c {w : World} : Calls Tryd.prog 82 #[] w fun e w' => ∃ v, e = .returned v ∧ OwW w' w.heap.size v keysS ∧ Below w.heap.size w w' := PLabelRings.hypogeumref02_keys.calls _ w rfl
theorem first_c {w : World} : Calls Tryd.prog 66 #[] w fun e w' => ∃ v, e = .returned v ∧ OwW w' w.heap.size v first8.list ∧ Below w.heap.size w w' := PLabelRings.hypogeumref02_first.calls _ w rfl
theorem Join_c {A A' : Option Addr} {n n' c c' : Nat} {l l' : List Int} {w : World} (hr : Rd w A n c l) (hr' : Rd w A' n' c' l') (h : n + n' < 140737488355328) :
    Calls Tryd.prog 33 #[.slice A n c, .slice A' n' c'] w fun e w' => ∃ v, e = .returned v ∧ Ow w' w.heap.size v (l ++ l') ∧ Below w.heap.size w w' := by
  obtain ⟨rfl, hc, hC⟩ := hr
  obtain ⟨rfl, hc', hC'⟩ := hr'
  exact PLabelRings.hypogeumref02_Join.calls A c l A' c' l' _ w hC hc hC' hc' (PlainLabelRings.Join_eq l l' h)
end Go.Proofs.YtmmbonlidcbkcaaDoor.DgC
