/- Contracts of the word functions, each in one line: what they return, told by the plain words of Num; what becomes of memory. -/
import Derived.Test.YtlaoodlfkcnnnaaRd
import Derived.Test.YtlaoodlfkcnnnaaPlainWordLoads
import Derived.Test.YtlaoodlfkcnnnaaPlainWordStores
namespace Go.Proofs.Ytlaoodlfkcnnnaa.WordC
open Go.RowKit Go.Proofs.YtlaoodlfkcnnnaaW.PrintWords Go.Proofs.Ytlaoodlfkcnnnaa.Num
set_option linter.unusedVariables false

theorem own01_c {A : Option Addr} {n c : Nat} {l : List Int} {w : World} (hr : Rd w A n c l) (hn : n ≤ 140737488351232) :
    Calls Try.prog 15 #[.slice A n c] w fun e w' => ∃ v, e = .returned v ∧ Ow w' w.heap.size v l ∧ Below w.heap.size w w' := by
  obtain ⟨rfl, hc, hC⟩ := hr
  exact PWordLoads.hypogeumlaw01_own.calls A c l l w hC hc (PlainWordLoads.own_eq l hn)
theorem Load_c {A : Option Addr} {n c : Nat} {l : List Int} {w : World} (hr : Rd w A n c l) (hb : IsB l) (low : Bool) :
    Calls Try.prog 16 #[.slice A n c, .bool low] w fun e w' => e = .returned (.tuple #[.int .u32 (loadW l low).1, .int .i64 (loadW l low).2]) ∧ Drawn0 w w' := by
  obtain ⟨rfl, hc, hC⟩ := hr
  exact PWordLoads.word_Load.calls 5 A c l low _ _ w hC hc (PlainWordLoads.Load_eq l hb low 5 (by omega))
theorem Long_c {A : Option Addr} {n c : Nat} {l : List Int} {w : World} (hr : Rd w A n c l) (hb : IsB l) :
    Calls Try.prog 18 #[.slice A n c] w fun e w' => e = .returned (.tuple #[.int .u64 (longW l).1, .int .i64 (longW l).2]) ∧ Drawn0 w w' := by
  obtain ⟨rfl, hc, hC⟩ := hr
  exact PWordLoads.word_Long.calls 9 A c l _ _ w hC hc (PlainWordLoads.Long_eq l hb 9 (by omega))
theorem refLoad_c {A : Option Addr} {n c : Nat} {l : List Int} {w : World} (hr : Rd w A n c l) (hb : IsB l) (low : Bool) :
    Calls Try.prog 17 #[.slice A n c, .bool low] w fun e w' => e = .returned (.tuple #[.int .u32 (loadW l low).1, .int .i64 (loadW l low).2]) ∧ Below w.heap.size w w' := by
  obtain ⟨rfl, hc, hC⟩ := hr
  exact PWordLoads.hypogeumref01_Load.calls 5 A c l low _ _ w hC hc (PlainWordLoads.refLoad_eq l hb low 5 (by omega))
theorem refLong_c {A : Option Addr} {n c : Nat} {l : List Int} {w : World} (hr : Rd w A n c l) (hb : IsB l) :
    Calls Try.prog 19 #[.slice A n c] w fun e w' => e = .returned (.tuple #[.int .u64 (longW l).1, .int .i64 (longW l).2]) ∧ Drawn0 w w' := by
  obtain ⟨rfl, hc, hC⟩ := hr
  exact PWordLoads.hypogeumref01_Long.calls 9 A c l _ _ w hC hc (PlainWordLoads.refLong_eq l hb 9 (by omega))
theorem Back_c {A : Option Addr} {n c : Nat} {l : List Int} {w : World} (hr : Rd w A n c l) (hn : n ≤ 140737488351232) :
    Calls Try.prog 43 #[.slice A n c] w fun e w' => ∃ v, e = .returned v ∧ Ow w' w.heap.size v l.reverse ∧ Below w.heap.size w w' := by
  obtain ⟨rfl, hc, hC⟩ := hr
  exact PWordLoads.hypogeumref01_Back.calls (l.length + 1) A c l _ w hC hc (PlainWordLoads.Back_eq l hn _ (by omega))
theorem Turn_c {a : Int} (n : Int) {w : World} (h0 : 0 ≤ a) (h1 : a < 4294967296) :
    Calls Try.prog 21 #[.int .u32 a, .int .i64 n] w fun e w' => e = .returned (.int .u32 (turn a n)) ∧ Drawn0 w w' :=
  PWordLoads.word_Turn.calls a n _ w (PlainWordLoads.Turn_eq a n h0 h1)
theorem Store_c {a : Int} {w : World} (h0 : 0 ≤ a) (h1 : a < 4294967296) (low : Bool) :
    Calls Try.prog 33 #[.int .u32 a, .bool low] w fun e w' => ∃ v, e = .returned v ∧ Ow w' w.heap.size v (storeW a low) ∧ Below w.heap.size w w' :=
  PWordStores.word_Store.calls 5 a low _ w (PlainWordStores.Store_eq a h0 h1 low 5 (by omega))
theorem refStore_c {a : Int} {w : World} (h0 : 0 ≤ a) (h1 : a < 4294967296) (low : Bool) :
    Calls Try.prog 34 #[.int .u32 a, .bool low] w fun e w' => ∃ v, e = .returned v ∧ Ow w' w.heap.size v (storeW a low) ∧ Below w.heap.size w w' :=
  PWordStores.hypogeumref01_Store.calls 2002 a low _ w (PlainWordStores.refStore_eq a h0 h1 low 2002 (by omega))
theorem Tell_c {a : Int} {w : World} (h0 : 0 ≤ a) (h1 : a < 18446744073709551616) :
    Calls Try.prog 35 #[.int .u64 a] w fun e w' => ∃ v, e = .returned v ∧ Ow w' w.heap.size v (told 8 a) ∧ Below w.heap.size w w' :=
  PWordStores.word_Tell.calls 9 a _ w (PlainWordStores.Tell_eq a h0 h1 9 (by omega))
theorem Told_c {a : Int} {w : World} (h0 : 0 ≤ a) (h1 : a < 18446744073709551616) (sz : Nat) (hs : sz ≤ 1000) {z : Int} (hz : z = sz) :
    Calls Try.prog 36 #[.int .u64 a, .int .i64 z] w fun e w' => ∃ v, e = .returned v ∧ Ow w' w.heap.size v (told sz a) ∧ Below w.heap.size w w' := by
  subst hz
  exact PWordStores.hypogeumref01_Told.calls 2002 a sz _ w (PlainWordStores.Told_eq a h0 h1 sz hs 2002 (by omega))
theorem awake01_c {w : World} : Calls Try.prog 20 #[] w fun e w' => e = .returned (.bool true) ∧ Below w.heap.size w w' :=
  PWordLoads.hypogeumlaw01_awake.calls 9 _ w (PlainWordLoads.awake_eq 9 (by omega))
end Go.Proofs.Ytlaoodlfkcnnnaa.WordC
