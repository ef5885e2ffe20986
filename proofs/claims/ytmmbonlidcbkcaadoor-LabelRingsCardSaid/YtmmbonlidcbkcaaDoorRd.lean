/- Slices of bytes: what they read as. -/
import Derived.Test.YtmmbonlidcbkcaaDoorNum
import Derived.Test.YtmmbonlidcbkcaaDoorProg
import Derived.WalkKit
import Derived.KernelRfl
import Derived.Test.YtmmbonlidcbkcaaDoorWWords
import Derived.Test.YtmmbonlidcbkcaaDoorWLast
import Derived.Test.YtmmbonlidcbkcaaDoorWMore
namespace Go.Proofs.YtmmbonlidcbkcaaDoor.WordC
open Go.RowKit Go.Proofs.YtmmbonlidcbkcaaDoorW.PrintWords Go.Proofs.YtmmbonlidcbkcaaDoor.Num
set_option linter.unusedVariables false

/-- A slice's value that reads as these bytes. -/
structure Rd (w : World) (A : Option Addr) (n c : Nat) (l : List Int) : Prop where
  len : l.length = n
  cap : n ≤ c
  cells : Kd.C (Kd.int .u8) w A n l
/-- .. that is made of bytes. -/
theorem Rd.below {w w1 : World} {A : Option Addr} {n c : Nat} {l : List Int} (h : Rd w A n c l) (hb : Below w.heap.size w w1) : Rd w1 A n c l := ⟨h.len, h.cap, Kd.C_below h.cells hb⟩
theorem Rd.drewN {w : World} {A : Option Addr} {n c : Nat} {l : List Int} (h : Rd w A n c l) (k : Nat) : Rd (w.drewN k) A n c l := ⟨h.len, h.cap, Kd.C_drewN h.cells k⟩
theorem Rd.drew {w : World} {A : Option Addr} {n c : Nat} {l : List Int} (h : Rd w A n c l) : Rd w.drew A n c l := ⟨h.len, h.cap, Kd.C_drew h.cells⟩
theorem Rd.alloc {w : World} {A : Option Addr} {n c : Nat} {l : List Int} (h : Rd w A n c l) (o : Obj) : Rd (w.alloc o) A n c l := ⟨h.len, h.cap, Kd.C_alloc h.cells o⟩
/-- A slice of the call's own: where it lies, and what it reads as. -/
abbrev Ow (w : World) (base : Nat) (v : Value) (l : List Int) : Prop := Kd.R (Kd.int .u8) 5 w base (fun _ => True) v l
theorem rd_of_own {w : World} {base : Nat} {v : Value} {l : List Int} (h : Ow w base v l) : ∃ A c, v = .slice A l.length c ∧ Rd w A l.length c l := by
  obtain ⟨A, c, rfl⟩ := Kd.R_slice h
  have := Kd.R_reads' h
  exact ⟨A, c, rfl, rfl, this.2.1, this.2.2⟩
theorem below_drewN' {B : Nat} {w w1 : World} (h : Below B w w1) (n : Nat) : Below B w (w1.drewN n) := pw_below_drewN h n

/-- One step more. -/
theorem below_next {w w1 w2 : World} (h : Below w.heap.size w w1) (k : Below w1.heap.size w1 w2) : Below w.heap.size w w2 := h.trans (k.mono h.size)
theorem below_drawn {w w1 w2 : World} (h : Below w.heap.size w w1) (k : Drawn0 w1 w2) : Below w.heap.size w w2 := by
  obtain ⟨n, rfl⟩ := k
  exact pw_below_drewN h n
/-- What a slice of bytes is as a string. -/
theorem rd_string {w : World} {A : Option Addr} {n c : Nat} {l : List Int} (h : Rd w A n c l) : (convert 22 9 (.slice A n c)).run Tryd.prog w = .ok (.string (strOfNums l)) w :=
  Kd.C_string (P := Tryd.prog) Tryd.underlying22 Tryd.underlying5 Tryd.underlying9 h.cells
end Go.Proofs.YtmmbonlidcbkcaaDoor.WordC
