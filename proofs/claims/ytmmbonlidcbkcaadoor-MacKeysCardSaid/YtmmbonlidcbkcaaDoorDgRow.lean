/- A slice of slices of bytes that came in: what it reads as. -/
import Derived.Test.YtmmbonlidcbkcaaDoorDgA
import Derived.Deep.Matrix
namespace Go.Proofs.YtmmbonlidcbkcaaDoor.DgRow
open Go.RowKit Go.Proofs.YtmmbonlidcbkcaaDoorW.PrintWords Go.Proofs.YtmmbonlidcbkcaaDoor.Num Go.Proofs.YtmmbonlidcbkcaaDoor.WordC Go.Proofs.YtmmbonlidcbkcaaDoor.DgOf
theorem pt_nil (W : World) : Pt W none 0 0 [] := ⟨Nat.le_refl _, Kd.C_nil _ W⟩
theorem pt_open {W : World} {base : Nat} {x : Addr} {l c : Nat} {AA : Nat → Option Addr} {L C : Nat → Nat} {Z : Nat → List Int} (hl : l ≤ c) (hm : c ≤ maxLen)
    (hrows : ∀ r, r < c → W.cell? (x.add r) = some (.slice (AA r) (L r) (C r)) ∧ L r ≤ C r ∧ C r ≤ maxLen ∧ (Z r).length = C r ∧ (∀ n ∈ Z r, (Lit.int .u8 n).wf = true) ∧ (AA r = none → C r = 0) ∧
        ∀ a', AA r = some a' → base ≤ a'.block ∧ ∀ q, q < C r → W.cell? (a'.add q) = some (.int .u8 ((Z r).getD q 0))) : ∃ ll, Pt W (some x) l c ll ∧ ∀ y ∈ ll, IsB y := by
  unfold maxLen at hm
  refine ⟨(List.range l).map fun r => (Z r).take (L r), ⟨hl, ⟨by simp, by omega, fun hp => ⟨x, rfl, fun j p hj => ?_⟩⟩⟩, fun y hy => ?_⟩
  · rw [List.getElem?_map] at hj
    obtain ⟨r, hr, rfl⟩ := Option.map_eq_some_iff.1 hj
    have hjl : j < l := by have := (List.getElem?_eq_some_iff.1 hr).1; simpa using this
    obtain rfl : r = j := by rw [List.getElem?_range hjl] at hr; injection hr with hr; exact hr.symm
    obtain ⟨h1, h2, h3, h4, h5, h6, h7⟩ := hrows r (by omega)
    unfold maxLen at h3
    have htl : ((Z r).take (L r)).length = L r := by rw [List.length_take]; omega
    refine ⟨[.slice (AA r) (L r) (C r)], rfl, ⟨AA r, C r, by rw [htl], by rw [htl]; exact h2, Kd.C_of_reads (d := (0 : Int)) (h1 := fun _ => rfl) ⟨rfl, by rw [htl]; omega, fun hp2 => ?_⟩⟩, fun i u hu => ?_⟩
    · rw [htl] at hp2
      cases hA : AA r with
      | none => have := h6 hA; omega
      | some a' =>
        refine ⟨a', rfl, fun q hq => ?_⟩
        rw [htl] at hq
        rw [(h7 a' hA).2 q (by omega)]
        simp only [List.getD_eq_getElem?_getD]
        rw [List.getElem?_take_of_lt hq]
    · have hi : i = 0 := by
        have := (List.getElem?_eq_some_iff.1 hu).1
        simp at this; omega
      subst hi
      simp at hu
      subst hu
      have e : r * (Kd.slice 5 (Kd.int .u8)).sz + 0 = r := Nat.mul_one r
      rw [e]; exact h1
  · obtain ⟨r, hr, rfl⟩ := List.mem_map.1 hy
    have hjl := List.mem_range.1 hr
    obtain ⟨h1, h2, h3, h4, h5, _⟩ := hrows r (by omega)
    exact fun z hz => wf_u8 (h5 z (List.mem_of_mem_take hz))
end Go.Proofs.YtmmbonlidcbkcaaDoor.DgRow
