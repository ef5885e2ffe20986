/- digest.Of, walked: the sum of all parts, one behind the other. -/
import Derived.Test.YtmmbonlidcbkcaaDoorDgSum
namespace Go.Proofs.YtmmbonlidcbkcaaDoor.DgOf
open Go.RowKit Go.Proofs.YtmmbonlidcbkcaaDoorW.PrintWords Go.Proofs.YtmmbonlidcbkcaaDoor.Num Go.Proofs.YtmmbonlidcbkcaaDoor.Sha Go.Proofs.YtmmbonlidcbkcaaDoor.WordC Go.Proofs.YtmmbonlidcbkcaaDoor.Arr Go.Proofs.YtmmbonlidcbkcaaDoor.App Go.Proofs.YtmmbonlidcbkcaaDoor.DgC Go.Proofs.YtmmbonlidcbkcaaDoor.DgWords Go.Proofs.YtmmbonlidcbkcaaDoor.DgBlock Go.Proofs.YtmmbonlidcbkcaaDoor.DgState Go.Proofs.YtmmbonlidcbkcaaDoor.DgAdd Go.Proofs.YtmmbonlidcbkcaaDoor.DgSum
set_option linter.unusedVariables false
set_option linter.unusedSimpArgs false

/-- A slice of slices of bytes that is read. -/
structure Pt (w : World) (A : Option Addr) (n c : Nat) (ll : List (List Int)) : Prop where
  cap : n ≤ c
  rows : Kd.C (Kd.slice 5 (Kd.int .u8)) w A n ll
theorem Pt.len {w : World} {A : Option Addr} {n c : Nat} {ll : List (List Int)} (h : Pt w A n c ll) : ll.length = n := Kd.C_len h.rows
theorem Pt.below {w w1 : World} {A : Option Addr} {n c : Nat} {ll : List (List Int)} (h : Pt w A n c ll) (hb : Below w.heap.size w w1) : Pt w1 A n c ll := ⟨h.cap, Kd.C_below h.rows hb⟩
theorem Pt.at_ {w : World} {A : Option Addr} {n c : Nat} {ll : List (List Int)} (h : Pt w A n c ll) (i : Nat) (hi : i < n) :
    ∃ ad Ai ci, A = some ad ∧ w.cell? (ad.add i) = some (.slice Ai (ll.getD i []).length ci) ∧ Rd w Ai (ll.getD i []).length ci (ll.getD i []) := by
  obtain ⟨ad, cs, e, hl, ⟨Ai, ci, rfl, hc, hC⟩, hcell⟩ := Kd.C_get h.rows [] (i : Int) (by omega) (by omega)
  simp only [Int.toNat_natCast] at hcell hC hc
  refine ⟨ad, Ai, ci, e, ?_, rfl, hc, hC⟩
  have := hcell 0 _ rfl
  have e1 : i * (Kd.slice 5 (Kd.int .u8)).sz + 0 = i := Nat.mul_one i
  rwa [e1] at this
theorem flat_take (ll : List (List Int)) (i : Nat) (h : i < ll.length) : (ll.take (i + 1)).flatten = (ll.take i).flatten ++ ll.getD i [] := by
  rw [List.take_add_one, List.flatten_append, List.getElem?_eq_getElem h, List.getD_eq_getElem?_getD, List.getElem?_eq_getElem h]; simp
theorem flat_le (ll : List (List Int)) (i : Nat) : (ll.take i).flatten.length ≤ ll.flatten.length := by
  have := congrArg List.length (congrArg List.flatten (List.take_append_drop i ll))
  rw [List.flatten_append, List.length_append] at this
  omega
theorem part_isB {ll : List (List Int)} (h : ∀ l ∈ ll, IsB l) (i : Nat) : IsB (ll.getD i []) := by
  rw [List.getD_eq_getElem?_getD]
  rcases Nat.lt_or_ge i ll.length with hl | hl
  · rw [List.getElem?_eq_getElem hl]; exact h _ (List.getElem_mem hl)
  · rw [List.getElem?_eq_none hl]; intro x hx; cases hx
set_option maxHeartbeats 8000000 in
set_option maxRecDepth 100000 in
theorem Of_c {A : Option Addr} {n c : Nat} {ll : List (List Int)} {w : World} (hP : Pt w A n c ll) (hB : ∀ l ∈ ll, IsB l) (hl : ll.flatten.length ≤ 140737488351232) (ht : Tb w) :
    Calls Tryd.prog 26 #[.slice A n c] w fun e w' => e = .returned (.agg (nums .u8 (shaS ll.flatten)).toArray) ∧ Below w.heap.size w w' := by
  have hln := hP.len
  have hn63 : n ≤ 9223372036854775807 := Kd.C_max hP.rows
  have HLN := Aside0.mk hln
  clear hln
  go_enter Tryd.func26, Tryd.ntmps26
  go_wp2_with fail
  generalize hW : w.alloc _ = W0
  have hB0 : Below w.heap.size w W0 := by rw [← hW]; exact (Below.refl _ w).alloc (Nat.le_refl _) _
  have hO : Aside0 (Blk W0 w.heap.size 27 (nums .u8 (List.replicate 32 0))) := ⟨by rw [← hW]; exact heap_alloc_new _ _⟩
  clear hW
  have ht0 := ht.below hB0
  have hP0 := hP.below hB0
  have hz0 := Blk.lt hO.out
  refine New_c.mono ?_
  rintro x w1 ⟨g, rfl, hS1, hb1⟩
  have HS1 : St w1 W0.heap.size g (.slice none 0 0) (ll.take 0).flatten := hS1
  have HP := Aside0.mk hP0
  have HB := Aside0.mk hB
  clear hP hP0 hS1 ht hB
  go_wp2_with fail
  go_loopw [9] (fun i wr => ∃ (j : Nat) (v : Value), j ≤ n ∧ i = .int .i64 j ∧ Aside0 (St wr W0.heap.size g v (ll.take j).flatten) ∧ Below W0.heap.size W0 wr) (fun i _ => n - (intOf i).toNat)
  case atStart => exact ⟨0, _, by omega, rfl, ⟨HS1⟩, hb1⟩
  case round =>
    clear HS1 hb1
    obtain ⟨j, v, hj, rfl, hS, hb⟩ := hrel
    by_cases hlt : j < n
    · have hlt' : (j : Int) < (n : Int) := by omega
      obtain ⟨ad, Ai, ci, rfl, hcell, hrd⟩ := (HP.out.below hb).at_ j hlt
      have hnext := flat_take ll j (by have := HLN.out; omega)
      have hle := flat_le ll (j + 1)
      rw [hnext, List.length_append] at hle
      have hIB := part_isB HB.out j
      obtain ⟨p, HPP⟩ : ∃ p, Aside0 (ll.getD j [] = p) := ⟨_, ⟨rfl⟩⟩
      rw [HPP.out] at hnext hle hIB hrd hcell
      have HNEXT := Aside0.mk hnext
      obtain ⟨q, HQ⟩ : ∃ q, Aside0 (p.length = q) := ⟨_, ⟨rfl⟩⟩
      rw [HQ.out] at hle hrd hcell
      clear hnext
      go_wp2_with fail
      refine (Add_c hS.out hrd hIB (ht0.below hb) (by omega) hb.size (by omega)).mono ?_
      rintro x w2 ⟨rfl, v2, hS2, hF2, hat2⟩
      have hb2 := hF2.below hb hb.size hS.out.ge hS.out.row_ge
      rw [← HNEXT.out] at hS2
      have HS2 := Aside0.mk hS2
      clear hS2 hF2 hat2
      go_wp2_with fail
      go_roundw
      case rel => exact ⟨j + 1, v2, by omega, by go_num, HS2, hb2⟩
      case measure => simp [intOf]; omega
    · have hge : ¬ (j : Int) < (n : Int) := by omega
      have hjn : j = n := by omega
      have hS' := hS.out
      rw [hjn, List.take_of_length_le (by rw [HLN.out]; omega)] at hS'
      have HS' := Aside0.mk hS'
      clear hS' hjn hS
      go_wp2_with fail
      refine (Sum_c HS'.out (ht0.below hb) hl).mono ?_
      rintro x w2 ⟨rfl, hb2⟩
      have hb3 := below_next hb hb2
      have hO3 := Blk.below hO.out hb3
      have hl32 := shaS_length ll.flatten
      obtain ⟨S, HS⟩ : ∃ S, Aside0 (shaS ll.flatten = S) := ⟨_, ⟨rfl⟩⟩
      rw [HS.out] at hl32
      rw [HS.out]
      have HL32 := Aside0.mk hl32
      clear hl32
      go_wp2_with (first
        | (refine store_arr rfl 27 (.tmp 2) (.tmp 18) rfl w.heap.size .u8 S rfl rfl 27 32 _ hO3 size27 HL32.out (by rw [nums_length]; rfl) ?_; intro w12 hO12 hg12; have HO12 := Aside0.mk hO12; clear hO12))
      have hbb : Below w.heap.size w w2 := hB0.trans (hb3.mono hB0.size)
      refine bodyPost_ret (v := .agg (nums .u8 S).toArray) ?_ rfl ⟨by rw [HS.out], hbb.grown hg12 hbb.size (fun k hk => by cases hk; exact Nat.le_refl _)⟩
      refine results_arr (p := 2) (ty := 27) (h := ?_) (g := w.heap.size) (t := 27) (n := 32) (e := 5) (k := .u8) (l := S) (hp := ?_) (hg := HO12.out) (hu := Tryd.underlying27) (hi := size27) (hl := HL32.out) ..
      · rfl
      · rfl
end Go.Proofs.YtmmbonlidcbkcaaDoor.DgOf
