/- What the statements of the digest lean on: bytes of their own, a sum held against bytes, a sum that is fixed. -/
import Derived.Test.YtmmbonlidcbkcaaDoorDgOf
import Derived.Test.YtmmbonlidcbkcaaDoorDgCopy
import Derived.Test.YtmmbonlidcbkcaaDoorRefOf
import Derived.Lib.SlBytesConst
namespace Go.Proofs.YtmmbonlidcbkcaaDoor.DgLaw
open Go.RowKit Go.Proofs.YtmmbonlidcbkcaaDoorW.PrintWords Go.Proofs.YtmmbonlidcbkcaaDoor.Num Go.Proofs.YtmmbonlidcbkcaaDoor.Sha Go.Proofs.YtmmbonlidcbkcaaDoor.WordC Go.Proofs.YtmmbonlidcbkcaaDoor.Arr Go.Proofs.YtmmbonlidcbkcaaDoor.App Go.Proofs.YtmmbonlidcbkcaaDoor.DgC Go.Proofs.YtmmbonlidcbkcaaDoor.DgBlock Go.Proofs.YtmmbonlidcbkcaaDoor.DgState Go.Proofs.YtmmbonlidcbkcaaDoor.DgAdd Go.Proofs.YtmmbonlidcbkcaaDoor.DgSum Go.Proofs.YtmmbonlidcbkcaaDoor.DgOf Go.Proofs.YtmmbonlidcbkcaaDoor.DgWords
set_option linter.unusedVariables false
set_option linter.unusedSimpArgs false

theorem pt_blk {w : World} {g t : Nat} {cs : List Value} {ll : List (List Int)} {n : Nat} (hg : Blk w g t cs) (hn : ll.length = n) (hm : n ≤ 9223372036854775807)
    (h : ∀ i, i < n → ∃ A c, cs[i]? = some (.slice A (ll.getD i []).length c) ∧ Rd w A (ll.getD i []).length c (ll.getD i [])) : Pt w (some ⟨g, 0, none⟩) n n ll := by
  refine ⟨Nat.le_refl _, hn, hm, fun hp => ⟨_, rfl, fun j p hj => ?_⟩⟩
  have hjl : j < ll.length := (List.getElem?_eq_some_iff.1 hj).1
  have hp' : ll.getD j [] = p := by rw [List.getD_eq_getElem?_getD, hj]; rfl
  obtain ⟨A, c, hc, hr⟩ := h j (by omega)
  rw [hp'] at hc hr
  refine ⟨[.slice A p.length c], rfl, ⟨A, c, rfl, hr.cap, hr.cells⟩, fun i u hu => ?_⟩
  have hi : i = 0 := by
    have := (List.getElem?_eq_some_iff.1 hu).1
    simp at this; omega
  subst hi
  simp at hu
  subst hu
  rw [add_plain]
  have e : j * (Kd.slice 5 (Kd.int .u8)).sz + 0 = j := Nat.mul_one j
  rw [e, Blk.cell hg j]; exact hc
theorem pt_one {w : World} {A : Option Addr} {n c : Nat} {l : List Int} (h : Rd w A n c l) : Pt (w.alloc (.cells #[.slice A n c] 22)) (some ⟨w.heap.size, 0, none⟩) 1 1 [l] := by
  refine pt_blk (t := 22) (cs := [.slice A n c]) (heap_alloc_new _ _) rfl (by omega) (fun i hi => ?_)
  obtain rfl : i = 0 := by omega
  obtain rfl := h.len
  exact ⟨A, c, rfl, h.alloc _⟩
theorem pt_two {w : World} {A A' : Option Addr} {n c n' c' : Nat} {l l' : List Int} (h : Rd w A n c l) (h' : Rd w A' n' c' l') : Pt (w.alloc (.cells #[.slice A n c, .slice A' n' c'] 22)) (some ⟨w.heap.size, 0, none⟩) 2 2 [l, l'] := by
  refine pt_blk (t := 22) (cs := [.slice A n c, .slice A' n' c']) (heap_alloc_new _ _) rfl (by omega) (fun i hi => ?_)
  obtain rfl := h.len
  obtain rfl := h'.len
  have : i = 0 ∨ i = 1 := by omega
  rcases this with rfl | rfl
  · exact ⟨A, c, rfl, h.alloc _⟩
  · exact ⟨A', c', rfl, h'.alloc _⟩
theorem isB_two {l l' : List Int} (h : IsB l) (h' : IsB l') : ∀ x ∈ [l, l'], IsB x := by
  intro x hx
  simp only [List.mem_cons, List.not_mem_nil, or_false] at hx
  rcases hx with rfl | rfl
  · exact h
  · exact h'
theorem isB_one {l : List Int} (h : IsB l) : ∀ x ∈ [l], IsB x := by
  intro x hx
  rw [List.mem_singleton.1 hx]; exact h
theorem flat_one (l : List Int) : [l].flatten = l := by simp
theorem flat_two (l l' : List Int) : [l, l'].flatten = l ++ l' := by simp
/-- One part. -/
theorem Of1_c {A : Option Addr} {n c : Nat} {k : Nat} {l : List Int} {w : World} (hk : k = w.heap.size) (hr : Rd w A n c l) (hB : IsB l) (hl : n ≤ 140737488351232) (ht : Tb w) :
    Calls Tryd.prog 26 #[.slice (some ⟨k, 0, none⟩) 1 1] (w.alloc (.cells #[.slice A n c] 22)) fun e w' => e = .returned (.agg (nums .u8 (shaS l)).toArray) ∧ Below w.heap.size w w' := by
  subst hk
  refine (Of_c (pt_one hr) (isB_one hB) (by rw [flat_one, hr.len]; exact hl) (ht.below (below_alloc (Below.refl _ _) _))).mono ?_
  rintro e w' ⟨rfl, hb⟩
  rw [flat_one]
  exact ⟨rfl, ((Below.refl _ w).alloc (Nat.le_refl _) _).trans (hb.mono (by simp))⟩
theorem Of2_c {A A' : Option Addr} {n c n' c' : Nat} {k : Nat} {l l' : List Int} {w : World} (hk : k = w.heap.size) (hr : Rd w A n c l) (hr' : Rd w A' n' c' l') (hB : IsB l) (hB' : IsB l') (hl : n + n' ≤ 140737488351232) (ht : Tb w) :
    Calls Tryd.prog 26 #[.slice (some ⟨k, 0, none⟩) 2 2] (w.alloc (.cells #[.slice A n c, .slice A' n' c'] 22)) fun e w' => e = .returned (.agg (nums .u8 (shaS (l ++ l'))).toArray) ∧ Below w.heap.size w w' := by
  subst hk
  refine (Of_c (pt_two hr hr') (isB_two hB hB') (by rw [flat_two, List.length_append, hr.len, hr'.len]; exact hl) (ht.below (below_alloc (Below.refl _ _) _))).mono ?_
  rintro e w' ⟨rfl, hb⟩
  rw [flat_two]
  exact ⟨rfl, ((Below.refl _ w).alloc (Nat.le_refl _) _).trans (hb.mono (by simp))⟩
set_option maxHeartbeats 1000000 in
theorem own_c {A : Option Addr} {n c : Nat} {l : List Int} {w : World} (hr : Rd w A n c l) (hn : n ≤ 140737488351232) :
    Calls Tryd.prog 24 #[.slice A n c] w fun e w' => ∃ v, e = .returned v ∧ Ow w' w.heap.size v l ∧ Below w.heap.size w w' := by
  have hrA := hr.alloc (.cells #[] 5)
  have hbE : Below w.heap.size w (w.alloc (.cells #[] 5)) := (Below.refl _ _).alloc (Nat.le_refl _) _
  go_enter Tryd.func24, Tryd.ntmps24
  go_wp2_with (first
    | (at_builtin; refine append_ow (w0 := w) w.heap.size rfl (.tmp 3) (.tmp 4) rfl (.slice (some ⟨w.heap.size, 0, none⟩) 0 0) [] l A n c rfl rfl (ow_empty w _ (Nat.le_refl _)) hrA hbE (by simp) (by simp; omega) ?_; intro v1 w1 ho1 hb1 hx1 hy1; clear hx1 hy1; rw [List.nil_append] at ho1; have HO := Aside0.mk ho1; clear ho1))
  go_ret
  exact ⟨_, rfl, HO.out, hb1⟩
theorem rd_blk32 {w : World} {g t : Nat} {S : List Int} (h : Blk w g t (nums .u8 S)) (hl : S.length = 32) : Rd w (some ⟨g, 0, none⟩) 32 32 S := by
  have := rd_of_blk (t := t) (cs := nums .u8 S) h 0 S 32 (by omega) (by omega) (fun j hj => by rw [Nat.zero_add]; exact nums_get .u8 S j hj)
  rw [hl] at this; exact this
set_option maxHeartbeats 2000000 in
set_option maxRecDepth 100000 in
theorem is_c {A : Option Addr} {n c : Nat} {l S : List Int} {w : World} (hr : Rd w A n c l) (hB : IsB l) (hS : IsB S) (hl : S.length = 32) :
    Calls Tryd.prog 25 #[.agg (nums .u8 S).toArray, .slice A n c] w fun e w' => e = .returned (.bool (eqB S l)) ∧ Below w.heap.size w w' := by
  have hb1 : Below w.heap.size w (w.alloc (.cells (nums .u8 S).toArray 27)) := (Below.refl _ _).alloc (Nat.le_refl _) _
  have hq1 := (rd_blk32 (heap_alloc_new w (.cells (nums .u8 S).toArray 27)) hl).drew
  have hq2 := (hr.below hb1).drew
  have s1 := rd_string hq1
  have s2 := rd_string hq2
  have HS := Aside0.mk hl
  clear hq1 hq2 hl
  go_enter Tryd.func25, Tryd.ntmps25
  go_wp2_with fail
  go_region_held3 (fun w' => (convert 22 9 (.slice (some ⟨w.heap.size, 0, none⟩) 32 32)).run Tryd.prog w' = .ok (.string (strOfNums S)) w' ∧ (convert 22 9 (.slice A n c)).run Tryd.prog w' = .ok (.string (strOfNums l)) w')
    (first | exact ⟨s1, s2⟩)
    (fail)
  go_wp2_with fail
  go_ret
  exact ⟨congrArg (fun b => Ending.returned (Value.bool b)) (str_eq hS hB), hb1.drew⟩
/-- A literal's bytes, marked as such or not. -/
theorem rd_const (w : World) (l : List Int) (fr : Nat × Nat) (hl : l.length ≤ 9223372036854775807) : Rd (w.alloc (.cells (nums .u8 l).toArray 5 fr)) (some ⟨w.heap.size, 0, none⟩) l.length l.length l :=
  ⟨rfl, Nat.le_refl _, Kd.C_of_reads (d := (0 : Int)) (h1 := fun _ => rfl) ⟨rfl, hl, fun hp => ⟨_, rfl, fun j hj => by
    rw [add_plain, cell_of_row _ _ j _ 5 fr (heap_alloc_new _ _)]
    have := nums_get .u8 l j hj
    simpa using this⟩⟩⟩
theorem abc0 : (shaS [97, 98, 99]).getD 0 0 = 186 := by kernel_rfl
theorem abc1 : (shaS [97, 98, 99]).getD 1 0 = 120 := by kernel_rfl
theorem abc31 : (shaS [97, 98, 99]).getD 31 0 = 173 := by kernel_rfl
set_option maxHeartbeats 800000 in
set_option maxRecDepth 100000 in
theorem awake02_c {w : World} (ht : Tb w) : Calls Tryd.prog 23 #[] w fun e w' => e = .returned (.bool true) ∧ Below w.heap.size w w' := by
  have hl := shaS_length [97, 98, 99]
  have e0 := abc0
  have e1 := abc1
  have e31 := abc31
  obtain ⟨S, HS⟩ : ∃ S, Aside0 (shaS [97, 98, 99] = S) := ⟨_, ⟨rfl⟩⟩
  rw [HS.out] at hl e0 e1 e31
  have HL := Aside0.mk hl
  have E0 := Aside0.mk e0
  have E1 := Aside0.mk e1
  have E31 := Aside0.mk e31
  clear hl e0 e1 e31
  have hb1 : Below w.heap.size w (w.alloc (.cells (nums .u8 [97, 98, 99]).toArray 5 (3, 4))) := (Below.refl _ _).alloc (Nat.le_refl _) _
  have hIB : IsB [97, 98, 99] := by intro x hx; simp at hx; omega
  have hcv := fun (w : World) (C : Array Value) (n c : Nat) => Lib.run_convert_bytes_const (P := Tryd.prog) w 22 5 C n c Tryd.underlying22 Tryd.underlying5
  go_enter Tryd.func23, Tryd.ntmps23
  go_wp2_with fail
  refine (Of1_c (by simp) (rd_const w [97, 98, 99] (3, 4) (by simp)) hIB (by simp) (ht.below hb1)).mono ?_
  rintro x w2 ⟨rfl, hb2⟩
  rw [HS.out]
  have hb := below_next hb1 hb2
  go_wp2_with (first
    | (refine store_arr rfl 27 (.tmp 1) (.tmp 5) rfl w2.heap.size .u8 S rfl rfl 27 32 _ (heap_alloc_new _ _) size27 HL.out rfl ?_; intro w3 hO3 hg3; have c0 : w3.cell? ⟨w2.heap.size, 0, none⟩ = some (.int .u8 186) := (by rw [blk_num hO3 0 (by rw [HL.out]; omega), E0.out]); have c1 : w3.cell? ⟨w2.heap.size, 1, none⟩ = some (.int .u8 120) := (by rw [blk_num hO3 1 (by rw [HL.out]; omega), E1.out]); have c31 : w3.cell? ⟨w2.heap.size, 31, none⟩ = some (.int .u8 173) := (by rw [blk_num hO3 31 (by rw [HL.out]; omega), E31.out]); have hb3 := (hb.alloc hb.size _).grown hg3 (Nat.le_trans hb.size (by simp)) (fun k hk => by cases hk; exact hb.size); clear hO3 hg3))
  go_ret
  exact ⟨rfl, hb3⟩
end Go.Proofs.YtmmbonlidcbkcaaDoor.DgLaw
