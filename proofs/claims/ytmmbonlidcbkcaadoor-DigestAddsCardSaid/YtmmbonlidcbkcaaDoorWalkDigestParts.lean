/- DigestParts, walked. -/
import Derived.Test.YtmmbonlidcbkcaaDoorDgLaw
import Derived.Deep.RegionHeld3
import Derived.Test.YtmmbonlidcbkcaaDoorDgParts
namespace Go.Proofs.YtmmbonlidcbkcaaDoor.WalkDigestParts
open Go.RowKit Go.Proofs.YtmmbonlidcbkcaaDoorW.PrintWords Go.Proofs.YtmmbonlidcbkcaaDoor.Num Go.Proofs.YtmmbonlidcbkcaaDoor.Sha Go.Proofs.YtmmbonlidcbkcaaDoor.WordC Go.Proofs.YtmmbonlidcbkcaaDoor.Arr Go.Proofs.YtmmbonlidcbkcaaDoor.App Go.Proofs.YtmmbonlidcbkcaaDoor.DgC Go.Proofs.YtmmbonlidcbkcaaDoor.DgBlock Go.Proofs.YtmmbonlidcbkcaaDoor.DgState Go.Proofs.YtmmbonlidcbkcaaDoor.DgAdd Go.Proofs.YtmmbonlidcbkcaaDoor.DgSum Go.Proofs.YtmmbonlidcbkcaaDoor.DgOf Go.Proofs.YtmmbonlidcbkcaaDoor.DgCopy Go.Proofs.YtmmbonlidcbkcaaDoor.DgLaw Go.Proofs.YtmmbonlidcbkcaaDoor.DgWords Go.Proofs.YtmmbonlidcbkcaaDoor.RefOf Go.Proofs.YtmmbonlidcbkcaaDoor.DgParts
set_option linter.unusedVariables false
set_option linter.unusedSimpArgs false

theorem flat_isB {ll : List (List Int)} (h : ∀ l ∈ ll, IsB l) : IsB ll.flatten := fun x hx => by
  obtain ⟨l, hl, hx⟩ := List.mem_flatten.1 hx
  exact h l hl x hx
theorem flat_400 (ll : List (List Int)) (h : ∀ l ∈ ll, l.length ≤ 400) : ll.flatten.length ≤ 400 * ll.length := by
  induction ll with
  | nil => simp
  | cons a ll ih =>
    have := h a (by simp)
    have := ih (fun l hl => h l (by simp [hl]))
    simp only [List.flatten_cons, List.length_append, List.length_cons]; omega
set_option maxHeartbeats 8000000 in
set_option maxRecDepth 100000 in
theorem walk (A : Option Addr) (n c : Nat) (ll : List (List Int)) {w : World} (hP : Pt w A n c ll) (hB : ∀ l ∈ ll, IsB l) (ht : Tb w) :
    Calls Tryd.prog 4 #[.slice A n c] w fun e w' => e = .returned (.bool true) ∧ Below w.heap.size w w' := by
  have hn := hP.len
  have HN := Aside0.mk hn
  cases hf : fewB ll with
  | false =>
    have HF := Aside0.mk hf
    clear hf hn
    go_enter Tryd.func4, Tryd.ntmps4
    go_wp2_with fail
    refine (few_c hP).mono ?_
    rintro x w1 ⟨rfl, rfl⟩
    rw [HF.out]
    go_wp2_with fail
    refine (awake02_c ht).mono ?_
    rintro x w5 ⟨rfl, hb5⟩
    go_wp2_with fail
    go_ret
    exact ⟨rfl, hb5⟩
  | true =>
    have hf' := fewB_iff.1 hf
    have hl4 := flat_400 ll hf'.2
    have hn20 : n ≤ 20 := by omega
    have hlen : ll.flatten.length ≤ 8000 := by omega
    have HF := Aside0.mk hf
    have HB := Aside0.mk hB
    have HP := Aside0.mk hP
    clear hf hn hf' hl4
    go_enter Tryd.func4, Tryd.ntmps4
    go_wp2_with fail
    refine (few_c hP).mono ?_
    rintro x w1 ⟨rfl, rfl⟩
    rw [HF.out]
    go_wp2_with fail
    have h0 : Aside0 (Ow w w.heap.size (.slice none 0 0) (ll.take 0).flatten) := ⟨Kd.R_nil _ _ _ _ _⟩
    have h1 : Aside0 (Ps w w.heap.size (.slice none 0 0) (.slice none 0 0) (ll.take 0)) := ⟨Kd.R_nil _ _ _ _ _⟩
    go_loopw [13, 3, 4] (fun i v3 v4 wr => ∃ (j : Nat) (u3 u4 : Value), j ≤ n ∧ i = .int .i64 j ∧ u3 = v3 ∧ u4 = v4 ∧ Aside0 (Ow wr w.heap.size u3 (ll.take j).flatten) ∧ Aside0 (Ps wr w.heap.size u3 u4 (ll.take j)) ∧ Below w.heap.size w wr) (fun i _ _ _ => n - (intOf i).toNat)
    case atStart => exact ⟨0, _, _, by omega, rfl, rfl, rfl, h0, h1, Below.refl _ _⟩
    case round =>
      clear h0 h1
      obtain ⟨j, u3, u4, hj, rfl, rfl, rfl, hV, hU, hb⟩ := hrel
      by_cases hlt : j < n
      · have hlt' : (j : Int) < (n : Int) := by omega
        obtain ⟨ad, Ai, ci, rfl, hcell0, hrd⟩ := HP.out.at_ j hlt
        have hcell := pw_cell_below hb hcell0
        clear hcell0
        have hnext := flat_take ll j (by have := HN.out; omega)
        have hle := flat_le ll (j + 1)
        rw [hnext, List.length_append] at hle
        have htk : ll.take (j + 1) = ll.take j ++ [ll.getD j []] := by
          rw [List.take_add_one, List.getElem?_eq_getElem (by have := HN.out; omega), List.getD_eq_getElem?_getD, List.getElem?_eq_getElem (by have := HN.out; omega)]; rfl
        have htl : (ll.take j).length = j := by rw [List.length_take]; have := HN.out; omega
        have hIB := part_isB HB.out j
        obtain ⟨p, HPP⟩ : ∃ p, Aside0 (ll.getD j [] = p) := ⟨_, ⟨rfl⟩⟩
        rw [HPP.out] at hnext hle hIB hrd hcell htk
        have HNEXT := Aside0.mk hnext
        have HTK := Aside0.mk htk
        have HTL := Aside0.mk htl
        obtain ⟨q, HQ⟩ : ∃ q, Aside0 (p.length = q) := ⟨_, ⟨rfl⟩⟩
        rw [HQ.out] at hle hrd hcell
        have HRD := Aside0.mk hrd
        clear hnext htk htl hrd
        go_wp2_with (first
          | (at_builtin; refine append_ow (w0 := w) w.heap.size rfl (.tmp 17) (.tmp 18) rfl u3 (ll.take j).flatten p Ai q ci rfl rfl hV.out (HRD.out.below hb) hb hb.size (by omega) ?_; intro v1 w1 ho1 hb1 hg1 hat1; have HO1 := Aside0.mk ho1; have HU1 := Aside0.mk (ps_after hU.out hg1 hat1); have hv1 : ∀ k, v1.ownBlock = some k → k < w1.heap.size := (fun k hk => by have := Kd.R_own ho1; obtain ⟨inner, hi⟩ := this; exact own_lt hi k hk); have HV1 := Aside0.mk hv1; clear ho1 hg1 hat1 hv1))
        refine (own_c (HRD.out.below hb1) (by omega)).mono ?_
        rintro x w2 ⟨v2, rfl, ho2, hb2⟩
        obtain ⟨A2, c2, rfl, hr2⟩ := rd_of_own ho2
        rw [HQ.out] at ho2 ⊢
        have hB2 := below_next hb1 hb2
        have HO2 : Ow w2 w.heap.size v1 ((ll.take j).flatten ++ p) := Kd.R_below HO1.out hb2
        have HU2 : Ps w2 w.heap.size v1 u4 (ll.take j) := Kd.R_below HU1.out hb2
        clear hr2
        go_wp2_with (first
          | (at_builtin; refine append_part (w0 := w) w.heap.size w1.heap.size rfl (.tmp 20) (.tmp 23) rfl v1 u4 (.slice A2 q c2) (ll.take j) p rfl rfl HU2 ho2 HV1.out hb2.size hb1.size hB2 (by rw [HTL.out]; omega) ?_; intro v5 w5 hp5 hb5 hg5; have HO5 := Aside0.mk (ow_types HO2 HU2 hg5); have HP5 := Aside0.mk hp5; clear hp5 hg5))
        go_roundw
        case rel => exact ⟨j + 1, v1, v5, by omega, by go_num, rfl, rfl, ⟨by rw [HNEXT.out]; exact HO5.out⟩, ⟨by rw [HTK.out]; exact HP5.out⟩, hb5⟩
        case measure => simp [intOf]; omega
      · have hge : ¬ (j : Int) < (n : Int) := by omega
        have hjn : j = n := by omega
        have hU' := hU.out
        have hV' := hV.out
        have hall : ll.take j = ll := by rw [hjn]; exact List.take_of_length_le (by rw [HN.out]; omega)
        rw [hall] at hU' hV'
        obtain ⟨A4, c4, rfl, hPt⟩ := ps_pt hU'
        obtain ⟨A3, c3, rfl, hr3⟩ := rd_of_own hV'
        rw [HN.out] at hPt ⊢
        obtain ⟨M, HM⟩ : ∃ M, Aside0 (ll.flatten.length = M) := ⟨_, ⟨rfl⟩⟩
        rw [HM.out] at hr3 hlen ⊢
        clear hU' hV' hall hjn hU hV
        go_wp2_with fail
        refine (Of_c hPt HB.out (by rw [HM.out]; omega) (ht.below hb)).mono ?_
        rintro x w2 ⟨rfl, hb2⟩
        have hB2 := below_next hb hb2
        go_wp2_with fail
        refine (refof_c (hr3.below hb2) (flat_isB HB.out) (by omega)).mono ?_
        rintro x w3 ⟨v3, rfl, ho3, hb3⟩
        obtain ⟨A5, c5, rfl, hr5⟩ := rd_of_own ho3
        have hB3 := below_next hB2 hb3
        clear ho3
        go_wp2_with fail
        refine (is_c hr5 (shaS_isB _) (shaS_isB _) (shaS_length _)).mono ?_
        rintro x w4 ⟨rfl, hb4⟩
        rw [eqB_self]
        have hB4 := below_next hB3 hb4
        clear hr5 hr3 hPt
        go_wp2_with fail
        refine (awake02_c (ht.below hB4)).mono ?_
        rintro x w5 ⟨rfl, hb5⟩
        go_wp2_with fail
        go_ret
        exact ⟨rfl, below_next hB4 hb5⟩
end Go.Proofs.YtmmbonlidcbkcaaDoor.WalkDigestParts
