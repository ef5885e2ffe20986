/- MacKeys, walked. -/
import Derived.Test.YtmmbonlidcbkcaaDoorDgA
import Derived.Deep.RegionHeld3
import Derived.Test.YtmmbonlidcbkcaaDoorMacA
import Derived.Deep.MidRow
import Derived.Deep.Cut
namespace Go.Proofs.YtmmbonlidcbkcaaDoor.WalkMacKeys
open Go.RowKit Go.Proofs.YtmmbonlidcbkcaaDoorW.PrintWords Go.Proofs.YtmmbonlidcbkcaaDoor.Num Go.Proofs.YtmmbonlidcbkcaaDoor.Sha Go.Proofs.YtmmbonlidcbkcaaDoor.WordC Go.Proofs.YtmmbonlidcbkcaaDoor.Arr Go.Proofs.YtmmbonlidcbkcaaDoor.App Go.Proofs.YtmmbonlidcbkcaaDoor.DgC Go.Proofs.YtmmbonlidcbkcaaDoor.DgBlock Go.Proofs.YtmmbonlidcbkcaaDoor.DgState Go.Proofs.YtmmbonlidcbkcaaDoor.DgAdd Go.Proofs.YtmmbonlidcbkcaaDoor.DgSum Go.Proofs.YtmmbonlidcbkcaaDoor.DgOf Go.Proofs.YtmmbonlidcbkcaaDoor.DgCopy Go.Proofs.YtmmbonlidcbkcaaDoor.DgLaw Go.Proofs.YtmmbonlidcbkcaaDoor.DgWords Go.Proofs.YtmmbonlidcbkcaaDoor.RefOf Go.Proofs.YtmmbonlidcbkcaaDoor.MacC Go.Proofs.YtmmbonlidcbkcaaDoor.MacTag Go.Proofs.YtmmbonlidcbkcaaDoor.MacLaw Go.Proofs.YtmmbonlidcbkcaaDoor.MacAwake Go.Proofs.YtmmbonlidcbkcaaDoor.MacHold Go.Proofs.YtmmbonlidcbkcaaDoor.MacNil Go.Proofs.YtmmbonlidcbkcaaDoor.MacMany Go.Proofs.YtmmbonlidcbkcaaDoor.DgParts Go.Proofs.YtmmbonlidcbkcaaDoor.Hmac Go.Proofs.YtmmbonlidcbkcaaDoor.MacNew Go.Proofs.YtmmbonlidcbkcaaDoor.MacRef
set_option linter.unusedVariables false
set_option linter.unusedSimpArgs false

theorem ow_ge {w : World} {base : Nat} {u : Value} {xs : List Int} (h : Ow w base u xs) : ∀ k, u.ownBlock = some k → base ≤ k := fun k hk => by
  obtain ⟨inner, hi⟩ := Kd.R_own h
  exact own_base hi k hk
theorem st_grown {w w1 : World} {base g : Nat} {v : Value} {b : List Int} {row : Option Nat} (h : St w base g v b) (hg : w.grownBy w1 row) (h2 : some g ≠ row) (h4 : ∀ k, v.ownBlock = some k → some k ≠ row) : St w1 base g v b :=
  ⟨h.ge, h.isB, blk_grow h.blk hg h2, q_move h.tail (fun k hk => hg.block k (h.row_lt k hk) (h4 k hk))⟩
/-- Another block of bytes, elder than the key, was written. -/
theorem ky_over {w w1 : World} {base kb b : Nat} {key : List Int} {u : Value} {xs : List Int} (h : Ky w base kb key) (hx : Ow w b u xs) (hlt : ∀ k, u.ownBlock = some k → k < base) (hg : w.grownBy w1 u.ownBlock) : Ky w1 base kb key := by
  obtain ⟨hB, gi, vi, go, vo, h1, h2, h3⟩ := h
  have ne : ∀ {g t : Nat} {cs : List Value}, Blk w g t cs → t ≠ 5 → some g ≠ u.ownBlock := fun {g t cs} hb ht e => by
    obtain ⟨cells, hc⟩ := Kd.R_typed hx g e.symm
    have hg' := hc.symm.trans hb
    injection hg' with hg'; injection hg' with _ hg'
    exact ht hg'.symm
  exact ⟨hB, gi, vi, go, vo, blk_grow h1 hg (ne h1 (by decide)), st_grown h2 hg (ne h2.blk (by decide)) (fun k hk e => by have := hlt k e.symm; have := h2.row_ge k hk; omega), st_grown h3 hg (ne h3.blk (by decide)) (fun k hk e => by have := hlt k e.symm; have := h3.row_ge k hk; omega)⟩
/-- A row of slices was written. -/
theorem ky_rows {w w1 : World} {base kb : Nat} {key : List Int} {row : Option Nat} (h : Ky w base kb key) (ht : ∀ k, row = some k → ∃ cells, w.heap[k]? = some (.cells cells 22 (0, 0))) (hg : w.grownBy w1 row) : Ky w1 base kb key := by
  obtain ⟨hB, gi, vi, go, vo, h1, h2, h3⟩ := h
  have ne : ∀ {g t : Nat} {cells : Array Value}, w.heap[g]? = some (.cells cells t (0, 0)) → t ≠ 22 → some g ≠ row := fun {g t cs} hb ht' e => by
    obtain ⟨cells, hc⟩ := ht g e.symm
    have hg' := hc.symm.trans hb
    injection hg' with hg'; injection hg' with _ hg'
    exact ht' hg'.symm
  exact ⟨hB, gi, vi, go, vo, blk_grow h1 hg (ne h1 (by decide)), st_grown h2 hg (ne h2.blk (by decide)) (fun k hk => by obtain ⟨_, cells, hc⟩ := q_typed h2.tail k hk; exact ne hc (by decide)), st_grown h3 hg (ne h3.blk (by decide)) (fun k hk => by obtain ⟨_, cells, hc⟩ := q_typed h3.tail k hk; exact ne hc (by decide))⟩
theorem tg_form {w : World} {base : Nat} {v : Value} {Ts : List (List Int)} (h : Tg w base v Ts) : ∃ A c, v = .slice A Ts.length c ∧ Ts.length ≤ c := by
  obtain ⟨A, c, e, h1, h2⟩ := Kd.R_reads h
  exact ⟨A, c, e, h1⟩
theorem tg_some {w : World} {base n c : Nat} {A : Option Addr} {Ts : List (List Int)} (h : Tg w base (.slice A n c) Ts) (hn : 0 < n) : ∃ g, A = some ⟨g, 0, none⟩ := by
  have hl := (Kd.R_reads' h).1
  obtain ⟨g, cap, e, _⟩ := Kd.R_form h (by omega)
  injection e with e
  exact ⟨g, e⟩
theorem tg_at {w : World} {base n c g : Nat} {Ts : List (List Int)} (h : Tg w base (.slice (some ⟨g, 0, none⟩) n c) Ts) (j : Nat) (hj : j < n) : w.rangeAt g (j * 32) (nums .u8 (Ts.getD j [])) := by
  obtain ⟨hl, hc, hC⟩ := Kd.R_reads' h
  obtain ⟨ad, cs, e, hl2, hK, hcell⟩ := Kd.C_get hC [] (j : Int) (by omega) (by omega)
  injection e with e
  subst e
  have hcs := reps_nums hl2 hK
  subst hcs
  intro i u hi
  have := hcell i u hi
  rw [add_plain] at this
  have e : (Kd.arr 32 (Kd.int .u8) sz1).sz = 32 := rfl
  rw [e] at this
  simpa using this
theorem flat_le4 (ll : List (List Int)) (h : ∀ l ∈ ll, l.length ≤ 400) : ll.flatten.length ≤ 400 * ll.length := by
  induction ll with
  | nil => simp
  | cons a ll ih =>
    have := h a (by simp)
    have := ih (fun l hl => h l (by simp [hl]))
    simp only [List.flatten_cons, List.length_append, List.length_cons]; omega
theorem mem_getD {ll : List (List Int)} (n : Nat) (hl : ll.length = n) (h : ∀ q, q < n → (ll.getD q []).length ≤ 400) : ∀ l ∈ ll, l.length ≤ 400 := by
  intro l hm
  obtain ⟨q, hq, rfl⟩ := List.mem_iff_getElem.1 hm
  have := h q (by omega)
  rwa [List.getD_eq_getElem?_getD, List.getElem?_eq_getElem hq] at this
set_option maxHeartbeats 8000000 in
set_option maxRecDepth 100000 in
theorem walk (A : Option Addr) (n c : Nat) (key : List Int) {w : World} (hr : Rd w A n c key) (hB : IsB key) (hn : n ≤ 140737488351232) (A' : Option Addr) (m d : Nat) (ll : List (List Int)) (hP : Pt w A' m d ll) (hBl : ∀ l ∈ ll, IsB l) (ht : Tb w) :
    Calls Tryd.prog 11 #[.slice A n c, .slice A' m d] w fun e w' => e = .returned (.bool true) ∧ Below w.heap.size w w' := by
  have hm := hP.len
  have hm63 : m ≤ 9223372036854775807 := Kd.C_max hP.rows
  by_cases h20 : m ≤ 20
  · by_cases h4 : n ≤ 4000
    · have h20' : ¬ (20 : Int) < (m : Int) := by omega
      have h4' : ¬ (4000 : Int) < (n : Int) := by omega
      have HM := Aside0.mk hm
      have HP := Aside0.mk hP
      have HBL := Aside0.mk hBl
      have HL := Aside0.mk hr.len
      clear hm hP hBl
      go_enter Tryd.func11, Tryd.ntmps11
      go_wp2_with fail
      go_loop [27] (fun i => ∃ j : Nat, j ≤ m ∧ i = .int .i64 j ∧ Aside0 (∀ q, q < j → (ll.getD q []).length ≤ 400)) (fun i => m - (intOf i).toNat)
      case atStart => exact ⟨0, by omega, rfl, ⟨fun q hq => by omega⟩⟩
      case round =>
        obtain ⟨j, hj, rfl, hall⟩ := hrel
        by_cases hlt : j < m
        · have hlt' : (j : Int) < (m : Int) := by omega
          obtain ⟨ad, Ai, ci, rfl, hcell, _⟩ := HP.out.at_ j hlt
          obtain ⟨q, HQ⟩ : ∃ q, Aside0 ((ll.getD j []).length = q) := ⟨_, ⟨rfl⟩⟩
          rw [HQ.out] at hcell
          by_cases h400 : q ≤ 400
          · have h400' : ¬ (400 : Int) < (q : Int) := by omega
            go_wp2_with fail
            go_round
            case rel => exact ⟨j + 1, by omega, by go_num, ⟨fun p hp => by
              rcases Nat.lt_or_ge p j with h | h
              · exact hall.out p h
              · obtain rfl : p = j := by omega
                rw [HQ.out]; exact h400⟩⟩
            case measure => simp [intOf]; omega
          · have h400' : (400 : Int) < (q : Int) := by omega
            go_wp2_with fail
            refine (awake34_c ht).mono ?_
            rintro x w5 ⟨rfl, hb5⟩
            go_wp2_with fail
            go_ret
            exact ⟨rfl, hb5⟩
        · have hge : ¬ (j : Int) < (m : Int) := by omega
          have hjm : j = m := by omega
          have h400 := mem_getD m HM.out (by rw [← hjm]; exact hall.out)
          have hfl := flat_le4 ll h400
          rw [HM.out] at hfl
          have H400 := Aside0.mk h400
          clear hjm hall h400
          go_wp2_with fail
          refine (own35_c hr hn).mono ?_
          rintro x w1 ⟨v1, rfl, ho1, hb1⟩
          obtain ⟨A1, c1, rfl, r1⟩ := rd_of_own ho1
          rw [HL.out] at ho1 r1 ⊢
          have ht1 := ht.below hb1
          have hox := ow_lt ho1
          have hog := ow_ge ho1
          go_wp2_with fail
          refine (MacNew.New_c r1 hB hn ht1).mono ?_
          rintro x w2 ⟨kb, rfl, hK2, hb2⟩
          have hB2 := below_next hb1 hb2
          have HX2 : Aside0 (Ow w2 w.heap.size (.slice A1 n c1) key) := ⟨Kd.R_below ho1 hb2⟩
          have hgr : Aside0 (w2.grownBy w2 (Value.slice A1 n c1).ownBlock) := ⟨World.grownBy.refl _ _⟩
          have HK2 := Aside0.mk hK2
          have HOX := Aside0.mk hox
          have HOG := Aside0.mk hog
          have HXX := HX2
          clear hK2 ho1 r1 hox hog
          go_wp2_with fail
          go_loopw [42] (fun i wq => ∃ (T : Nat) (xs : List Int), T ≤ n ∧ i = .int .i64 T ∧ Aside0 (xs.length = n) ∧ Aside0 (Ow wq w.heap.size (.slice A1 n c1) xs) ∧ Aside0 (w2.grownBy wq (Value.slice A1 n c1).ownBlock)) (fun i _ => n - (intOf i).toNat)
          case atStart => exact ⟨0, key, by omega, rfl, HL, HX2, hgr⟩
          case round =>
            clear HX2 hgr
            obtain ⟨T, xs, hT, rfl, hxl, hX, hG⟩ := hrel
            by_cases hlt : T < n
            · have hlt' : (T : Int) < (n : Int) := by omega
              have hxo := Kd.own_of_R hX.out
              rw [hxl.out] at hxo
              obtain ⟨gx, rfl⟩ : ∃ gx, A1 = some ⟨gx, 0, none⟩ := by
                rcases hxo.2 with ⟨_, h0⟩ | ⟨g', cap', cur, hv, _⟩
                · omega
                · injection hv with hv; exact ⟨g', hv⟩
              have hat := own_at (k := .u8) (xs := xs) hxo (T : Int) (by omega) (by omega)
              simp only [Int.toNat_natCast] at hat
              obtain ⟨hc1, hf1⟩ := hat
              have hst := own_store (k := .u8) (xs := xs) hxo (T : Int) (IntKind.u8.wrap (rd xs T + 1))
              simp only [Int.toNat_natCast] at hst
              have HX' : Aside0 (Ow (wr.setCell ⟨gx, T, none⟩ (.int .u8 (IntKind.u8.wrap (rd xs T + 1)))) w.heap.size (.slice (some ⟨gx, 0, none⟩) n c1) (xs.set T (IntKind.u8.wrap (rd xs T + 1)))) := ⟨Kd.R_of_own (by rw [List.length_set, hxl.out]; exact hst.1) (fun _ _ => trivial)⟩
              have HG' : Aside0 (w2.grownBy (wr.setCell ⟨gx, T, none⟩ (.int .u8 (IntKind.u8.wrap (rd xs T + 1)))) (Value.slice (some ⟨gx, 0, none⟩) n c1).ownBlock) := ⟨World.grownBy.trans hG.out hst.2⟩
              have HXL' : Aside0 ((xs.set T (IntKind.u8.wrap (rd xs T + 1))).length = n) := ⟨by rw [List.length_set]; exact hxl.out⟩
              clear hxo hst
              generalize rd xs T = y at *
              go_wp2_with fail
              go_roundw
              case rel => exact ⟨T + 1, _, by omega, by go_num, HXL', HX', HG'⟩
              case measure => simp [intOf]; omega
            · have hge : ¬ (T : Int) < (n : Int) := by omega
              have hgr := hG.out
              have hKq := ky_over HK2.out HXX.out HOX.out hgr
              have hBq : Below w.heap.size w wr := hB2.grown hgr hB2.size HOG.out
              have HKQ := Aside0.mk hKq
              have T0 : Aside0 (Ps wr w.heap.size (.slice none 0 0) (.slice none 0 0) (ll.take 0)) := ⟨Kd.R_nil _ _ _ _ _⟩
              clear hgr hG hX hxl HXX HK2 HOX HOG hKq
              obtain ⟨wo, hwo⟩ : ∃ wo : World, wo = wr := ⟨_, rfl⟩
              rw [← hwo] at HKQ hBq T0
              go_wp2_with fail
              rw [← hwo]
              clear hwo
              go_loopw [54, 10] (fun i v wr => ∃ (j : Nat) (u : Value), j ≤ m ∧ i = .int .i64 j ∧ u = v ∧ Aside0 (Ps wr w.heap.size (.slice none 0 0) u (ll.take j)) ∧ Aside0 (Ky wr w1.heap.size kb key) ∧ Below w.heap.size w wr) (fun i _ _ => m - (intOf i).toNat)
              case atStart => exact ⟨0, _, by omega, rfl, rfl, T0, HKQ, hBq⟩
              case round =>
                clear T0 HKQ hBq
                obtain ⟨j, u, hj, rfl, rfl, hU, hK, hb⟩ := hrel
                by_cases hlt : j < m
                · have hlt' : (j : Int) < (m : Int) := by omega
                  obtain ⟨ad, Ai, ci, rfl, hcell0, hrd⟩ := HP.out.at_ j hlt
                  have hcell := pw_cell_below hb hcell0
                  clear hcell0
                  have htk : ll.take (j + 1) = ll.take j ++ [ll.getD j []] := by
                    rw [List.take_add_one, List.getElem?_eq_getElem (by have := HM.out; omega), List.getD_eq_getElem?_getD, List.getElem?_eq_getElem (by have := HM.out; omega)]; rfl
                  have htl : (ll.take j).length = j := by rw [List.length_take]; have := HM.out; omega
                  have hIB := part_isB HBL.out j
                  have hle : (ll.getD j []).length ≤ 400 := H400.out _ (by rw [List.getD_eq_getElem?_getD, List.getElem?_eq_getElem (by have := HM.out; omega)]; exact List.getElem_mem _)
                  obtain ⟨p, HPP⟩ : ∃ p, Aside0 (ll.getD j [] = p) := ⟨_, ⟨rfl⟩⟩
                  rw [HPP.out] at hle hIB hrd hcell htk
                  have HTK := Aside0.mk htk
                  have HTL := Aside0.mk htl
                  obtain ⟨q, HQ⟩ : ∃ q, Aside0 (p.length = q) := ⟨_, ⟨rfl⟩⟩
                  rw [HQ.out] at hle hrd hcell
                  have HRD := Aside0.mk hrd
                  clear htk htl hrd
                  go_wp2_with fail
                  refine (own35_c (HRD.out.below hb) (by omega)).mono ?_
                  rintro x w3 ⟨v3, rfl, ho3, hb3⟩
                  obtain ⟨A3, c3, rfl, r3⟩ := rd_of_own ho3
                  rw [HQ.out] at r3 ⊢
                  clear ho3
                  have hB3 := below_next hb hb3
                  have hK3 := hK.out.below hb3
                  clear hcell
                  go_wp2_with fail
                  refine (Tag1_c (k := w3.heap.size) rfl hK3 r3 hIB (by omega) (ht.below hB3)).mono ?_
                  rintro x w4 ⟨rfl, hb4⟩
                  have hB4 := below_next hB3 hb4
                  have hlT := tagS_length key p
                  have hIT := tagS_isB key p
                  obtain ⟨T, HT⟩ : ∃ T, Aside0 (tagS key p = T) := ⟨_, ⟨rfl⟩⟩
                  rw [HT.out] at hlT hIT ⊢
                  have HLT := Aside0.mk hlT
                  clear hlT r3
                  go_wp2_with fail
                  refine (reftag36_c (hr.below hB4) hB hn (HRD.out.below hB4) hIB (by omega)).mono ?_
                  rintro x w5 ⟨v5, rfl, ho5, hb5⟩
                  rw [HT.out] at ho5
                  obtain ⟨A5, c5, rfl, r5⟩ := rd_of_own ho5
                  rw [HLT.out] at r5 ⊢
                  clear ho5
                  have hB5 := below_next hB4 hb5
                  go_wp2_with fail
                  refine (is37_c r5 hIT hIT HLT.out).mono ?_
                  rintro x w6 ⟨rfl, hb6⟩
                  rw [eqB_self]
                  have hB6 := below_next hB5 hb6
                  have hK6 := ((hK3.below hb4).below hb5).below hb6
                  have hU6 : Ps w6 w.heap.size (.slice none 0 0) u (ll.take j) := Kd.R_below (Kd.R_below (Kd.R_below (Kd.R_below hU.out hb3) hb4) hb5) hb6
                  clear r5 hK3
                  go_wp2_with fail
                  refine (own35_c (HRD.out.below hB6) (by omega)).mono ?_
                  rintro x w7 ⟨v7, rfl, ho7, hb7⟩
                  obtain ⟨A7, c7, rfl, r7⟩ := rd_of_own ho7
                  rw [HQ.out] at ho7 ⊢
                  clear r7
                  have hB7 := below_next hB6 hb7
                  have hK7 := hK6.below hb7
                  have hU7 : Ps w7 w.heap.size (.slice none 0 0) u (ll.take j) := Kd.R_below hU6 hb7
                  have hUt := Kd.R_typed hU7
                  have HUT := Aside0.mk hUt
                  have HK7 := Aside0.mk hK7
                  clear hUt hU6 hK6 hK7
                  go_wp2_with (first
                    | (at_builtin; refine append_part (w0 := w) w.heap.size w6.heap.size rfl (.tmp 68) (.tmp 71) rfl (.slice none 0 0) u (.slice A7 q c7) (ll.take j) p rfl rfl hU7 ho7 (fun k hk => by cases hk) hb7.size hB6.size hB7 (by rw [HTL.out]; omega) ?_; intro v8 w8 hp8 hb8 hg8; have HK8 := Aside0.mk (ky_rows HK7.out HUT.out hg8); have HP8 := Aside0.mk hp8; clear hp8 hg8))
                  go_roundw
                  case rel => exact ⟨j + 1, v8, by omega, by go_num, rfl, ⟨by rw [HTK.out]; exact HP8.out⟩, HK8, hb8⟩
                  case measure => simp [intOf]; omega
                · have hge : ¬ (j : Int) < (m : Int) := by omega
                  have hjm : j = m := by omega
                  have hU' := hU.out
                  rw [show ll.take j = ll by rw [hjm]; exact List.take_of_length_le (by rw [HM.out]; omega)] at hU'
                  obtain ⟨A4, c4, rfl, hPt⟩ := ps_pt hU'
                  rw [HM.out] at hPt ⊢
                  have hK' := hK.out
                  clear hU' hjm hU hK
                  go_wp2_with fail
                  refine (Many_c (key := key) (fun W B n' d' k l' hb' hk hr' hI hm' => Tag1_c hk (hK'.below hb') hr' hI (by omega) ((ht.below hb).below hb')) hPt HBL.out (by omega) (by omega)).mono ?_
                  rintro x w5 ⟨v5, rfl, hTg, hb5⟩
                  obtain ⟨A5, c5, rfl, hle5⟩ := tg_form hTg
                  have hlm : (ll.map (tagS key)).length = m := by rw [List.length_map]; exact HM.out
                  rw [hlm] at hTg hle5 ⊢
                  have HTG := Aside0.mk hTg
                  have hB5 := below_next hb hb5
                  clear hTg hlm
                  go_wp2_with fail
                  obtain ⟨bs, hbs⟩ : ∃ bs : Nat, bs = wr.heap.size := ⟨_, rfl⟩
                  rw [← hbs] at HTG
                  clear hbs hb5 hPt hb
                  go_loopw [84] (fun i wr => ∃ j : Nat, j ≤ m ∧ i = .int .i64 j ∧ Aside0 (Tg wr bs (.slice A5 m c5) (ll.map (tagS key))) ∧ Below w.heap.size w wr) (fun i _ => m - (intOf i).toNat)
                  case atStart => exact ⟨0, by omega, rfl, HTG, hB5⟩
                  case round =>
                    clear HTG hB5
                    obtain ⟨j, hj, rfl, hG, hb⟩ := hrel
                    by_cases hlt : j < m
                    · have hlt' : (j : Int) < (m : Int) := by omega
                      obtain ⟨ad, Ai, ci, rfl, hcell0, hrd⟩ := HP.out.at_ j hlt
                      have hcell := pw_cell_below hb hcell0
                      clear hcell0
                      have hgT : (ll.map (tagS key)).getD j [] = tagS key (ll.getD j []) := by
                        rw [List.getD_eq_getElem?_getD, List.getElem?_map, List.getD_eq_getElem?_getD, List.getElem?_eq_getElem (by have := HM.out; omega)]; rfl
                      have hIB := part_isB HBL.out j
                      have hle : (ll.getD j []).length ≤ 400 := H400.out _ (by rw [List.getD_eq_getElem?_getD, List.getElem?_eq_getElem (by have := HM.out; omega)]; exact List.getElem_mem _)
                      obtain ⟨p, HPP⟩ : ∃ p, Aside0 (ll.getD j [] = p) := ⟨_, ⟨rfl⟩⟩
                      rw [HPP.out] at hle hIB hrd hcell hgT
                      obtain ⟨q, HQ⟩ : ∃ q, Aside0 (p.length = q) := ⟨_, ⟨rfl⟩⟩
                      rw [HQ.out] at hle hrd hcell
                      have HRD := Aside0.mk hrd
                      have hlT := tagS_length key p
                      have hIT := tagS_isB key p
                      obtain ⟨T, HT⟩ : ∃ T, Aside0 (tagS key p = T) := ⟨_, ⟨rfl⟩⟩
                      rw [HT.out] at hlT hIT hgT
                      have HLT := Aside0.mk hlT
                      have HGT := Aside0.mk hgT
                      clear hlT hrd hgT
                      obtain ⟨g5, rfl⟩ := tg_some hG.out (by omega)
                      have hRB : ∀ w', Below wr.heap.size wr w' → w'.rangeAt g5 (j * 32) (nums .u8 T) := fun w' hb' => by
                        have h := tg_at (Kd.R_below hG.out hb') j hlt
                        rw [HGT.out] at h
                        exact h
                      have HRB := Aside0.mk hRB
                      have hi27 : (Tryd.prog.info? 27).map (·.size) = some (nums .u8 T).length := by rw [nums_length, HLT.out]; exact size27
                      have HI27 := Aside0.mk hi27
                      have hBD : Below wr.heap.size wr wr.drew := (Below.refl _ wr).drew
                      have hBd := below_next hb hBD
                      clear hRB hi27
                      go_wp2_with fail
                      refine wp_region_held_drew (S := fun w' => w'.rangeAt g5 (j * 32) (nums .u8 T)) (by kernel_rfl) ?_ (fun hHeld => ?_)
                      · exact HRB.out _ hBD
                      refine wpAnyH_take (i := 0) (v := ?_) (List.getElem?_toArray.trans rfl) (by kernel_rfl) (by kernel_rfl) (by kernel_rfl) (fun _ _ _ h => h) (Or.inl ⟨by rfl, ?_⟩) (by assumption) ?_
                      rotate_left
                      · (intro w hSw; (try dsimp only at hSw); go_simp; try with_reducible rfl)
                      (try simp only [Act.put, List.setIfInBounds_toArray, List.set_cons_zero, List.set_cons_succ])
                      refine wpAnyH_take (i := 1) (v := ?_) (List.getElem?_toArray.trans rfl) (by kernel_rfl) (by kernel_rfl) (by kernel_rfl) (fun _ _ _ h => h) (Or.inl ⟨by rfl, ?_⟩) (by assumption) ?_
                      rotate_left
                      · (intro w hSw; (try dsimp only at hSw); go_simp; try with_reducible rfl)
                      (try simp only [Act.put, List.setIfInBounds_toArray, List.set_cons_zero, List.set_cons_succ])
                      refine wpAnyH_take (i := 2) (v := ?_) (List.getElem?_toArray.trans rfl) (by kernel_rfl) (by kernel_rfl) (by kernel_rfl) (fun _ _ _ h => h) (Or.inl ⟨by rfl, ?_⟩) (by assumption) ?_
                      rotate_left
                      · (intro w hSw; (try dsimp only at hSw); go_simp; try with_reducible rfl)
                      (try simp only [Act.put, List.setIfInBounds_toArray, List.set_cons_zero, List.set_cons_succ])
                      refine wpAnyH_take (i := 3) (List.getElem?_toArray.trans rfl) (by kernel_rfl) (by kernel_rfl) (by kernel_rfl) (fun _ _ _ h => h) (yieldsIf_load_mid (by rfl) 27 (.tmp 91) rfl g5 (j * 32) rfl (nums .u8 T) _ (fun _ h => h) Tryd.underlying27 rfl HI27.out) (by assumption) ?_
                      (try simp only [Act.put, List.setIfInBounds_toArray, List.set_cons_zero, List.set_cons_succ])
                      refine wpAnyH_take (i := 4) (v := ?_) (List.getElem?_toArray.trans rfl) (by kernel_rfl) (by kernel_rfl) (by kernel_rfl) (fun _ _ _ h => h) (Or.inl ⟨by rfl, ?_⟩) (by assumption) ?_
                      rotate_left
                      · (intro w hSw; (try dsimp only at hSw); go_simp; try with_reducible rfl)
                      (try simp only [Act.put, List.setIfInBounds_toArray, List.set_cons_zero, List.set_cons_succ])
                      refine wpAnyH_take (i := 5) (v := ?_) (List.getElem?_toArray.trans rfl) (by kernel_rfl) (by kernel_rfl) (by kernel_rfl) (fun _ _ _ h => h) (Or.inl ⟨by rfl, ?_⟩) (by assumption) ?_
                      rotate_left
                      · (intro w hSw; (try dsimp only at hSw); go_simp; try with_reducible rfl)
                      (try simp only [Act.put, List.setIfInBounds_toArray, List.set_cons_zero, List.set_cons_succ])
                      refine wpAnyH_ready (rs := [6]) (by kernel_rfl) (by simp) (AllReadyH.cons (List.getElem?_toArray.trans rfl) (fun Kx hKx => ?_) AllReadyH.nil)
                      go_simp
                      refine (reftag36_c (hr.below hBd) hB hn (HRD.out.below hBd) hIB (by omega)).mono ?_
                      rintro x w6 ⟨v6, rfl, ho6, hb6⟩
                      rw [HT.out] at ho6
                      obtain ⟨A6, c6, rfl, r6⟩ := rd_of_own ho6
                      rw [HLT.out] at r6 ⊢
                      clear ho6
                      have hb6w := below_next hBD hb6
                      go_wp2_with fail
                      refine hKx.out _ _ ?_ (fun hHeld => ?_)
                      · exact HRB.out _ hb6w
                      clear hKx Kx
                      (try simp only [Act.put, List.setIfInBounds_toArray, List.set_cons_zero, List.set_cons_succ])
                      refine wpAnyH_ready (rs := [7]) (by kernel_rfl) (by simp) (AllReadyH.cons (List.getElem?_toArray.trans rfl) (fun Kx hKx => ?_) AllReadyH.nil)
                      go_simp
                      refine (is37_c r6 hIT hIT HLT.out).mono ?_
                      rintro x w7 ⟨rfl, hb7⟩
                      rw [eqB_self]
                      have hb7w := below_next hb6w hb7
                      have hB7 := below_next hb hb7w
                      have HG7 : Aside0 (Tg w7 bs (.slice (some ⟨g5, 0, none⟩) m c5) (ll.map (tagS key))) := ⟨Kd.R_below hG.out hb7w⟩
                      go_wp2_with fail
                      refine hKx.out _ _ ?_ (fun hHeld => ?_)
                      · exact HRB.out _ hb7w
                      clear hKx Kx
                      (try simp only [Act.put, List.setIfInBounds_toArray, List.set_cons_zero, List.set_cons_succ])
                      refine wpAnyH_take (i := 8) (v := ?_) (List.getElem?_toArray.trans rfl) (by kernel_rfl) (by kernel_rfl) (by kernel_rfl) (fun _ _ _ h => h) (Or.inl ⟨by rfl, ?_⟩) (by assumption) ?_
                      rotate_left
                      · (intro w hSw; (try dsimp only at hSw); go_simp; try with_reducible rfl)
                      (try simp only [Act.put, List.setIfInBounds_toArray, List.set_cons_zero, List.set_cons_succ])
                      refine wpAnyH_done (by kernel_rfl) ?_ _
                      clear r6 hcell
                      go_wp2_with fail
                      go_roundw
                      case rel => exact ⟨j + 1, by omega, by go_num, HG7, hB7⟩
                      case measure => simp [intOf]; omega
                    · have hge : ¬ (j : Int) < (m : Int) := by omega
                      go_wp2_with fail
                      refine (awake34_c (ht.below hb)).mono ?_
                      rintro x w5 ⟨rfl, hb5⟩
                      go_wp2_with fail
                      go_ret
                      exact ⟨rfl, below_next hb hb5⟩
    · have h20' : ¬ (20 : Int) < (m : Int) := by omega
      have h4' : (4000 : Int) < (n : Int) := by omega
      clear hm
      go_enter Tryd.func11, Tryd.ntmps11
      go_wp2_with fail
      refine (awake34_c ht).mono ?_
      rintro x w5 ⟨rfl, hb5⟩
      go_wp2_with fail
      go_ret
      exact ⟨rfl, hb5⟩
  · have h20' : (20 : Int) < (m : Int) := by omega
    clear hm
    go_enter Tryd.func11, Tryd.ntmps11
    go_wp2_with fail
    refine (awake34_c ht).mono ?_
    rintro x w5 ⟨rfl, hb5⟩
    go_wp2_with fail
    go_ret
    exact ⟨rfl, hb5⟩
end Go.Proofs.YtmmbonlidcbkcaaDoor.WalkMacKeys
