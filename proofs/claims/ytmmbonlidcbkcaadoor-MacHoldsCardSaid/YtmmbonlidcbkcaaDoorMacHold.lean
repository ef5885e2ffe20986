/- word.Same and (*mac.Key).Holds, walked. -/
import Derived.Test.YtmmbonlidcbkcaaDoorMacLaw
namespace Go.Proofs.YtmmbonlidcbkcaaDoor.MacHold
open Go.RowKit Go.Proofs.YtmmbonlidcbkcaaDoorW.PrintWords Go.Proofs.YtmmbonlidcbkcaaDoor.Num Go.Proofs.YtmmbonlidcbkcaaDoor.Sha Go.Proofs.YtmmbonlidcbkcaaDoor.Hmac Go.Proofs.YtmmbonlidcbkcaaDoor.WordC Go.Proofs.YtmmbonlidcbkcaaDoor.Arr Go.Proofs.YtmmbonlidcbkcaaDoor.App Go.Proofs.YtmmbonlidcbkcaaDoor.DgC Go.Proofs.YtmmbonlidcbkcaaDoor.DgBlock Go.Proofs.YtmmbonlidcbkcaaDoor.DgState Go.Proofs.YtmmbonlidcbkcaaDoor.DgAdd Go.Proofs.YtmmbonlidcbkcaaDoor.DgSum Go.Proofs.YtmmbonlidcbkcaaDoor.DgOf Go.Proofs.YtmmbonlidcbkcaaDoor.DgLaw Go.Proofs.YtmmbonlidcbkcaaDoor.DgWords Go.Proofs.YtmmbonlidcbkcaaDoor.MacC Go.Proofs.YtmmbonlidcbkcaaDoor.DgCopy Go.Proofs.YtmmbonlidcbkcaaDoor.MacNew Go.Proofs.YtmmbonlidcbkcaaDoor.MacTag Go.Proofs.YtmmbonlidcbkcaaDoor.MacLaw Go.Proofs.YtmmbonlidcbkcaaDoor.RefOf
set_option linter.unusedVariables false
set_option linter.unusedSimpArgs false
theorem take_next {l l' : List Int} {T : Nat} (h : T < l.length) (h' : T < l'.length) : l.take (T + 1) = l'.take (T + 1) ↔ l.take T = l'.take T ∧ l.getD T 0 = l'.getD T 0 := by
  have e : l.take (T + 1) = l.take T ++ [l.getD T 0] := by rw [List.take_add_one, List.getD_eq_getElem?_getD, List.getElem?_eq_getElem h]; rfl
  have e' : l'.take (T + 1) = l'.take T ++ [l'.getD T 0] := by rw [List.take_add_one, List.getD_eq_getElem?_getD, List.getElem?_eq_getElem h']; rfl
  rw [e, e']
  constructor
  · intro hh
    have := List.append_inj hh (by rw [List.length_take, List.length_take]; omega)
    exact ⟨this.1, by simpa using this.2⟩
  · rintro ⟨h1, h2⟩; rw [h1, h2]
theorem getD_isB {l : List Int} (h : IsB l) (T : Nat) : 0 ≤ l.getD T 0 ∧ l.getD T 0 < 256 := by
  rw [List.getD_eq_getElem?_getD]
  cases e : l[T]? with
  | none => simp
  | some x => exact h x (List.mem_of_getElem? e)
set_option maxHeartbeats 2000000 in
set_option maxRecDepth 100000 in
theorem same73_c {A B : Option Addr} {n c m d : Nat} {l l' : List Int} {w : World} (hr : Rd w A n c l) (hr' : Rd w B m d l') (hB : IsB l) (hB' : IsB l') (hn : n ≤ 140737488351232) :
    Calls Tryd.prog 73 #[.slice A n c, .slice B m d] w fun e w' => e = .returned (.bool (eqB l l')) ∧ w' = w := by
  have hln := hr.len
  have hlm := hr'.len
  by_cases he : n = m
  · subst he
    have HLN := Aside0.mk hln
    have HLM := Aside0.mk hlm
    clear hln hlm
    go_enter Tryd.func73, Tryd.ntmps73
    go_wp2_with fail
    have H0 : Aside0 ((0 : Int) = 0 ↔ l.take 0 = l'.take 0) := ⟨by simp⟩
    go_loopw [15, 5] (fun i x wr => ∃ (T : Nat) (y : Int), T ≤ n ∧ i = .int .i64 T ∧ x = .int .u8 y ∧ 0 ≤ y ∧ y < 256 ∧ Aside0 (y = 0 ↔ l.take T = l'.take T) ∧ wr = w) (fun i _ _ => n - (intOf i).toNat)
    case atStart => exact ⟨0, 0, by omega, rfl, rfl, by omega, by omega, H0, rfl⟩
    case round =>
      clear H0
      obtain ⟨T, y, hT, rfl, rfl, hy0, hy1, hY, rfl⟩ := hrel
      by_cases hlt : T < n
      · have hlt' : (T : Int) < (n : Int) := by omega
        obtain ⟨ad, rfl, hc1⟩ := rd_at hr T hlt
        obtain ⟨ad', rfl, hc2⟩ := rd_at hr' T hlt
        have ha := getD_isB hB T
        have hb := getD_isB hB' T
        have hnx := take_next (l := l) (l' := l') (T := T) (by rw [HLN.out]; exact hlt) (by rw [HLM.out]; exact hlt)
        generalize l.getD T 0 = a at hc1 ha hnx
        generalize l'.getD T 0 = b at hc2 hb hnx
        have hu := unlike y a b ⟨hy0, hy1⟩ ha hb
        have hnew : Aside0 (Go.bits .or .u8 y (Go.bits .xor .u8 a b) = 0 ↔ l.take (T + 1) = l'.take (T + 1)) := ⟨by rw [hu.2, hnx, hY.out]⟩
        have hu1 := hu.1
        have HU := Aside0.mk hu1
        clear hu hnx hu1 ha hb
        go_wp2_with fail
        go_roundw
        case rel => exact ⟨T + 1, _, by omega, by go_num, rfl, HU.out.1, HU.out.2, hnew, trivial⟩
        case measure => simp [intOf]; omega
      · have hge : ¬ (T : Int) < (n : Int) := by omega
        have hTn : T = n := by omega
        have hY' := hY.out
        rw [hTn, List.take_of_length_le (by rw [HLN.out]; omega), List.take_of_length_le (by rw [HLM.out]; omega)] at hY'
        clear hY
        by_cases hy : y = 0
        · have heq := hY'.1 hy
          clear hY'
          subst heq
          subst hy
          have HQ : Aside0 (eqB l l = true) := ⟨eqB_self l⟩
          go_wp2_with fail
          go_ret
          exact ⟨by rw [HQ.out]; rfl, rfl⟩
        · have HQ : Aside0 (eqB l l' = false) := ⟨by rw [Bool.eq_false_iff]; intro h; exact hy (hY'.2 (eqB_iff.1 h))⟩
          clear hY'
          have hyb : (y == 0) = false := by simp [hy]
          go_wp2_with fail
          go_ret
          exact ⟨by rw [HQ.out]; rfl, rfl⟩
  · have hne : ¬ (n : Int) = (m : Int) := by omega
    have HQ : Aside0 (eqB l l' = false) := ⟨by rw [Bool.eq_false_iff]; intro h; have := eqB_iff.1 h; subst this; omega⟩
    go_enter Tryd.func73, Tryd.ntmps73
    go_wp2_with fail
    go_ret
    exact ⟨by rw [HQ.out]; rfl, rfl⟩
set_option maxHeartbeats 2000000 in
set_option maxRecDepth 100000 in
theorem holds42_c {base kb : Nat} {key s : List Int} {A B : Option Addr} {n c m d : Nat} {ll : List (List Int)} {w : World} (hK : Ky w base kb key) (hr : Rd w A n c s) (hS : IsB s) (hP : Pt w B m d ll) (hB : ∀ l ∈ ll, IsB l) (hl : 64 + ll.flatten.length ≤ 140737488351232) (ht : Tb w) :
    Calls Tryd.prog 42 #[.pointer (some ⟨kb, 0, none⟩), .slice A n c, .slice B m d] w fun e w' => e = .returned (.bool (eqB (tagS key ll.flatten) s)) ∧ Below w.heap.size w w' := by
  have hl32 := tagS_length key ll.flatten
  have hIT := tagS_isB key ll.flatten
  have HTT : Aside0 (tagS key ll.flatten = tagS key ll.flatten) := ⟨rfl⟩
  obtain ⟨T, HT⟩ : ∃ T, Aside0 (tagS key ll.flatten = T) := ⟨_, ⟨rfl⟩⟩
  rw [HT.out] at hl32 hIT
  have HL := Aside0.mk hl32
  clear hl32
  go_enter Tryd.func42, Tryd.ntmps42
  go_wp2_with fail
  refine (Tag_c hK hP hB hl ht).mono ?_
  rintro x w2 ⟨rfl, hb2⟩
  rw [HT.out]
  go_wp2_with (first
    | (refine store_arr rfl 27 (.tmp 7) (.tmp 10) rfl w2.heap.size .u8 T rfl rfl 27 32 _ (heap_alloc_new _ _) size27 HL.out rfl ?_; intro w3 hO3 hg3; have hb3 := (hb2.alloc hb2.size _).grown hg3 (Nat.le_trans hb2.size (by simp)) (fun k hk => by cases hk; exact hb2.size); have hr3 := rd_blk32 hO3 HL.out; clear hO3 hg3))
  refine (same73_c hr3 (hr.below hb3) hIT hS (by omega)).mono ?_
  rintro x w4 ⟨rfl, rfl⟩
  go_wp2_with fail
  go_ret
  exact ⟨by rw [HT.out]; rfl, hb3⟩
theorem holds42_1 {base kb k : Nat} {key s l : List Int} {A B : Option Addr} {n c m d : Nat} {w : World} (hk : k = w.heap.size) (hK : Ky w base kb key) (hr : Rd w A n c s) (hS : IsB s) (hr' : Rd w B m d l) (hB : IsB l) (hl : m ≤ 140737488350000) (ht : Tb w) :
    Calls Tryd.prog 42 #[.pointer (some ⟨kb, 0, none⟩), .slice A n c, .slice (some ⟨k, 0, none⟩) 1 1] (w.alloc (.cells #[.slice B m d] 22)) fun e w' => e = .returned (.bool (eqB (tagS key l) s)) ∧ Below w.heap.size w w' := by
  subst hk
  have hb0 : Below w.heap.size w (w.alloc (.cells #[.slice B m d] 22)) := (Below.refl _ w).alloc (Nat.le_refl _) _
  refine (holds42_c (hK.below hb0) (hr.below hb0) hS (pt_one hr') (isB_one hB) (by rw [flat_one, hr'.len]; omega) (ht.below hb0)).mono ?_
  rintro e w' ⟨rfl, hb⟩
  rw [flat_one]
  exact ⟨rfl, hb0.trans (hb.mono (by simp))⟩
end Go.Proofs.YtmmbonlidcbkcaaDoor.MacHold
