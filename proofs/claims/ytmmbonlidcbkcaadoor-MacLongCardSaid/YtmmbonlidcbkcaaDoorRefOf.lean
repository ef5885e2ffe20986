/- hypogeumref02.Of, walked: the sum of bytes. -/
import Derived.Test.YtmmbonlidcbkcaaDoorRefBlock
namespace Go.Proofs.YtmmbonlidcbkcaaDoor.RefOf
open Go.RowKit Go.Proofs.YtmmbonlidcbkcaaDoorW.PrintWords Go.Proofs.YtmmbonlidcbkcaaDoor.Num Go.Proofs.YtmmbonlidcbkcaaDoor.Sha Go.Proofs.YtmmbonlidcbkcaaDoor.WordC Go.Proofs.YtmmbonlidcbkcaaDoor.Arr Go.Proofs.YtmmbonlidcbkcaaDoor.App Go.Proofs.YtmmbonlidcbkcaaDoor.DgC Go.Proofs.YtmmbonlidcbkcaaDoor.DgWords Go.Proofs.YtmmbonlidcbkcaaDoor.DgBlock Go.Proofs.YtmmbonlidcbkcaaDoor.RefBlock
set_option linter.unusedVariables false
set_option linter.unusedSimpArgs false

/-- One byte in a block of its own. -/
theorem rd_one (w : World) (x : Int) : Rd (w.alloc (.cells #[.int .u8 x] 5)) (some ⟨w.heap.size, 0, none⟩) 1 1 [x] :=
  rd_of_blk (t := 5) (cs := [.int .u8 x]) (heap_alloc_new _ _) 0 [x] 1 (Nat.le_refl _) (by simp) (fun j hj => by
    have : j = 0 := by simp at hj; omega
    subst this; rfl)
theorem outS_take (s : H8) (i : Nat) (h : i < 8) : (outS s).take (4 * i) ++ told 4 (s.list.getD i 0) = (outS s).take (4 * (i + 1)) := by
  have hc : i = 0 ∨ i = 1 ∨ i = 2 ∨ i = 3 ∨ i = 4 ∨ i = 5 ∨ i = 6 ∨ i = 7 := by omega
  rcases hc with rfl | rfl | rfl | rfl | rfl | rfl | rfl | rfl <;> rfl
theorem storeW_told (x : Int) : storeW x false = told 4 x := rfl
set_option maxHeartbeats 8000000 in
set_option maxRecDepth 100000 in
theorem refof_c {A : Option Addr} {n c : Nat} {l : List Int} {w : World} (hr : Rd w A n c l) (hb : IsB l) (hn : n ≤ 140737488351232) :
    Calls Tryd.prog 27 #[.slice A n c] w fun e w' => ∃ v, e = .returned v ∧ Ow w' w.heap.size v (shaS l) ∧ Below w.heap.size w w' := by
  have hrA := hr.alloc (.cells #[] 5)
  have hbE : Below w.heap.size w (w.alloc (.cells #[] 5)) := (Below.refl _ _).alloc (Nat.le_refl _) _
  have hl := hr.len
  have HL := Aside0.mk hl
  clear hl
  go_enter Tryd.func27, Tryd.ntmps27
  go_wp2_with (first
    | (at_builtin; refine append_ow (w0 := w) w.heap.size rfl (.tmp 8) (.tmp 9) rfl _ [] l A n c rfl rfl (ow_empty w _ (Nat.le_refl _)) hrA hbE (by simp) (by simp; omega) ?_; intro v1 w1 ho1 hb1 hx1 hy1; clear hx1 hy1; rw [List.nil_append] at ho1; obtain ⟨A1, c1, rfl, hr1⟩ := rd_of_own ho1)
    | (at_builtin; refine append_ow (w0 := w) w.heap.size rfl (.tmp 10) (.tmp 11) rfl (.slice A1 l.length c1) l [128] (some ⟨w1.heap.size, 0, none⟩) 1 1 rfl rfl (Kd.R_alloc ho1 _) (rd_one w1 128) (hb1.alloc hb1.size _) (Nat.le_trans hb1.size (by simp)) (by have h9 := HL.out; omega) ?_; intro v2 w2 ho2 hb2 hx2 hy2; clear hx2 hy2; obtain ⟨A2, c2, rfl, hr2⟩ := rd_of_own ho2))
  have H2 : Aside0 (Ow w2 w.heap.size (.slice A2 (l.length + 1) c2) (l ++ 128 :: List.replicate 0 0)) := ⟨by simpa using ho2⟩
  clear ho1 ho2 hr1 hr2 hb1 hbE hrA
  go_loopw [3] (fun v wq => ∃ (k : Nat) (vv : Value), k ≤ zerosS n ∧ vv = v ∧ Aside0 (Ow wq w.heap.size vv (l ++ 128 :: List.replicate k 0)) ∧ Below w.heap.size w wq) (fun v _ => 70 + n - (match v with | .slice _ m _ => m | _ => 0))
  case atStart => exact ⟨0, _, by omega, rfl, H2, hb2⟩
  case round =>
    obtain ⟨k, vv, hk, rfl, hO, hB⟩ := hrel
    obtain ⟨A3, c3, rfl, hr3⟩ := rd_of_own hO.out
    have hM : (l ++ 128 :: List.replicate k 0).length = n + 1 + k := by simp [HL.out]; omega
    by_cases hlt : k < zerosS n
    · have h56 : ((n + 1 + k : Nat) : Int) % 64 ≠ 56 := by unfold zerosS at hlt; omega
      rw [hM] at hr3 ⊢
      have HO : Aside0 (Ow wr w.heap.size (.slice A3 (n + 1 + k) c3) (l ++ 128 :: List.replicate k 0)) := ⟨by have h := hO.out; rw [hM] at h; exact h⟩
      have HM := Aside0.mk hM
      clear hM hO
      have hk64 : k < 64 := by unfold zerosS at hlt; omega
      go_wp2_with (first
        | (at_builtin; refine append_ow (w0 := w) w.heap.size rfl (.tmp 17) (.tmp 18) rfl (.slice A3 (n + 1 + k) c3) (l ++ 128 :: List.replicate k 0) [0] (some ⟨wr.heap.size, 0, none⟩) 1 1 rfl rfl (Kd.R_alloc HO.out _) (rd_one wr 0) (hB.alloc hB.size _) (Nat.le_trans hB.size (by simp)) (by rw [HM.out]; omega) ?_; intro v4 w4 ho4 hb4 hx4 hy4; clear hx4 hy4; rw [List.append_assoc, List.cons_append, ← List.replicate_succ'] at ho4; obtain ⟨A4, c4, rfl, hr4⟩ := rd_of_own ho4))
      go_roundw
      case rel => exact ⟨k + 1, _, by omega, rfl, ⟨by have h := ho4; simp only [List.length_append, List.length_cons, List.length_replicate] at h; exact h⟩, hb4⟩
      case measure =>
        have h9 := HL.out
        show 70 + n - (l.length + (k + 1 + 1)) < 70 + n - (n + 1 + k)
        clear h56 hlt
        omega
    · have hkz : k = zerosS n := by omega
      have h56 : ((n + 1 + k : Nat) : Int) % 64 = 56 := by rw [hkz]; unfold zerosS; omega
      rw [hM] at hr3 ⊢
      have HO : Aside0 (Ow wr w.heap.size (.slice A3 (n + 1 + k) c3) (l ++ 128 :: List.replicate (zerosS n) 0)) := ⟨by have h := hO.out; rw [hM] at h; rw [← hkz]; exact h⟩
      have hk64 : k < 64 := by rw [hkz]; unfold zerosS; omega
      have HM := Aside0.mk hM
      have HKZ := Aside0.mk hkz
      clear hM hO hkz hlt hk
      go_wp2_with fail
      refine (Told_c (a := (n : Int) * 8) (by omega) (by omega) 8 (by omega) rfl).mono ?_
      rintro x w4 ⟨v4, rfl, ho4, hb4⟩
      obtain ⟨A4, c4, rfl, hr4⟩ := rd_of_own ho4
      have l8 := told_length 8 ((n : Int) * 8)
      rw [l8] at hr4 ⊢
      have hO4 : Ow w4 w.heap.size (.slice A3 (n + 1 + k) c3) (l ++ 128 :: List.replicate (zerosS n) 0) := Kd.R_below HO.out hb4
      have hB4 := below_next hB hb4
      clear l8
      go_wp2_with (first
        | (at_builtin; refine append_ow (w0 := w) w.heap.size rfl (.tmp 20) (.tmp 25) rfl (.slice A3 (n + 1 + k) c3) (l ++ 128 :: List.replicate (zerosS n) 0) (told 8 ((n : Int) * 8)) A4 8 c4 rfl rfl hO4 hr4 hB4 hB4.size (by rw [← HKZ.out, HM.out]; omega) ?_; intro v5 w5 ho5 hb5 hx5 hy5; clear hx5 hy5; obtain ⟨A5, c5, rfl, hr5⟩ := rd_of_own ho5))
      obtain ⟨P, HP⟩ : ∃ P, Aside0 (paddedS l = P) := ⟨_, ⟨rfl⟩⟩
      have hPe : (l ++ 128 :: List.replicate (zerosS n) 0) ++ told 8 ((n : Int) * 8) = P := by
        rw [← HP.out]; unfold paddedS endS; rw [HL.out]; simp
      have hPl : l.length + (zerosS n + (told 8 ((n : Int) * 8)).length + 1) = P.length := by rw [← hPe]; simp
      have hPs : P.length ≤ 140737488355328 := by rw [← hPl, told_length]; have h9 := HL.out; have h10 := HKZ.out; omega
      have hPm : P.length % 64 = 0 := by rw [← HP.out]; exact padded_blocks l
      have hPB : IsB P := by rw [← HP.out]; exact paddedS_isB hb
      have hR5 : Rd w5 A5 P.length c5 P := by rw [hPe] at hr5; exact hr5
      rw [hPl]
      refine first_c.mono ?_
      rintro x w6 ⟨v6, rfl, ho6, hb6⟩
      obtain ⟨g6, c6, rfl, hg6, hc6, hL6⟩ := lie_of_own ho6 (by show 0 < 8; omega)
      have h8 : first8.list.length = 8 := rfl
      rw [h8] at hc6 ⊢
      clear h8
      go_wp2_with fail
      have HR5 := Aside0.mk (hR5.below hb6)
      have HL6 : Aside0 (Lie w6 g6 (blocksS 0 first8 P).list) := ⟨hL6⟩
      have HB6 := below_next hb5 hb6
      go_loopw [5, 4] (fun i v wq => ∃ j g cc : Nat, 64 * j ≤ P.length ∧ i = .int .i64 ((64 * j : Nat) : Int) ∧ v = .slice (some ⟨g, 0, none⟩) 8 cc ∧ Aside0 (Lie wq g (blocksS j first8 P).list) ∧ Aside0 (Rd wq A5 P.length c5 P) ∧ Below w.heap.size w wq) (fun i _ _ => P.length - (intOf i).toNat)
      case atStart => exact ⟨0, g6, c6, by omega, rfl, rfl, HL6, HR5, HB6⟩
      case round =>
        obtain ⟨j, g, cc, hj, rfl, rfl, hG, hRd, hB7⟩ := hrel
        by_cases hlt : 64 * j < P.length
        · obtain ⟨A8, c8, hcut, hR8⟩ := rd_slice hRd.out (64 * j) (64 * j + 64) (x := 64 * (j : Int)) (y := 64 * (j : Int) + 64) (by omega) (by omega) (by omega) (by omega)
          rw [show 64 * j + 64 - 64 * j = 64 by omega] at hcut hR8
          have hI : IsB ((P.take (64 * j + 64)).drop (64 * j)) := fun x hx => hPB x (List.mem_of_mem_take (List.mem_of_mem_drop hx))
          have hw : wrap64 (64 * (j : Int) + 64) = 64 * (j : Int) + 64 := IntWalk.wrap64_in _ (by omega)
          have hlt' : ((64 * j : Nat) : Int) < (P.length : Int) := by omega
          go_wp2_with fail
          refine (refblock_c (blocksS_ok first8_ok j P) hG.out hR8 hI).mono ?_
          rintro x w8 ⟨v8, rfl, ho8, hb8⟩
          obtain ⟨g8, c8', rfl, hg8, hc8, hL8⟩ := lie_of_own ho8 (by show 0 < 8; omega)
          have hnext : blockS (blocksS j first8 P) ((P.take (64 * j + 64)).drop (64 * j)) = blocksS (j + 1) first8 P := by
            rw [blocksS_add j 1, List.drop_take, show 64 * j + 64 - 64 * j = 64 by omega]
            rfl
          rw [hnext] at hL8
          have HL8 := Aside0.mk hL8
          have HR8 := Aside0.mk (hRd.out.below hb8)
          have hB8 := below_next hB7 hb8
          rw [show (blockS (blocksS j first8 P) ((P.take (64 * j + 64)).drop (64 * j))).list.length = 8 from rfl]
          go_wp2_with fail
          go_roundw
          case rel => exact ⟨j + 1, g8, c8', by omega, by go_num, rfl, HL8, HR8, hB8⟩
          case measure => simp [intOf]; omega
        · have hend : 64 * j = P.length := by omega
          have hge : ¬ ((64 * j : Nat) : Int) < (P.length : Int) := by omega
          have hsh : shaS l = outS (blocksS j first8 P) := by
            unfold shaS; rw [HP.out, show P.length / 64 = j by omega]
          have hH := blocksS_ok first8_ok j P
          obtain ⟨H, HE⟩ : ∃ H, Aside0 (blocksS j first8 P = H) := ⟨_, ⟨rfl⟩⟩
          rw [HE.out] at hsh hG hH
          have HSH := Aside0.mk hsh
          clear hsh hend
          go_wp2_with fail
          obtain ⟨wo, rfl⟩ : ∃ wo, wo = wr := ⟨_, rfl⟩
          have HZ0 : Aside0 (Ow wo wo.heap.size (.slice none 0 0) ((outS H).take (4 * 0))) := ⟨Kd.R_nil _ _ _ _ _⟩
          go_loopw [7, 6] (fun i v wq => ∃ (T : Nat) (vv : Value), T ≤ 8 ∧ i = .int .i64 T ∧ vv = v ∧ Aside0 (Ow wq wo.heap.size vv ((outS H).take (4 * T))) ∧ Below wo.heap.size wo wq) (fun i _ _ => 8 - (intOf i).toNat)
          case atStart => exact ⟨0, _, by omega, rfl, rfl, HZ0, Below.refl _ _⟩
          case round =>
            obtain ⟨T, vv, hT8, rfl, rfl, hO, hQ⟩ := hrel
            by_cases hlt : T < 8
            · have hlt' : (T : Int) < 8 := by omega
              have cX : wr.cell? ⟨g, T, none⟩ = some (.int .u32 (H.list.getD T 0)) := (hG.out.below hQ).cell T hlt
              have hx := getD_isW hH T
              have hnext := outS_take H T hlt
              have HNEXT := Aside0.mk hnext
              clear hnext
              generalize H.list.getD T 0 = x1 at *
              have hlen : ((outS H).take (4 * T)).length = 4 * T := by rw [List.length_take, outS_length]; omega
              have hb7 := below_next hB7 hQ
              have HLEN := Aside0.mk hlen
              clear hlen
              go_wp2_with fail
              refine (refStore_c hx.1 hx.2 false).mono ?_
              rintro x w9 ⟨v9, rfl, ho9, hb9⟩
              obtain ⟨A9, c9, rfl, hr9⟩ := rd_of_own ho9
              rw [storeW_length] at hr9 ⊢
              have hO9 : Ow w9 wo.heap.size vv ((outS H).take (4 * T)) := Kd.R_below hO.out hb9
              have hQ9 := below_next hQ hb9
              clear ho9
              go_wp2_with (first
                | (at_builtin; refine append_ow (w0 := wo) wo.heap.size rfl (.tmp 45) (.tmp 50) rfl vv ((outS H).take (4 * T)) (storeW x1 false) A9 4 c9 rfl rfl hO9 hr9 hQ9 hQ9.size (by rw [HLEN.out]; omega) ?_; intro v10 w10 ho10 hb10 hx10 hy10; clear hx10 hy10; rw [storeW_told, HNEXT.out] at ho10; have HO10 := Aside0.mk ho10; clear ho10))
              go_roundw
              case rel => exact ⟨T + 1, v10, by omega, by go_num, rfl, ⟨HO10.out⟩, hb10⟩
              case measure => simp [intOf]; omega
            · have hge : ¬ (T : Int) < 8 := by omega
              have h8 : T = 8 := by omega
              have HE : Ow wr w.heap.size vv (shaS l) := by
                have h1 := hO.out
                rw [h8] at h1
                rw [HSH.out]
                have e : (outS H).take (4 * 8) = outS H := List.take_of_length_le (by rw [outS_length]; omega)
                rw [e] at h1
                exact Kd.R_lower h1 hB7.size
              clear h8
              go_wp2_with fail
              go_ret
              exact ⟨_, rfl, HE, below_next hB7 hQ⟩
end Go.Proofs.YtmmbonlidcbkcaaDoor.RefOf
