/- hypogeumref02.block, walked: one block. -/
import Derived.Test.YtmmbonlidcbkcaaDoorDgBlock
namespace Go.Proofs.YtmmbonlidcbkcaaDoor.RefBlock
open Go.RowKit Go.Proofs.YtmmbonlidcbkcaaDoorW.PrintWords Go.Proofs.YtmmbonlidcbkcaaDoor.Num Go.Proofs.YtmmbonlidcbkcaaDoor.Sha Go.Proofs.YtmmbonlidcbkcaaDoor.WordC Go.Proofs.YtmmbonlidcbkcaaDoor.Arr Go.Proofs.YtmmbonlidcbkcaaDoor.App Go.Proofs.YtmmbonlidcbkcaaDoor.DgC Go.Proofs.YtmmbonlidcbkcaaDoor.DgWords Go.Proofs.YtmmbonlidcbkcaaDoor.DgBlock
set_option linter.unusedVariables false
set_option linter.unusedSimpArgs false

/-- Words that lie in a block from its start on. -/
def Lie (w : World) (g : Nat) (l : List Int) : Prop := ∃ cs t fr, w.heap[g]? = some (.cells cs t fr) ∧ ∀ j, j < l.length → cs[j]? = some (.int .u32 (l.getD j 0))
theorem Lie.lt {w : World} {g : Nat} {l : List Int} (h : Lie w g l) : g < w.heap.size := by
  obtain ⟨cs, t, fr, h, _⟩ := h
  exact (Array.getElem?_eq_some_iff.1 h).1
theorem Lie.cell {w : World} {g : Nat} {l : List Int} (h : Lie w g l) (j : Nat) (hj : j < l.length) : w.cell? ⟨g, j, none⟩ = some (.int .u32 (l.getD j 0)) := by
  obtain ⟨cs, t, fr, h, hc⟩ := h
  rw [cell_of_row w g j cs t fr h]; exact hc j hj
theorem Lie.below {w w1 : World} {g : Nat} {l : List Int} (h : Lie w g l) (hb : Below w.heap.size w w1) : Lie w1 g l := by
  have hl := h.lt
  obtain ⟨cs, t, fr, h, hc⟩ := h
  exact ⟨cs, t, fr, (hb.block g hl).trans h, hc⟩
theorem Lie.alloc {w : World} {g : Nat} {l : List Int} (h : Lie w g l) (o : Obj) : Lie (w.alloc o) g l := by
  have hl := h.lt
  obtain ⟨cs, t, fr, h, hc⟩ := h
  exact ⟨cs, t, fr, (Below.heap_alloc w o g hl).trans h, hc⟩
theorem Lie.grown {w w' : World} {g : Nat} {p : Option Nat} {l : List Int} (h : Lie w g l) (hg : w.grownBy w' p) (hne : some g ≠ p) : Lie w' g l := by
  have hl := h.lt
  obtain ⟨cs, t, fr, h, hc⟩ := h
  exact ⟨cs, t, fr, (hg.block g hl hne).trans h, hc⟩
theorem lie_new (w : World) (t : Nat) (l : List Int) : Lie (w.alloc (.cells (nums .u32 l).toArray t)) w.heap.size l :=
  ⟨(nums .u32 l).toArray, t, (0, 0), heap_alloc_new _ _, fun j hj => by simpa using nums_get .u32 l j hj⟩
theorem lie_of_own {w : World} {base : Nat} {v : Value} {l : List Int} (h : OwW w base v l) (hp : 0 < l.length) : ∃ g c, v = .slice (some ⟨g, 0, none⟩) l.length c ∧ base ≤ g ∧ l.length ≤ c ∧ Lie w g l := by
  have ho := Kd.own_of_R h
  obtain ⟨hlen, (⟨_, hz⟩ | ⟨g, cap, cur, hv, hb, hg, hnc, hcm, hcs, htake⟩)⟩ := ho
  · omega
  · refine ⟨g, cap, hv, hb, hnc, cur, 88, (0, 0), hg, fun j hj => ?_⟩
    have h1 := congrArg (·[j]?) htake
    simp only [List.getElem?_take, Nat.mul_one, hj, if_true, encs, List.getElem?_map, List.getElem?_eq_getElem hj, Option.map_some] at h1
    rw [List.getD_eq_getElem?_getD, List.getElem?_eq_getElem hj]
    simpa using h1
theorem infoW : (Tryd.prog.info? 88).map (fun i => (i.zero, i.size, i.bytes)) = some (some (.int .u32 0), 1, 4) := by kernel_rfl
theorem addS_take (s r : H8) (i : Nat) (h : i < 8) : (addS s r).list.take i ++ [(s.list.getD i 0 + r.list.getD i 0) % 4294967296] = (addS s r).list.take (i + 1) := by
  have hc : i = 0 ∨ i = 1 ∨ i = 2 ∨ i = 3 ∨ i = 4 ∨ i = 5 ∨ i = 6 ∨ i = 7 := by omega
  rcases hc with rfl | rfl | rfl | rfl | rfl | rfl | rfl | rfl <;> rfl
set_option maxHeartbeats 8000000 in
set_option maxRecDepth 100000 in
theorem refblock_c {A : Option Addr} {c : Nat} {l : List Int} {g0 c0 : Nat} {s : H8} {w : World} (hs : s.ok) (h0 : Lie w g0 s.list) (hr : Rd w A 64 c l) (hb : IsB l) :
    Calls Tryd.prog 67 #[.slice (some ⟨g0, 0, none⟩) 8 c0, .slice A 64 c] w fun e w' => ∃ v, e = .returned v ∧ OwW w' w.heap.size v (blockS s l).list ∧ Below w.heap.size w w' := by
  go_enter Tryd.func67, Tryd.ntmps67
  go_wp2_with fail
  refine (refwords_c hr hb).mono ?_
  rintro x w1 ⟨v1, rfl, ho1, hb1⟩
  obtain ⟨S, HSE⟩ : ∃ S, Aside0 (schedS l = S) := ⟨_, ⟨rfl⟩⟩
  have hSL := schedS_length l
  rw [HSE.out] at ho1 hSL
  obtain ⟨g1, c1, rfl, hg1, hc1, hL1⟩ := lie_of_own ho1 (by omega)
  rw [hSL] at hc1 ⊢
  have HSL := Aside0.mk hSL
  clear hSL ho1
  go_wp2_with fail
  refine keys_c.mono ?_
  rintro x w2 ⟨v2, rfl, ho2, hb2⟩
  obtain ⟨g2, c2, rfl, hg2, hc2, hL2⟩ := lie_of_own ho2 (by show 0 < 64; omega)
  have hk64 : keysS.length = 64 := rfl
  rw [hk64] at hc2 ⊢
  clear hk64 ho2
  go_wp2_with fail
  have H0 : Aside0 (Lie w2 g0 s.list) := ⟨(h0.below hb1).below hb2⟩
  have H1 : Aside0 (Lie w2 g1 S) := ⟨hL1.below hb2⟩
  have H2 : Aside0 (Lie w2 g2 keysS) := ⟨hL2⟩
  have HB : Below w.heap.size w w2 := below_next hb1 hb2
  clear hL1 hL2 hb1 hb2 hg1 hg2 h0
  go_loopw [8, 7] (fun i v wr => ∃ t g cc : Nat, t ≤ 64 ∧ i = .int .i64 t ∧ v = .slice (some ⟨g, 0, none⟩) 8 cc ∧ Aside0 (Lie wr g (roundsS s S t).list) ∧ Aside0 (Lie wr g0 s.list) ∧ Aside0 (Lie wr g1 S) ∧ Aside0 (Lie wr g2 keysS) ∧ Below w.heap.size w wr) (fun i _ _ => 64 - (intOf i).toNat)
  case atStart => exact ⟨0, g0, c0, by omega, rfl, rfl, H0, H0, H1, H2, HB⟩
  case round =>
    obtain ⟨t, g, cc, ht64, rfl, rfl, hV, hG0, hG1, hG2, hB⟩ := hrel
    by_cases hlt : t < 64
    · have hlt' : (t : Int) < 64 := by omega
      have hR := roundsS_ok hs S t
      obtain ⟨R, HRE⟩ : ∃ R, Aside0 (roundsS s S t = R) := ⟨_, ⟨rfl⟩⟩
      rw [HRE.out] at hV hR
      obtain ⟨a1, a2, a3, a4, a5, a6, a7, a8⟩ := R
      rw [H8.ok_iff] at hR
      have k1 : wr.cell? ⟨g, 0, none⟩ = some (.int .u32 a1) := hV.out.cell 0 (by show 0 < 8; omega)
      have k2 : wr.cell? ⟨g, 1, none⟩ = some (.int .u32 a2) := hV.out.cell 1 (by show 1 < 8; omega)
      have k3 : wr.cell? ⟨g, 2, none⟩ = some (.int .u32 a3) := hV.out.cell 2 (by show 2 < 8; omega)
      have k4 : wr.cell? ⟨g, 3, none⟩ = some (.int .u32 a4) := hV.out.cell 3 (by show 3 < 8; omega)
      have k5 : wr.cell? ⟨g, 4, none⟩ = some (.int .u32 a5) := hV.out.cell 4 (by show 4 < 8; omega)
      have k6 : wr.cell? ⟨g, 5, none⟩ = some (.int .u32 a6) := hV.out.cell 5 (by show 5 < 8; omega)
      have k7 : wr.cell? ⟨g, 6, none⟩ = some (.int .u32 a7) := hV.out.cell 6 (by show 6 < 8; omega)
      have k8 : wr.cell? ⟨g, 7, none⟩ = some (.int .u32 a8) := hV.out.cell 7 (by show 7 < 8; omega)
      have kW : wr.cell? ⟨g1, t, none⟩ = some (.int .u32 (S.getD t 0)) := hG1.out.cell t (by rw [HSL.out]; exact hlt)
      have kK : wr.cell? ⟨g2, t, none⟩ = some (.int .u32 (keysS.getD t 0)) := hG2.out.cell t hlt
      generalize hkx : keysS.getD t 0 = kx at *
      generalize hwx : S.getD t 0 = wx at *
      have HKX := Aside0.mk hkx
      have HWX := Aside0.mk hwx
      clear hkx hwx
      go_wp2_with fail
      go_region_held3 (fun w' => w'.cell? ⟨g, 5, none⟩ = some (.int .u32 a6) ∧ w'.cell? ⟨g, 6, none⟩ = some (.int .u32 a7) ∧ w'.cell? ⟨g, 7, none⟩ = some (.int .u32 a8) ∧ w'.cell? ⟨g1, t, none⟩ = some (.int .u32 wx) ∧ w'.cell? ⟨g2, t, none⟩ = some (.int .u32 kx))
        (first | exact ⟨k6, k7, k8, kW, kK⟩ | go_keep)
        (first | (go_at_call 83; (with_reducible refine (right_c hR.2.2.2.2.1.1 hR.2.2.2.2.1.2 (by omega)).mono ?_); rintro x w4 ⟨rfl, ⟨n4, rfl⟩⟩))
      generalize hU : IntKind.u32.wrap (IntKind.u32.wrap _ + wx) = U
      have HU := Aside0.mk hU
      clear hU
      go_wp2_with fail
      go_region_held3 (fun w' => w'.cell? ⟨g, 1, none⟩ = some (.int .u32 a2) ∧ w'.cell? ⟨g, 2, none⟩ = some (.int .u32 a3))
        (first | exact ⟨k2, k3⟩ | go_keep)
        (first | (go_at_call 83; (with_reducible refine (right_c hR.1.1 hR.1.2 (by omega)).mono ?_); rintro x w5 ⟨rfl, ⟨n5, rfl⟩⟩))
      generalize hV' : IntKind.u32.wrap (bits BinOp.xor IntKind.u32 _ (turn a1 (-22)) + _) = V
      have HV' := Aside0.mk hV'
      clear hV'
      generalize hX9 : wr.drewN _ = w9
      have l1 : Aside0 (Lie w9 g [a1, a2, a3, a4, a5, a6, a7, a8]) := by rw [← hX9]; exact ⟨hV.out⟩
      have l2 : Aside0 (Lie w9 g0 s.list) := by rw [← hX9]; exact ⟨hG0.out⟩
      have l3 : Aside0 (Lie w9 g1 S) := by rw [← hX9]; exact ⟨hG1.out⟩
      have l4 : Aside0 (Lie w9 g2 keysS) := by rw [← hX9]; exact ⟨hG2.out⟩
      have hb9 : Below w.heap.size w w9 := by rw [← hX9]; exact pw_below_drewN hB _
      clear hX9 hV hG0 hG1 hG2 hB k1 k2 k3 k4 k5 k6 k7 k8 kW kK
      have k2 : w9.cell? ⟨g, 1, none⟩ = some (.int .u32 a2) := l1.out.cell 1 (by show 1 < 8; omega)
      have k3 : w9.cell? ⟨g, 2, none⟩ = some (.int .u32 a3) := l1.out.cell 2 (by show 2 < 8; omega)
      have k4 : w9.cell? ⟨g, 3, none⟩ = some (.int .u32 a4) := l1.out.cell 3 (by show 3 < 8; omega)
      have k6 : w9.cell? ⟨g, 5, none⟩ = some (.int .u32 a6) := l1.out.cell 5 (by show 5 < 8; omega)
      have k7 : w9.cell? ⟨g, 6, none⟩ = some (.int .u32 a7) := l1.out.cell 6 (by show 6 < 8; omega)
      go_wp2_with fail
      go_region_held3 (fun w' => w'.cell? ⟨g, 1, none⟩ = some (.int .u32 a2) ∧ w'.cell? ⟨g, 2, none⟩ = some (.int .u32 a3) ∧ w'.cell? ⟨g, 3, none⟩ = some (.int .u32 a4) ∧ w'.cell? ⟨g, 5, none⟩ = some (.int .u32 a6) ∧ w'.cell? ⟨g, 6, none⟩ = some (.int .u32 a7))
        (first | exact ⟨k2, k3, k4, k6, k7⟩ | go_keep)
        (fail)
      have hU' : U = uS ⟨a1, a2, a3, a4, a5, a6, a7, a8⟩ kx wx := by rw [← HU.out]; simp only [IntKind.wrap_u32']; rfl
      have hV' : V = vS ⟨a1, a2, a3, a4, a5, a6, a7, a8⟩ := by rw [← HV'.out]; simp only [IntKind.wrap_u32']; rfl
      have hroll : roundsS s S (t + 1) = ⟨IntKind.u32.wrap (U + V), a1, a2, a3, IntKind.u32.wrap (a4 + U), a5, a6, a7⟩ := by
        show roundS (roundsS s S t) (keysS.getD t 0) (S.getD t 0) = _
        rw [HRE.out, HKX.out, HWX.out, hU', hV', IntKind.wrap_u32', IntKind.wrap_u32']
        rfl
      have m1 : Aside0 (Lie (w9.alloc (.cells (nums .u32 (H8.list ⟨IntKind.u32.wrap (U + V), a1, a2, a3, IntKind.u32.wrap (a4 + U), a5, a6, a7⟩)).toArray 88)) w9.heap.size (roundsS s S (t + 1)).list) := ⟨by rw [hroll]; exact lie_new w9 88 _⟩
      have m2 := Aside0.mk (l2.out.alloc (.cells (nums .u32 (H8.list ⟨IntKind.u32.wrap (U + V), a1, a2, a3, IntKind.u32.wrap (a4 + U), a5, a6, a7⟩)).toArray 88))
      have m3 := Aside0.mk (l3.out.alloc (.cells (nums .u32 (H8.list ⟨IntKind.u32.wrap (U + V), a1, a2, a3, IntKind.u32.wrap (a4 + U), a5, a6, a7⟩)).toArray 88))
      have m4 := Aside0.mk (l4.out.alloc (.cells (nums .u32 (H8.list ⟨IntKind.u32.wrap (U + V), a1, a2, a3, IntKind.u32.wrap (a4 + U), a5, a6, a7⟩)).toArray 88))
      have m5 := hb9.alloc hb9.size (.cells (nums .u32 (H8.list ⟨IntKind.u32.wrap (U + V), a1, a2, a3, IntKind.u32.wrap (a4 + U), a5, a6, a7⟩)).toArray 88)
      clear hroll hU' hV'
      go_wp2_with fail
      go_roundw
      case rel => exact ⟨t + 1, w9.heap.size, 8, by omega, by go_num, rfl, ⟨m1.out⟩, ⟨m2.out⟩, ⟨m3.out⟩, ⟨m4.out⟩, m5.drew⟩
      case measure => simp [intOf]; omega
    · have hge : ¬ (t : Int) < 64 := by omega
      have h64 : t = 64 := by omega
      rw [h64] at hV
      have hR := roundsS_ok hs S 64
      obtain ⟨R, HRE⟩ : ∃ R, Aside0 (roundsS s S 64 = R) := ⟨_, ⟨rfl⟩⟩
      rw [HRE.out] at hV hR
      clear h64
      go_wp2_with fail
      have hend : addS s R = blockS s l := by unfold blockS; rw [← HRE.out, HSE.out]
      have HEND := Aside0.mk hend
      clear hend
      obtain ⟨wo, rfl⟩ : ∃ wo, wo = wr := ⟨_, rfl⟩
      have HZ0 : Aside0 (OwW wo wo.heap.size (.slice none 0 0) ((addS s R).list.take 0)) := ⟨Kd.R_nil _ _ _ _ _⟩
      go_loopw [14, 13] (fun i v wq => ∃ (T : Nat) (vv : Value), T ≤ 8 ∧ i = .int .i64 T ∧ vv = v ∧ Aside0 (OwW wq wo.heap.size vv ((addS s R).list.take T)) ∧ Below wo.heap.size wo wq) (fun i _ _ => 8 - (intOf i).toNat)
      case atStart => exact ⟨0, _, by omega, rfl, rfl, HZ0, Below.refl _ _⟩
      case round =>
        obtain ⟨T, vv, hT8, rfl, rfl, hO, hQ⟩ := hrel
        by_cases hlt : T < 8
        · have hlt' : (T : Int) < 8 := by omega
          have cX : wr.cell? ⟨g0, T, none⟩ = some (.int .u32 (s.list.getD T 0)) := (hG0.out.below hQ).cell T hlt
          have cV : wr.cell? ⟨g, T, none⟩ = some (.int .u32 (R.list.getD T 0)) := (hV.out.below hQ).cell T hlt
          have hnext := addS_take s R T hlt
          have HNEXT := Aside0.mk hnext
          clear hnext
          generalize s.list.getD T 0 = x1 at *
          generalize R.list.getD T 0 = x2 at *
          have eX : ∀ w', Below wo.heap.size wo w' → w'.cell? ⟨g0, T, none⟩ = some (.int .u32 x1) := fun w' hb => (hb.cell (p := ⟨g0, T, none⟩) hG0.out.lt).trans ((hQ.cell (p := ⟨g0, T, none⟩) hG0.out.lt).symm.trans cX)
          have eV : ∀ w', Below wo.heap.size wo w' → w'.cell? ⟨g, T, none⟩ = some (.int .u32 x2) := fun w' hb => (hb.cell (p := ⟨g, T, none⟩) hV.out.lt).trans ((hQ.cell (p := ⟨g, T, none⟩) hV.out.lt).symm.trans cV)
          have hlen : (((addS s R).list.take T).length + 1) * 4 ≤ 140737488355328 := by rw [List.length_take]; omega
          have HO : OwW wr.drew wo.heap.size vv ((addS s R).list.take T) := Kd.R_drew hO.out
          have hQd := hQ.drew
          have hQs : wo.heap.size ≤ wr.drew.heap.size := hQ.size
          go_wp2_with fail
          go_region_held3 (fun w' => w'.cell? ⟨g0, T, none⟩ = some (.int .u32 x1) ∧ w'.cell? ⟨g, T, none⟩ = some (.int .u32 x2))
            (first | exact ⟨cX, cV⟩ | exact ⟨eX _ hb20, eV _ hb20⟩ | go_keep)
            (first | (refine Kd.R_append_step (Kd.int .u32) (w0 := wo) wo.heap.size (by rfl) (.tmp 119) (.tmp 129) 84 88 (.int .u32 0) 4 rfl Tryd.underlying84 infoW rfl (by decide) (by omega) vv ((addS s R).list.take T) (IntKind.u32.wrap (x1 + x2)) [.int .u32 (IntKind.u32.wrap (x1 + x2))] (fun _ => True) (fun _ => False) rfl rfl rfl (fun _ hk => hk.elim) (fun _ _ => trivial) HO hQd hQs hlen ?_; intro v20 w20 ho20 hb20 hg20 hat20))
          rw [IntKind.wrap_u32', HNEXT.out] at ho20
          have HO20 := Aside0.mk ho20
          clear ho20 hg20 hat20 cX cV HO
          go_wp2_with fail
          go_roundw
          case rel => exact ⟨T + 1, v20, by omega, by go_num, rfl, ⟨HO20.out⟩, hb20⟩
          case measure => simp [intOf]; omega
        · have hge : ¬ (T : Int) < 8 := by omega
          have h8 : T = 8 := by omega
          have HE : OwW wr w.heap.size vv (blockS s l).list := by
            have h1 := hO.out
            rw [h8] at h1
            rw [← HEND.out]
            exact Kd.R_lower h1 hB.size
          clear h8
          go_wp2_with fail
          go_ret
          exact ⟨_, rfl, HE, below_next hB hQ⟩
end Go.Proofs.YtmmbonlidcbkcaaDoor.RefBlock
