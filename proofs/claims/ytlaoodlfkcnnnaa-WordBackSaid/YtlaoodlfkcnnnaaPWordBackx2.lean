-- PRINTED BY print.sh 35421559b90ae4d0a3588c463048766b98c2df88dd9212a6774a882060cdf62d: not written by this session
import Derived.Test.YtlaoodlfkcnnnaaPWordBackx0
import Derived.Test.YtlaoodlfkcnnnaaPWordBackx1
namespace Go.Proofs.Ytlaoodlfkcnnnaa.PWordBack
open Go.RowKit Go.Proofs.YtlaoodlfkcnnnaaW.PrintWords Go.Proofs.YtlaoodlfkcnnnaaW.PrintLast Go.Proofs.YtlaoodlfkcnnnaaW.PrintMore
attribute [local go_sem] max2_int min2_int max_two min_two max_three min_three max_four min_four   -- for this text's walks alone
set_option linter.unusedVariables false
set_option linter.unusedSimpArgs false

/-! ### hypogeumlaw01_WordBack: function 10 -/
mutual
def hypogeumlaw01_WordBack.j0 : Nat → Int → Int → Bool → Option (Bool)
  | 0, _, _, _ => none
  | k + 1, x0, x2, x56 => if x56 = true then (some false) else (hypogeumlaw01_WordBack.l0 k x0 x2 x0 0)
def hypogeumlaw01_WordBack.l0 : Nat → Int → Int → Int → Int → Option (Bool)
  | 0, _, _, _, _ => none
  | k + 1, x0, x2, x13, x58 => if x58 < 32 then ((word_Turn.f x13 1).bind fun t137 => (hypogeumlaw01_WordBack.l0 k x0 x2 t137 (wrap64 (x58 + 1)))) else (if x13 = x0 then ((word_Turn.f x0 x2).bind fun t138 => ((word_Turn.f t138 (wrap64 (-x2))).bind fun t139 => (if t139 = x0 then ((hypogeumlaw01_awake.f k).bind fun t140 => (some t140)) else (some false)))) else (some false))
end
def hypogeumlaw01_WordBack.f (k : Nat) (a0 : Int) (a1 : Int) (a2 : Int) : Option (Bool) := (word_Store.f k a0 false).bind fun t122 => ((word_Load.f k t122 false).bind fun bt125 => ((word_Store.f k a0 true).bind fun t127 => ((word_Load.f k t127 true).bind fun bt130 => ((word_Tell.f k a1).bind fun t132 => ((word_Long.f k t132).bind fun bt135 => (if bt125.1 = a0 then (if bt130.1 = a0 then (if bt135.1 = a1 then (if bt125.2 = 0 then (if bt130.2 = 0 then (hypogeumlaw01_WordBack.j0 k a0 a2 (bt135.2 != 0)) else (hypogeumlaw01_WordBack.j0 k a0 a2 true)) else (hypogeumlaw01_WordBack.j0 k a0 a2 true)) else (hypogeumlaw01_WordBack.j0 k a0 a2 true)) else (hypogeumlaw01_WordBack.j0 k a0 a2 true)) else (hypogeumlaw01_WordBack.j0 k a0 a2 true)))))))
theorem hypogeumlaw01_WordBack.mono_l : ∀ k, (∀ y0 y1 y2, LeO (hypogeumlaw01_WordBack.j0 k y0 y1 y2) (hypogeumlaw01_WordBack.j0 (k + 1) y0 y1 y2)) ∧ (∀ y0 y1 y2 y3, LeO (hypogeumlaw01_WordBack.l0 k y0 y1 y2 y3) (hypogeumlaw01_WordBack.l0 (k + 1) y0 y1 y2 y3))
  | 0 => ⟨fun _ _ _ r h => by simp [hypogeumlaw01_WordBack.j0] at h, fun _ _ _ _ r h => by simp [hypogeumlaw01_WordBack.l0] at h⟩
  | k + 1 => by
    obtain ⟨ih0, ih1⟩ := hypogeumlaw01_WordBack.mono_l k
    refine ⟨?_, ?_⟩
    · intro y0 y1 y2
      unfold hypogeumlaw01_WordBack.j0
      repeat' first
      | (with_reducible exact ih0 _ _ _)
      | (with_reducible exact ih1 _ _ _ _)
      | (with_reducible exact hypogeumlaw01_awake.mono _)
      | (with_reducible exact word_Load.mono _ _ _)
      | (with_reducible exact word_Long.mono _ _)
      | (with_reducible exact word_Store.mono _ _ _)
      | (with_reducible exact word_Tell.mono _ _)
      | (with_reducible exact LeO.refl _)
      | (with_reducible exact LeO.none _)
      | (with_reducible refine LeO.ite ?_ ?_)
      | (with_reducible refine LeO.bind ?_ (fun _ => ?_))
      | exact ih0 _ _ _
      | exact ih1 _ _ _ _
      | exact hypogeumlaw01_awake.mono _
      | exact word_Load.mono _ _ _
      | exact word_Long.mono _ _
      | exact word_Store.mono _ _ _
      | exact word_Tell.mono _ _
      | exact LeO.none _
      | refine LeO.ite ?_ ?_
      | refine LeO.bind ?_ (fun _ => ?_)
    · intro y0 y1 y2 y3
      unfold hypogeumlaw01_WordBack.l0
      repeat' first
      | (with_reducible exact ih0 _ _ _)
      | (with_reducible exact ih1 _ _ _ _)
      | (with_reducible exact hypogeumlaw01_awake.mono _)
      | (with_reducible exact word_Load.mono _ _ _)
      | (with_reducible exact word_Long.mono _ _)
      | (with_reducible exact word_Store.mono _ _ _)
      | (with_reducible exact word_Tell.mono _ _)
      | (with_reducible exact LeO.refl _)
      | (with_reducible exact LeO.none _)
      | (with_reducible refine LeO.ite ?_ ?_)
      | (with_reducible refine LeO.bind ?_ (fun _ => ?_))
      | exact ih0 _ _ _
      | exact ih1 _ _ _ _
      | exact hypogeumlaw01_awake.mono _
      | exact word_Load.mono _ _ _
      | exact word_Long.mono _ _
      | exact word_Store.mono _ _ _
      | exact word_Tell.mono _ _
      | exact LeO.none _
      | refine LeO.ite ?_ ?_
      | refine LeO.bind ?_ (fun _ => ?_)
theorem hypogeumlaw01_WordBack.mono : ∀ a0 a1 a2 k, LeO (hypogeumlaw01_WordBack.f k a0 a1 a2) (hypogeumlaw01_WordBack.f (k + 1) a0 a1 a2) := by
  intro a0 a1 a2 k
  obtain ⟨ih0, ih1⟩ := hypogeumlaw01_WordBack.mono_l k
  unfold hypogeumlaw01_WordBack.f
  repeat' first
      | (with_reducible exact ih0 _ _ _)
      | (with_reducible exact ih1 _ _ _ _)
      | (with_reducible exact hypogeumlaw01_awake.mono _)
      | (with_reducible exact word_Load.mono _ _ _)
      | (with_reducible exact word_Long.mono _ _)
      | (with_reducible exact word_Store.mono _ _ _)
      | (with_reducible exact word_Tell.mono _ _)
      | (with_reducible exact LeO.refl _)
      | (with_reducible exact LeO.none _)
      | (with_reducible refine LeO.ite ?_ ?_)
      | (with_reducible refine LeO.bind ?_ (fun _ => ?_))
      | exact ih0 _ _ _
      | exact ih1 _ _ _ _
      | exact hypogeumlaw01_awake.mono _
      | exact word_Load.mono _ _ _
      | exact word_Long.mono _ _
      | exact word_Store.mono _ _ _
      | exact word_Tell.mono _ _
      | exact LeO.none _
      | refine LeO.ite ?_ ?_
      | refine LeO.bind ?_ (fun _ => ?_)
set_option maxHeartbeats 8000000 in
set_option maxRecDepth 100000 in
theorem hypogeumlaw01_WordBack.calls (k : Nat) (a0 : Int) (a1 : Int) (a2 : Int) (r : Bool) (w : World) (h : hypogeumlaw01_WordBack.f k a0 a1 a2 = some r) :
    Calls Try.prog 10 #[.int .u32 a0, .int .u64 a1, .int .i64 a2] w fun e w' => e = .returned (.bool r) ∧ Below w.heap.size w w' := by
  have HB := Aside0.mk (Below.refl w.heap.size w)
  have H : ((word_Store.f k a0 false).bind fun t122 => ((word_Load.f k t122 false).bind fun bt125 => ((word_Store.f k a0 true).bind fun t127 => ((word_Load.f k t127 true).bind fun bt130 => ((word_Tell.f k a1).bind fun t132 => ((word_Long.f k t132).bind fun bt135 => (if bt125.1 = a0 then (if bt130.1 = a0 then (if bt135.1 = a1 then (if bt125.2 = 0 then (if bt130.2 = 0 then (hypogeumlaw01_WordBack.j0 k a0 a2 (bt135.2 != 0)) else (hypogeumlaw01_WordBack.j0 k a0 a2 true)) else (hypogeumlaw01_WordBack.j0 k a0 a2 true)) else (hypogeumlaw01_WordBack.j0 k a0 a2 true)) else (hypogeumlaw01_WordBack.j0 k a0 a2 true)) else (hypogeumlaw01_WordBack.j0 k a0 a2 true)))))))) = some r := h
  clear h
  replace H := Option.bind_eq_some_iff.mp H
  obtain ⟨t122, A40, H⟩ := H
  replace H : ((word_Load.f k t122 false).bind fun bt125 => ((word_Store.f k a0 true).bind fun t127 => ((word_Load.f k t127 true).bind fun bt130 => ((word_Tell.f k a1).bind fun t132 => ((word_Long.f k t132).bind fun bt135 => (if bt125.1 = a0 then (if bt130.1 = a0 then (if bt135.1 = a1 then (if bt125.2 = 0 then (if bt130.2 = 0 then (hypogeumlaw01_WordBack.j0 k a0 a2 (bt135.2 != 0)) else (hypogeumlaw01_WordBack.j0 k a0 a2 true)) else (hypogeumlaw01_WordBack.j0 k a0 a2 true)) else (hypogeumlaw01_WordBack.j0 k a0 a2 true)) else (hypogeumlaw01_WordBack.j0 k a0 a2 true)) else (hypogeumlaw01_WordBack.j0 k a0 a2 true))))))) = some r := H
  have A4 := Aside0.mk A40
  clear A40
  replace H := Option.bind_eq_some_iff.mp H
  obtain ⟨⟨t125, t126⟩, A50, H⟩ := H
  replace H : ((word_Store.f k a0 true).bind fun t127 => ((word_Load.f k t127 true).bind fun bt130 => ((word_Tell.f k a1).bind fun t132 => ((word_Long.f k t132).bind fun bt135 => (if t125 = a0 then (if bt130.1 = a0 then (if bt135.1 = a1 then (if t126 = 0 then (if bt130.2 = 0 then (hypogeumlaw01_WordBack.j0 k a0 a2 (bt135.2 != 0)) else (hypogeumlaw01_WordBack.j0 k a0 a2 true)) else (hypogeumlaw01_WordBack.j0 k a0 a2 true)) else (hypogeumlaw01_WordBack.j0 k a0 a2 true)) else (hypogeumlaw01_WordBack.j0 k a0 a2 true)) else (hypogeumlaw01_WordBack.j0 k a0 a2 true)))))) = some r := H
  have A5 := Aside0.mk A50
  clear A50
  replace H := Option.bind_eq_some_iff.mp H
  obtain ⟨t127, A60, H⟩ := H
  replace H : ((word_Load.f k t127 true).bind fun bt130 => ((word_Tell.f k a1).bind fun t132 => ((word_Long.f k t132).bind fun bt135 => (if t125 = a0 then (if bt130.1 = a0 then (if bt135.1 = a1 then (if t126 = 0 then (if bt130.2 = 0 then (hypogeumlaw01_WordBack.j0 k a0 a2 (bt135.2 != 0)) else (hypogeumlaw01_WordBack.j0 k a0 a2 true)) else (hypogeumlaw01_WordBack.j0 k a0 a2 true)) else (hypogeumlaw01_WordBack.j0 k a0 a2 true)) else (hypogeumlaw01_WordBack.j0 k a0 a2 true)) else (hypogeumlaw01_WordBack.j0 k a0 a2 true))))) = some r := H
  have A6 := Aside0.mk A60
  clear A60
  replace H := Option.bind_eq_some_iff.mp H
  obtain ⟨⟨t130, t131⟩, A70, H⟩ := H
  replace H : ((word_Tell.f k a1).bind fun t132 => ((word_Long.f k t132).bind fun bt135 => (if t125 = a0 then (if t130 = a0 then (if bt135.1 = a1 then (if t126 = 0 then (if t131 = 0 then (hypogeumlaw01_WordBack.j0 k a0 a2 (bt135.2 != 0)) else (hypogeumlaw01_WordBack.j0 k a0 a2 true)) else (hypogeumlaw01_WordBack.j0 k a0 a2 true)) else (hypogeumlaw01_WordBack.j0 k a0 a2 true)) else (hypogeumlaw01_WordBack.j0 k a0 a2 true)) else (hypogeumlaw01_WordBack.j0 k a0 a2 true)))) = some r := H
  have A7 := Aside0.mk A70
  clear A70
  replace H := Option.bind_eq_some_iff.mp H
  obtain ⟨t132, A80, H⟩ := H
  replace H : ((word_Long.f k t132).bind fun bt135 => (if t125 = a0 then (if t130 = a0 then (if bt135.1 = a1 then (if t126 = 0 then (if t131 = 0 then (hypogeumlaw01_WordBack.j0 k a0 a2 (bt135.2 != 0)) else (hypogeumlaw01_WordBack.j0 k a0 a2 true)) else (hypogeumlaw01_WordBack.j0 k a0 a2 true)) else (hypogeumlaw01_WordBack.j0 k a0 a2 true)) else (hypogeumlaw01_WordBack.j0 k a0 a2 true)) else (hypogeumlaw01_WordBack.j0 k a0 a2 true))) = some r := H
  have A8 := Aside0.mk A80
  clear A80
  replace H := Option.bind_eq_some_iff.mp H
  obtain ⟨⟨t135, t136⟩, A90, H⟩ := H
  replace H : (if t125 = a0 then (if t130 = a0 then (if t135 = a1 then (if t126 = 0 then (if t131 = 0 then (hypogeumlaw01_WordBack.j0 k a0 a2 (t136 != 0)) else (hypogeumlaw01_WordBack.j0 k a0 a2 true)) else (hypogeumlaw01_WordBack.j0 k a0 a2 true)) else (hypogeumlaw01_WordBack.j0 k a0 a2 true)) else (hypogeumlaw01_WordBack.j0 k a0 a2 true)) else (hypogeumlaw01_WordBack.j0 k a0 a2 true)) = some r := H
  have A9 := Aside0.mk A90
  clear A90
  have HC10 := Aside0.mk H
  clear H
  go_enter Try.func10, Try.ntmps10
  go_upto_region 4 with (first | ((with_reducible refine gate_callee (f := 33) rfl ?_); refine goesL_ (some 16) rfl rfl Try.func33 (by kernel_rfl) rfl #[.int .u32 a0, .bool false] rfl (by (try simp only [List.map_toArray, List.map_cons, List.map_nil]); first | done | rfl | (simp only [List.length_drop, List.length_take]; rfl)) ?_; (with_reducible refine (word_Store.calls k a0 false t122 _ A4.out).mono ?_); rintro e w11 ⟨v123, rfl, ho0, hb⟩; refine ⟨_, rfl, ?_⟩; have n0_ := Aside0.mk (Kd.R_lower ho0 (below_size (by repeat (first | (with_reducible first | exact HB.out | apply below_alloc | apply pw_below_drewN | apply below_drew1) | exact HB.out)))); have n1_ := Aside0.mk (below_step (by repeat (first | (with_reducible first | exact HB.out | apply below_alloc | apply pw_below_drewN | apply below_drew1) | exact HB.out)) hb); clear HB; have HO124 := n0_; have HB := n1_; clear n0_ n1_; (try clear hb); (try clear hb2); (try clear hk); (try clear hi); (try clear ho0); obtain ⟨Ao12, co12, eo12⟩ := Kd.R_slice HO124.out; subst eo12) | ((with_reducible refine gate_callee (f := 16) rfl ?_); refine goesL_ (some 17) rfl rfl Try.func16 (by kernel_rfl) rfl #[.slice Ao12 t122.length co12, .bool false] rfl (by (try simp only [List.map_toArray, List.map_cons, List.map_nil]); first | done | rfl | (simp only [List.length_drop, List.length_take]; rfl)) ?_; (with_reducible refine (word_Load.calls k _ _ t122 false t125 t126 _ ?side1 ?side2 A5.out).mono ?_); (case side1 => repeat (first | exact (Kd.R_reads' HO124.out).2.2 | (with_reducible refine Kd.C_alloc ?_ _) | (with_reducible refine Kd.C_drewN ?_ _) | (with_reducible refine Kd.C_drew ?_))); (case side2 => exact (Kd.R_reads' HO124.out).2.1); rintro e w' ⟨rfl, ⟨nd, rfl⟩⟩; refine ⟨_, rfl, ?_⟩) | ((with_reducible refine gate_callee (f := 33) rfl ?_); refine goesL_ (some 22) rfl rfl Try.func33 (by kernel_rfl) rfl #[.int .u32 a0, .bool true] rfl (by (try simp only [List.map_toArray, List.map_cons, List.map_nil]); first | done | rfl | (simp only [List.length_drop, List.length_take]; rfl)) ?_; (with_reducible refine (word_Store.calls k a0 true t127 _ A6.out).mono ?_); rintro e w13 ⟨v128, rfl, ho0, hb⟩; refine ⟨_, rfl, ?_⟩; have n0_ := Aside0.mk (Kd.R_elder' (by (with_reducible repeat (first | apply Kd.R_alloc | apply Kd.R_drewN | apply Kd.R_drew)); exact HO124.out) (Kd.R_base ho0) hb); have n1_ := Aside0.mk (Kd.R_lower (Kd.R_new' ho0 (Kd.R_lt (by (with_reducible repeat (first | apply Kd.R_alloc | apply Kd.R_drewN | apply Kd.R_drew)); exact HO124.out))) (below_size (by repeat (first | (with_reducible first | exact HB.out | apply below_alloc | apply pw_below_drewN | apply below_drew1) | exact HB.out)))); have n2_ := Aside0.mk (below_step (by repeat (first | (with_reducible first | exact HB.out | apply below_alloc | apply pw_below_drewN | apply below_drew1) | exact HB.out)) hb); clear HO124; clear HB; have HO124 := n0_; have HO129 := n1_; have HB := n2_; clear n0_ n1_ n2_; (try clear hb); (try clear hb2); (try clear hk); (try clear hi); (try clear ho0); obtain ⟨Ao14, co14, eo14⟩ := Kd.R_slice HO129.out; subst eo14) | ((with_reducible refine gate_callee (f := 16) rfl ?_); refine goesL_ (some 23) rfl rfl Try.func16 (by kernel_rfl) rfl #[.slice Ao14 t127.length co14, .bool true] rfl (by (try simp only [List.map_toArray, List.map_cons, List.map_nil]); first | done | rfl | (simp only [List.length_drop, List.length_take]; rfl)) ?_; (with_reducible refine (word_Load.calls k _ _ t127 true t130 t131 _ ?side1 ?side2 A7.out).mono ?_); (case side1 => repeat (first | exact (Kd.R_reads' HO129.out).2.2 | (with_reducible refine Kd.C_alloc ?_ _) | (with_reducible refine Kd.C_drewN ?_ _) | (with_reducible refine Kd.C_drew ?_))); (case side2 => exact (Kd.R_reads' HO129.out).2.1); rintro e w' ⟨rfl, ⟨nd, rfl⟩⟩; refine ⟨_, rfl, ?_⟩) | ((with_reducible refine gate_callee (f := 35) rfl ?_); refine goesL_ (some 28) rfl rfl Try.func35 (by kernel_rfl) rfl #[.int .u64 a1] rfl (by (try simp only [List.map_toArray, List.map_cons, List.map_nil]); first | done | rfl | (simp only [List.length_drop, List.length_take]; rfl)) ?_; (with_reducible refine (word_Tell.calls k a1 t132 _ A8.out).mono ?_); rintro e w15 ⟨v133, rfl, ho0, hb⟩; refine ⟨_, rfl, ?_⟩; have n0_ := Aside0.mk (Kd.R_elder' (by (with_reducible repeat (first | apply Kd.R_alloc | apply Kd.R_drewN | apply Kd.R_drew)); exact HO124.out) (Kd.R_base ho0) hb); have n1_ := Aside0.mk (Kd.R_elder' (by (with_reducible repeat (first | apply Kd.R_alloc | apply Kd.R_drewN | apply Kd.R_drew)); exact HO129.out) (Kd.R_base ho0) hb); have n2_ := Aside0.mk (Kd.R_lower (Kd.R_new' (Kd.R_new' ho0 (Kd.R_lt (by (with_reducible repeat (first | apply Kd.R_alloc | apply Kd.R_drewN | apply Kd.R_drew)); exact HO124.out))) (Kd.R_lt (by (with_reducible repeat (first | apply Kd.R_alloc | apply Kd.R_drewN | apply Kd.R_drew)); exact HO129.out))) (below_size (by repeat (first | (with_reducible first | exact HB.out | apply below_alloc | apply pw_below_drewN | apply below_drew1) | exact HB.out)))); have n3_ := Aside0.mk (below_step (by repeat (first | (with_reducible first | exact HB.out | apply below_alloc | apply pw_below_drewN | apply below_drew1) | exact HB.out)) hb); clear HO124; clear HO129; clear HB; have HO124 := n0_; have HO129 := n1_; have HO134 := n2_; have HB := n3_; clear n0_ n1_ n2_ n3_; (try clear hb); (try clear hb2); (try clear hk); (try clear hi); (try clear ho0); obtain ⟨Ao16, co16, eo16⟩ := Kd.R_slice HO134.out; subst eo16) | ((with_reducible refine gate_callee (f := 18) rfl ?_); refine goesL_ (some 29) rfl rfl Try.func18 (by kernel_rfl) rfl #[.slice Ao16 t132.length co16] rfl (by (try simp only [List.map_toArray, List.map_cons, List.map_nil]); first | done | rfl | (simp only [List.length_drop, List.length_take]; rfl)) ?_; (with_reducible refine (word_Long.calls k _ _ t132 t135 t136 _ ?side1 ?side2 A9.out).mono ?_); (case side1 => repeat (first | exact (Kd.R_reads' HO134.out).2.2 | (with_reducible refine Kd.C_alloc ?_ _) | (with_reducible refine Kd.C_drewN ?_ _) | (with_reducible refine Kd.C_drew ?_))); (case side2 => exact (Kd.R_reads' HO134.out).2.1); rintro e w' ⟨rfl, ⟨nd, rfl⟩⟩; refine ⟨_, rfl, ?_⟩))
  (try simp only [Act.put, List.setIfInBounds_toArray, List.set_cons_zero, List.set_cons_succ])
  go_cut [56] (fun v56 wc => ∃ (kq : Nat) (x56_9 : Bool), v56 = .bool x56_9 ∧ Aside0 (hypogeumlaw01_WordBack.j0 kq a0 a2 x56_9 = some r) ∧ Aside0 (kq ≤ k) ∧ Aside0 (Below w.heap.size w wc))
  case first =>
    have H := HC10.out
    clear HC10
    by_cases c17 : t125 = a0
    · rw [if_pos c17] at H
      have c17b0 : (t125 == a0) = true := beq_iff_eq.mpr c17
      have c17b1 : (t125 != a0) = false := bne_eq_false_iff_eq.mpr c17
      clear c17
      (first | rw [c17b0] | (simp only [i64_w, i32_w]; rw [c17b0]) | skip)
      by_cases c18 : t130 = a0
      · rw [if_pos c18] at H
        have c18b0 : (t130 == a0) = true := beq_iff_eq.mpr c18
        have c18b1 : (t130 != a0) = false := bne_eq_false_iff_eq.mpr c18
        clear c18
        by_cases c19 : t135 = a1
        · rw [if_pos c19] at H
          have c19b0 : (t135 == a1) = true := beq_iff_eq.mpr c19
          have c19b1 : (t135 != a1) = false := bne_eq_false_iff_eq.mpr c19
          clear c19
          by_cases c20 : t126 = 0
          · rw [if_pos c20] at H
            have c20b0 : (t126 == 0) = true := beq_iff_eq.mpr c20
            have c20b1 : (t126 != 0) = false := bne_eq_false_iff_eq.mpr c20
            clear c20
            by_cases c21 : t131 = 0
            · rw [if_pos c21] at H
              have c21b0 : (t131 == 0) = true := beq_iff_eq.mpr c21
              have c21b1 : (t131 != 0) = false := bne_eq_false_iff_eq.mpr c21
              clear c21
              have H' := Aside0.mk H
              clear H
              go_wp2
              go_meet
              case rel => exact ⟨_, ((t136 != 0)), (by first | rfl | (simp; done) | (simp [*]; done)), H', ⟨by first | omega | exact Nat.le_refl _⟩, ⟨by repeat (first | (with_reducible first | exact HB.out | apply below_alloc | apply pw_below_drewN | apply below_drew1) | exact HB.out)⟩⟩
            · rw [if_neg c21] at H
              have c21b0 : (t131 == 0) = false := beq_eq_false_iff_ne.mpr c21
              have c21b1 : (t131 != 0) = true := bne_iff_ne.mpr c21
              have H' := Aside0.mk H
              clear H
              go_wp2
              go_meet
              case rel => exact ⟨_, (true), (by first | rfl | (simp; done) | (simp [*]; done)), H', ⟨by first | omega | exact Nat.le_refl _⟩, ⟨by repeat (first | (with_reducible first | exact HB.out | apply below_alloc | apply pw_below_drewN | apply below_drew1) | exact HB.out)⟩⟩
          · rw [if_neg c20] at H
            have c20b0 : (t126 == 0) = false := beq_eq_false_iff_ne.mpr c20
            have c20b1 : (t126 != 0) = true := bne_iff_ne.mpr c20
            have H' := Aside0.mk H
            clear H
            go_wp2
            go_meet
            case rel => exact ⟨_, (true), (by first | rfl | (simp; done) | (simp [*]; done)), H', ⟨by first | omega | exact Nat.le_refl _⟩, ⟨by repeat (first | (with_reducible first | exact HB.out | apply below_alloc | apply pw_below_drewN | apply below_drew1) | exact HB.out)⟩⟩
        · rw [if_neg c19] at H
          have c19b0 : (t135 == a1) = false := beq_eq_false_iff_ne.mpr c19
          have c19b1 : (t135 != a1) = true := bne_iff_ne.mpr c19
          have H' := Aside0.mk H
          clear H
          go_wp2
          go_meet
          case rel => exact ⟨_, (true), (by first | rfl | (simp; done) | (simp [*]; done)), H', ⟨by first | omega | exact Nat.le_refl _⟩, ⟨by repeat (first | (with_reducible first | exact HB.out | apply below_alloc | apply pw_below_drewN | apply below_drew1) | exact HB.out)⟩⟩
      · rw [if_neg c18] at H
        have c18b0 : (t130 == a0) = false := beq_eq_false_iff_ne.mpr c18
        have c18b1 : (t130 != a0) = true := bne_iff_ne.mpr c18
        have H' := Aside0.mk H
        clear H
        go_wp2
        go_meet
        case rel => exact ⟨_, (true), (by first | rfl | (simp; done) | (simp [*]; done)), H', ⟨by first | omega | exact Nat.le_refl _⟩, ⟨by repeat (first | (with_reducible first | exact HB.out | apply below_alloc | apply pw_below_drewN | apply below_drew1) | exact HB.out)⟩⟩
    · rw [if_neg c17] at H
      have c17b0 : (t125 == a0) = false := beq_eq_false_iff_ne.mpr c17
      have c17b1 : (t125 != a0) = true := bne_iff_ne.mpr c17
      (first | rw [c17b0] | (simp only [i64_w, i32_w]; rw [c17b0]) | skip)
      have H' := Aside0.mk H
      clear H
      go_wp2
      go_meet
      case rel => exact ⟨_, (true), (by first | rfl | (simp; done) | (simp [*]; done)), H', ⟨by first | omega | exact Nat.le_refl _⟩, ⟨by repeat (first | (with_reducible first | exact HB.out | apply below_alloc | apply pw_below_drewN | apply below_drew1) | exact HB.out)⟩⟩
  case rest =>
    clear HC10
    try clear c1
    try clear c2
    try clear p2
    try clear c3
    try clear c10
    try clear c16
    try clear c17
    try clear c17b0
    try clear c17b1
    try clear c18
    try clear c18b0
    try clear c18b1
    try clear c19
    try clear c19b0
    try clear c19b1
    try clear c20
    try clear c20b0
    try clear c20b1
    try clear c21
    try clear c21b0
    try clear c21b1
    obtain ⟨kq, x56_9, rfl, HA, HJ9, HB⟩ := hcut
    cases kq with
    | zero => exact absurd HA.out (by simp [hypogeumlaw01_WordBack.j0])
    | succ kj9 =>
      have H := HA.out
      clear HA
      simp only [hypogeumlaw01_WordBack.j0] at H
      by_cases c22 : x56_9 = true
      · subst c22
        have H1 : (some false) = some r := by rw [if_pos rfl] at H; exact H
        clear H
        have H := H1
        clear H1
        obtain rfl := Option.some.inj H
        go_wp2
        go_ret
        exact ⟨by first | rfl | (simp [errW_none, errW_some] <;> rfl) | (simp [*, errW_none, errW_some] <;> rfl), by repeat (first | (with_reducible first | exact HB.out | apply below_alloc | apply pw_below_drewN | apply below_drew1) | exact HB.out)⟩
      · replace c22 := Bool.eq_false_iff.mpr c22
        subst c22
        have H1 : (hypogeumlaw01_WordBack.l0 kj9 a0 a2 a0 0) = some r := by rw [if_neg (show ¬ (false = true) by decide)] at H; exact H
        clear H
        have H := H1
        clear H1
        have H' := Aside0.mk H
        clear H
        go_wp2
        go_loopg [13, 58] kj9 (fun kq v13 v58 w' => ∃ (x13_2 : Int) (x58_2 : Int), v13 = .int .u32 x13_2 ∧ v58 = .int .i64 x58_2 ∧ Aside0 (hypogeumlaw01_WordBack.l0 kq a0 a2 x13_2 x58_2 = some r) ∧ Aside0 (kq ≤ kj9) ∧ Aside0 (Below w.heap.size w w'))
        case atStart => exact ⟨(a0), (0), (by first | rfl | (simp; done) | (simp [*]; done)), (by first | rfl | (simp; done) | (simp [*]; done)), H', ⟨Nat.le_refl _⟩, ⟨by repeat (first | (with_reducible first | exact HB.out | apply below_alloc | apply pw_below_drewN | apply below_drew1) | exact HB.out)⟩⟩
        case round =>
          clear H'
          try clear c1
          try clear c2
          try clear p2
          try clear c3
          try clear c10
          try clear c16
          try clear c17
          try clear c17b0
          try clear c17b1
          try clear c18
          try clear c18b0
          try clear c18b1
          try clear c19
          try clear c19b0
          try clear c19b1
          try clear c20
          try clear c20b0
          try clear c20b1
          try clear c21
          try clear c21b0
          try clear c21b1
          try clear c22
          try clear p2
          obtain ⟨x13_2, x58_2, rfl, rfl, HA, HK2, HB⟩ := hrel
          cases gk with
          | zero => exact absurd HA.out (by simp [hypogeumlaw01_WordBack.l0])
          | succ k2 =>
            have H := HA.out
            clear HA
            simp only [hypogeumlaw01_WordBack.l0] at H
            by_cases c23 : x58_2 < 32
            · rw [if_pos c23] at H
              have c23b0 : decide (x58_2 < 32) = true := decide_eq_true c23
              clear c23
              replace H := Option.bind_eq_some_iff.mp H
              obtain ⟨t137, A240, H⟩ := H
              replace H : (hypogeumlaw01_WordBack.l0 k2 a0 a2 t137 (wrap64 (x58_2 + 1))) = some r := H
              have A24 := Aside0.mk A240
              clear A240
              have H' := Aside0.mk H
              clear H
              go_wp2_with (first | ((with_reducible refine gate_callee (f := 21) rfl ?_); refine goesL_ (some 61) rfl rfl Try.func21 (by kernel_rfl) rfl #[.int .u32 x13_2, .int .i64 1] rfl (by (try simp only [List.map_toArray, List.map_cons, List.map_nil]); first | done | rfl | (simp only [List.length_drop, List.length_take]; rfl)) ?_; (with_reducible refine (word_Turn.calls x13_2 1 t137 _ A24.out).mono ?_); rintro e w' ⟨rfl, ⟨nd, rfl⟩⟩; refine ⟨_, rfl, ?_⟩))
              go_roundg k2
              case measure => have := HJ9.out; have := HK2.out; omega
              case rel => exact ⟨(t137), (wrap64 (x58_2 + 1)), (by first | rfl | (simp; done) | (simp [*]; done)), (by first | rfl | (simp; done) | (simp [*]; done)), H', ⟨by have := HJ9.out; have := HK2.out; omega⟩, ⟨by repeat (first | (with_reducible first | exact HB.out | apply below_alloc | apply pw_below_drewN | apply below_drew1) | exact HB.out)⟩⟩
            · rw [if_neg c23] at H
              have c23b0 : decide (x58_2 < 32) = false := decide_eq_false c23
              clear c23
              by_cases c25 : x13_2 = a0
              · rw [if_pos c25] at H
                have c25b0 : (x13_2 == a0) = true := beq_iff_eq.mpr c25
                have c25b1 : (x13_2 != a0) = false := bne_eq_false_iff_eq.mpr c25
                clear c25
                replace H := Option.bind_eq_some_iff.mp H
                obtain ⟨t138, A260, H⟩ := H
                replace H : ((word_Turn.f t138 (wrap64 (-a2))).bind fun t139 => (if t139 = a0 then ((hypogeumlaw01_awake.f k2).bind fun t140 => (some t140)) else (some false))) = some r := H
                have A26 := Aside0.mk A260
                clear A260
                replace H := Option.bind_eq_some_iff.mp H
                obtain ⟨t139, A270, H⟩ := H
                replace H : (if t139 = a0 then ((hypogeumlaw01_awake.f k2).bind fun t140 => (some t140)) else (some false)) = some r := H
                have A27 := Aside0.mk A270
                clear A270
                by_cases c28 : t139 = a0
                · rw [if_pos c28] at H
                  have c28b0 : (t139 == a0) = true := beq_iff_eq.mpr c28
                  have c28b1 : (t139 != a0) = false := bne_eq_false_iff_eq.mpr c28
                  clear c28
                  replace H := Option.bind_eq_some_iff.mp H
                  obtain ⟨t140, A290, H⟩ := H
                  replace H : (some t140) = some r := H
                  have A29 := Aside0.mk A290
                  clear A290
                  obtain rfl := Option.some.inj H
                  go_wp2_with (first | (go_at_call 21; (with_reducible refine (word_Turn.calls a0 a2 t138 _ A26.out).mono ?_); rintro e w' ⟨rfl, ⟨nd, rfl⟩⟩) | (go_at_call 21; (with_reducible refine (word_Turn.calls t138 (wrap64 (-a2)) t139 _ A27.out).mono ?_); rintro e w' ⟨rfl, ⟨nd, rfl⟩⟩) | (go_at_call 20; (with_reducible refine (hypogeumlaw01_awake.calls k2  t140 _ A29.out).mono ?_); rintro e w30 ⟨rfl, hb⟩; have n0_ := Aside0.mk (below_step (by repeat (first | (with_reducible first | exact HB.out | apply below_alloc | apply pw_below_drewN | apply below_drew1) | exact HB.out)) hb); clear HB; have HB := n0_; clear n0_; (try clear hb); (try clear hb2); (try clear hk); (try clear hi)))
                  go_ret
                  exact ⟨by first | rfl | (simp [errW_none, errW_some] <;> rfl) | (simp [*, errW_none, errW_some] <;> rfl), by repeat (first | (with_reducible first | exact HB.out | apply below_alloc | apply pw_below_drewN | apply below_drew1) | exact HB.out)⟩
                · rw [if_neg c28] at H
                  have c28b0 : (t139 == a0) = false := beq_eq_false_iff_ne.mpr c28
                  have c28b1 : (t139 != a0) = true := bne_iff_ne.mpr c28
                  obtain rfl := Option.some.inj H
                  go_wp2_with (first | (go_at_call 21; (with_reducible refine (word_Turn.calls a0 a2 t138 _ A26.out).mono ?_); rintro e w' ⟨rfl, ⟨nd, rfl⟩⟩) | (go_at_call 21; (with_reducible refine (word_Turn.calls t138 (wrap64 (-a2)) t139 _ A27.out).mono ?_); rintro e w' ⟨rfl, ⟨nd, rfl⟩⟩))
                  go_ret
                  exact ⟨by first | rfl | (simp [errW_none, errW_some] <;> rfl) | (simp [*, errW_none, errW_some] <;> rfl), by repeat (first | (with_reducible first | exact HB.out | apply below_alloc | apply pw_below_drewN | apply below_drew1) | exact HB.out)⟩
              · rw [if_neg c25] at H
                have c25b0 : (x13_2 == a0) = false := beq_eq_false_iff_ne.mpr c25
                have c25b1 : (x13_2 != a0) = true := bne_iff_ne.mpr c25
                obtain rfl := Option.some.inj H
                go_wp2
                go_ret
                exact ⟨by first | rfl | (simp [errW_none, errW_some] <;> rfl) | (simp [*, errW_none, errW_some] <;> rfl), by repeat (first | (with_reducible first | exact HB.out | apply below_alloc | apply pw_below_drewN | apply below_drew1) | exact HB.out)⟩

/-- THE ONE PURE STATEMENT of hypogeumlaw01_WordBack: yours. -/
def hypogeumlaw01_WordBack.Pure : Prop := ∀ (a0 : Int) (a1 : Int) (a2 : Int), (Lit.int .u32 a0).wf = true → (Lit.int .u64 a1).wf = true → (Lit.int .i64 a2).wf = true → ∃ k, hypogeumlaw01_WordBack.f k a0 a1 a2 = some true
theorem hypogeumlaw01_WordBack.walk (P : hypogeumlaw01_WordBack.Pure) (a0 : Int) (a1 : Int) (a2 : Int) (w : World) (w0 : (Lit.int .u32 a0).wf = true) (w1 : (Lit.int .u64 a1).wf = true) (w2 : (Lit.int .i64 a2).wf = true) :
    Calls Try.prog 10 #[.int .u32 a0, .int .u64 a1, .int .i64 a2] w fun e w' => e = .returned (.bool true) ∧ Below w.heap.size w w' := by
  obtain ⟨k, h⟩ := P a0 a1 a2 w0 w1 w2
  refine (hypogeumlaw01_WordBack.calls k a0 a1 a2 true w h).mono ?_
  rintro e w' ⟨rfl, hd⟩
  exact ⟨rfl, hd⟩

end Go.Proofs.Ytlaoodlfkcnnnaa.PWordBack
