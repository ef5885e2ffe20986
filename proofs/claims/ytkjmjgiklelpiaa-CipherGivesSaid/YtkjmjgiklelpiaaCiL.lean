/- the reference's block, walked. -/
import Derived.Test.YtkjmjgiklelpiaaApp
import Derived.Test.YtkjmjgiklelpiaaQuart
import Derived.Test.YtkjmjgiklelpiaaPlainCipherBlocks
import Derived.Deep.RegionHeld3
import Derived.Deep.Cut
import Derived.Deep.CutRange
import Derived.Test.YtkjmjgiklelpiaaCiB
import Derived.Test.YtkjmjgiklelpiaaCiD
namespace Go.Proofs.Ytkjmjgiklelpiaa.CiL
open Go.RowKit Go.Proofs.YtkjmjgiklelpiaaW.PrintWords Go.Proofs.Ytkjmjgiklelpiaa.Num Go.Proofs.Ytkjmjgiklelpiaa.WordC Go.Proofs.Ytkjmjgiklelpiaa.Arr Go.Proofs.Ytkjmjgiklelpiaa.App Go.Proofs.Ytkjmjgiklelpiaa.CiC Go.Proofs.Ytkjmjgiklelpiaa.CiB Go.Proofs.Ytkjmjgiklelpiaa.CiD
set_option linter.unusedVariables false
set_option linter.unusedSimpArgs false

theorem gS_length (k o : List Int) (n : Int) (hk : k.length = 32) (ho : o.length = 12) : (gS k o n).length = 16 := by
  unfold gS
  rw [List.length_append, List.length_append, List.length_append, ws_length 8 k hk, ws_length 3 o ho]; rfl
theorem gS_isW {k o : List Int} {n : Int} (hk : k.length = 32) (ho : o.length = 12) (bk : IsB k) (bo : IsB o) (h0 : 0 ≤ n) (h1 : n < 4294967296) : IsW (gS k o n) := by
  intro x hx
  unfold gS at hx
  rcases List.mem_append.1 hx with hx | hx
  · rcases List.mem_append.1 hx with hx | hx
    · rcases List.mem_append.1 hx with hx | hx
      · simp [c4] at hx; omega
      · exact ws_isW 8 k hk bk x hx
    · simp at hx; omega
  · exact ws_isW 3 o ho bo x hx
/-- The block of a key, a nonce and a counter. -/
def chaS (k o : List Int) (n : Int) : List Int := blkS (gS k o n)
theorem infoW : (Try.prog.info? 23).map (fun i => (i.zero, i.size, i.bytes)) = some (some (.int .u32 0), 1, 4) := by kernel_rfl
theorem append_owW {ops : Array Oper} {rest : List Oper} {o : Oper} {a : Act} {Q : Exit → Act → World → Prop} {w0 W : World} (base : Nat) (hgd : o.guard = none) (s x : Operand)
    (ho : o.op = .call { callee := .builtin .append, args := #[s, x], argTypes := #[69, 69] })
    (v : Value) (xs ys : List Int) (A : Option Addr) (m c : Nat) (hs : a.eval s = v) (hx : a.eval x = .slice A m c)
    (HO : OwW W base v xs) (HR : Kd.C (Kd.int .u32) W A m ys) (HB : Below base w0 W) (hbase : base ≤ W.heap.size) (hl : (xs.length + m) * 4 ≤ 140737488355328)
    (h : ∀ v1 w1, OwW w1 base v1 (xs ++ ys) → Below base w0 w1 → wpList Try.prog ops Q rest (a.put o.dst v1) w1) :
    wpList Try.prog ops Q (o :: rest) a W :=
  Kd.R_append_rows (Kd.int .u32) (w0 := w0) base hgd s x 69 23 (.int .u32 0) 4 ho Try.underlying69 infoW rfl (by decide) (by omega) v xs ys A m c (fun _ => True) (fun _ => False) hs hx HO HR (fun _ _ h => h) (fun _ h => h.elim) (fun _ _ => trivial) HB hbase hl (fun v1 w1 h1 h2 _ _ => h v1 w1 h1 h2)
theorem owW_lit (W : World) (base : Nat) (xs : List Int) (hb : base ≤ W.heap.size) (hm : xs.length ≤ 100) : OwW (W.alloc (.cells (nums .u32 xs).toArray 23)) base (.slice (some ⟨W.heap.size, 0, none⟩) xs.length xs.length) xs :=
  Kd.R_of_own (own_lit W base 23 .u32 xs hb (by omega)) (fun _ _ => trivial)
theorem owW_rd {w : World} {base : Nat} {v : Value} {l : List Int} (h : OwW w base v l) : ∃ A c, v = .slice A l.length c ∧ l.length ≤ c ∧ Kd.C (Kd.int .u32) w A l.length l := by
  obtain ⟨A, c, rfl⟩ := Kd.R_slice h
  have := Kd.R_reads' h
  exact ⟨A, c, rfl, this.2.1, this.2.2⟩
theorem step_append_ow {ops : Array Oper} {o : Oper} {a : Act} {Kc : Act → World → Prop} {Q : Exit → Act → World → Prop} {w0 W : World} (base : Nat) (hw : Region.wanted o (yielded ops a.tmps) = true) (s x : Operand)
    (ho : o.op = .call { callee := .builtin .append, args := #[s, x], argTypes := #[22, 22] })
    (v : Value) (xs ys : List Int) (A : Option Addr) (m c : Nat) (hs : a.eval s = v) (hx : a.eval x = .slice A m c)
    (HO : Ow W base v xs) (HR : Rd W A m c ys) (HB : Below base w0 W) (hbase : base ≤ W.heap.size) (hl : xs.length + m ≤ 140737488355328)
    (h : ∀ v1 w1, Ow w1 base v1 (xs ++ ys) → Below base w0 w1 → W.grownBy w1 v.ownBlock → (v1.ownBlock = v.ownBlock ∨ ∃ b, v1.ownBlock = some b ∧ W.heap.size ≤ b) → Kc (a.put o.dst v1) w1) :
    if Region.wanted o (yielded ops a.tmps) = true then Oper.wp Try.prog o a W Kc Q else Kc (a.put o.dst undef) W :=
  Kd.R_append_rows_step (Kd.int .u8) (w0 := w0) base hw s x 22 5 (.int .u8 0) 1 ho Try.underlying22 infoB rfl (by decide) (by omega) v xs ys A m c (fun _ => True) (fun _ => False) hs hx HO HR.cells (fun _ _ h => h) (fun _ h => h.elim) (fun _ _ => trivial) HB hbase (by omega) h
theorem one_C (w : World) (n : Int) : Kd.C (Kd.int .u32) (w.alloc (.cells (nums .u32 [n]).toArray 23)) (some ⟨w.heap.size, 0, none⟩) 1 [n] := by
  have h := Kd.R_reads' (owW_lit w 0 [n] (Nat.zero_le _) (by simp))
  exact h.2.2
theorem refQuarter_o {v : Value} {l : List Int} {base : Nat} {w : World} (ho : OwW w base v l) (hl : l.length = 16) (h : IsW l) (a b c d : Nat) (ha : a < 16) (hb : b < 16) (hc : c < 16) (hd : d < 16) {x y z u : Int} (hx : x = a) (hy : y = b) (hz : z = c) (hu : u = d) (hbase : base ≤ w.heap.size) :
    Calls Try.prog 44 #[v, .int .i64 x, .int .i64 y, .int .i64 z, .int .i64 u] w fun e w' => ∃ v', e = .returned v' ∧ OwW w' base v' (qr l a b c d) ∧ Below w.heap.size w w' := by
  obtain ⟨A, co, rfl, hco, hC⟩ := owW_rd ho
  refine (refQuarter_c (base := base) (v := .slice A l.length co) hC rfl hco hl h a b c d ha hb hc hd hx hy hz hu).mono ?_
  rintro e w' ⟨v', rfl, h1, h2⟩
  exact ⟨v', rfl, Kd.R_lower h1 hbase, h2⟩
set_option maxHeartbeats 8000000 in
set_option maxRecDepth 100000 in
theorem refBlock_c {A B : Option Addr} {c d : Nat} {k o : List Int} {n : Int} {w : World} (hk : Rd w A 32 c k) (ho : Rd w B 12 d o) (bk : IsB k) (bo : IsB o) (h0 : 0 ≤ n) (h1 : n < 4294967296) :
    Calls Try.prog 20 #[.slice A 32 c, .slice B 12 d, .int .u32 n] w fun e w' => ∃ v, e = .returned v ∧ Ow w' w.heap.size v (chaS k o n) ∧ Below w.heap.size w w' := by
  go_enter Try.func20, Try.ntmps20
  go_wp2_with fail
  have hO0 := owW_lit w w.heap.size c4 (Nat.le_refl _) (by decide)
  have hB0 : Below w.heap.size w (w.alloc (.cells (nums .u32 c4).toArray 23)) := (Below.refl _ w).alloc (Nat.le_refl _) _
  have HO0 := Aside0.mk hO0
  have HOn := Aside0.mk (ho.alloc (.cells (nums .u32 c4).toArray 23))
  refine (refWords_c (hk.alloc (.cells (nums .u32 c4).toArray 23)) bk 8 rfl (by omega)).mono ?_
  rintro x w1 ⟨v1, rfl, ho1, hb1⟩
  have hO1 := Kd.R_below HO0.out hb1
  have hB1 := hB0.trans (hb1.mono hB0.size)
  have HN1 := Aside0.mk (HOn.out.below hb1)
  obtain ⟨A1, c1, rfl, hc1, hC1⟩ := owW_rd ho1
  have hk32 : k.length = 32 := hk.len
  have ho12 : o.length = 12 := ho.len
  have l8 := ws_length 8 k hk32
  have l3 := ws_length 3 o ho12
  have HO1 := Aside0.mk hO1
  have HC1 := Aside0.mk hC1
  have HB1 := Aside0.mk hB1
  have HK32 := Aside0.mk hk32
  have HO12 := Aside0.mk ho12
  have HL8 := Aside0.mk l8
  have HL3 := Aside0.mk l3
  have HNW := Aside0.mk ho
  clear hO0 hB0 HO0 HOn hO1 ho1 hC1 hb1 hk ho hk32 ho12 l8 l3
  go_wp2_with (first
    | (refine append_owW (w0 := w) w.heap.size rfl (.tmp 12) (.tmp 14) rfl _ c4 (ws k) A1 _ c1 rfl rfl HO1.out HC1.out HB1.out HB1.out.size (by rw [HL8.out]; decide) ?_; intro v2 w2 ho2 hb2; have HO2 := Aside0.mk ho2; have HB2 := Aside0.mk hb2; clear ho2 hb2)
    | (have HO3 := Aside0.mk (Kd.R_alloc HO2.out (.cells (nums .u32 [n]).toArray 23)); have HB3 := Aside0.mk (HB2.out.alloc HB2.out.size (.cells (nums .u32 [n]).toArray 23)); refine append_owW (w0 := w) w.heap.size rfl (.tmp 16) (.tmp 18) rfl _ (c4 ++ ws k) [n] (some ⟨w2.heap.size, 0, none⟩) 1 1 rfl rfl HO3.out (one_C w2 n) HB3.out HB3.out.size (by rw [List.length_append, HL8.out]; decide) ?_; intro v4 w4 ho4 hb4; have HO4 := Aside0.mk ho4; have HB4 := Aside0.mk hb4; clear ho4 hb4))
  have HN4 : Aside0 (Rd w4 B 12 d o) := ⟨HNW.out.below HB4.out⟩
  refine (refWords_c HN4.out bo 3 rfl (by omega)).mono ?_
  rintro x w5 ⟨v5, rfl, ho5, hb5⟩
  have hO5 := Kd.R_below HO4.out hb5
  have hB5 := HB4.out.trans (hb5.mono HB4.out.size)
  obtain ⟨A5, c5, rfl, hc5, hC5⟩ := owW_rd ho5
  have HO5 := Aside0.mk hO5
  have HC5 := Aside0.mk hC5
  have HB5 := Aside0.mk hB5
  clear hO5 hC5 hB5 ho5 hb5
  go_wp2_with (first
    | (refine append_owW (w0 := w) w.heap.size rfl (.tmp 19) (.tmp 21) rfl _ (c4 ++ ws k ++ [n]) (ws o) A5 _ c5 rfl rfl HO5.out HC5.out HB5.out HB5.out.size (by rw [List.length_append, List.length_append, HL8.out, HL3.out]; exact (by decide : (4 + 8 + 1 + 3) * 4 ≤ 140737488355328)) ?_; intro v6 w6 ho6 hb6; have HO6 := Aside0.mk ho6; have HB6 := Aside0.mk hb6; clear ho6 hb6))
  have hO6 : OwW w6 w.heap.size v6 (gS k o n) := HO6.out
  obtain ⟨g, HG⟩ : ∃ g, Aside0 (gS k o n = g) := ⟨_, ⟨rfl⟩⟩
  have hgl := gS_length k o n HK32.out HO12.out
  have hgw := gS_isW HK32.out HO12.out bk bo h0 h1
  rw [HG.out] at hO6 hgl hgw
  have HGL := Aside0.mk hgl
  have HGW := Aside0.mk hgw
  have HO6' := Aside0.mk hO6
  clear hgl hgw hO6
  go_loopw [9, 8] (fun i v wr => ∃ t : Nat, t ≤ 10 ∧ i = .int .i64 t ∧ Aside0 (OwW wr w.heap.size v (rnds t g)) ∧ Aside0 (OwW wr w.heap.size v6 g) ∧ Below w.heap.size w wr) (fun i _ _ => 10 - (intOf i).toNat)
  case atStart => exact ⟨0, by omega, rfl, HO6', HO6', HB6.out⟩
  case round =>
    obtain ⟨t, ht, rfl, hV, hF, hB⟩ := hrel
    by_cases hlt : t < 10
    · have hlt' : (t : Int) < 10 := by omega
      have hl0 : Aside0 ((rnds t g).length = 16) := ⟨by rw [rnds_length]; exact HGL.out⟩
      have hw0 : Aside0 (IsW (rnds t g)) := ⟨rnds_isW HGW.out t⟩
      have hnx : Aside0 (rnd (rnds t g) = rnds (t + 1) g) := ⟨rfl⟩
      obtain ⟨r0, HR0⟩ : ∃ r, Aside0 (rnds t g = r) := ⟨_, ⟨rfl⟩⟩
      rw [HR0.out] at hl0 hw0 hnx hV
      go_wp2_with fail
      refine (refQuarter_o hV.out hl0.out hw0.out 0 4 8 12 (by omega) (by omega) (by omega) (by omega) rfl rfl rfl rfl hB.size).mono ?_
      rintro x w21 ⟨v21, rfl, hv1, hb1⟩
      have hV1 := Aside0.mk hv1
      have hF1 := Aside0.mk (Kd.R_below hF.out hb1)
      have hB1 := hB.trans (hb1.mono hB.size)
      have hl1 : Aside0 ((qr r0 0 4 8 12).length = 16) := ⟨by rw [qr_length]; exact hl0.out⟩
      have hw1 : Aside0 (IsW (qr r0 0 4 8 12)) := ⟨qr_isW hw0.out _ _ _ _⟩
      obtain ⟨r1, HR1⟩ : ∃ r, Aside0 (qr r0 0 4 8 12 = r) := ⟨_, ⟨rfl⟩⟩
      rw [HR1.out] at hl1 hw1 hV1
      clear hv1 hb1
      go_wp2_with fail
      refine (refQuarter_o hV1.out hl1.out hw1.out 1 5 9 13 (by omega) (by omega) (by omega) (by omega) rfl rfl rfl rfl hB1.size).mono ?_
      rintro x w22 ⟨v22, rfl, hv2, hb2⟩
      have hV2 := Aside0.mk hv2
      have hF2 := Aside0.mk (Kd.R_below hF1.out hb2)
      have hB2 := hB1.trans (hb2.mono hB1.size)
      have hl2 : Aside0 ((qr r1 1 5 9 13).length = 16) := ⟨by rw [qr_length]; exact hl1.out⟩
      have hw2 : Aside0 (IsW (qr r1 1 5 9 13)) := ⟨qr_isW hw1.out _ _ _ _⟩
      obtain ⟨r2, HR2⟩ : ∃ r, Aside0 (qr r1 1 5 9 13 = r) := ⟨_, ⟨rfl⟩⟩
      rw [HR2.out] at hl2 hw2 hV2
      clear hv2 hb2
      go_wp2_with fail
      refine (refQuarter_o hV2.out hl2.out hw2.out 2 6 10 14 (by omega) (by omega) (by omega) (by omega) rfl rfl rfl rfl hB2.size).mono ?_
      rintro x w23 ⟨v23, rfl, hv3, hb3⟩
      have hV3 := Aside0.mk hv3
      have hF3 := Aside0.mk (Kd.R_below hF2.out hb3)
      have hB3 := hB2.trans (hb3.mono hB2.size)
      have hl3 : Aside0 ((qr r2 2 6 10 14).length = 16) := ⟨by rw [qr_length]; exact hl2.out⟩
      have hw3 : Aside0 (IsW (qr r2 2 6 10 14)) := ⟨qr_isW hw2.out _ _ _ _⟩
      obtain ⟨r3, HR3⟩ : ∃ r, Aside0 (qr r2 2 6 10 14 = r) := ⟨_, ⟨rfl⟩⟩
      rw [HR3.out] at hl3 hw3 hV3
      clear hv3 hb3
      go_wp2_with fail
      refine (refQuarter_o hV3.out hl3.out hw3.out 3 7 11 15 (by omega) (by omega) (by omega) (by omega) rfl rfl rfl rfl hB3.size).mono ?_
      rintro x w24 ⟨v24, rfl, hv4, hb4⟩
      have hV4 := Aside0.mk hv4
      have hF4 := Aside0.mk (Kd.R_below hF3.out hb4)
      have hB4 := hB3.trans (hb4.mono hB3.size)
      have hl4 : Aside0 ((qr r3 3 7 11 15).length = 16) := ⟨by rw [qr_length]; exact hl3.out⟩
      have hw4 : Aside0 (IsW (qr r3 3 7 11 15)) := ⟨qr_isW hw3.out _ _ _ _⟩
      obtain ⟨r4, HR4⟩ : ∃ r, Aside0 (qr r3 3 7 11 15 = r) := ⟨_, ⟨rfl⟩⟩
      rw [HR4.out] at hl4 hw4 hV4
      clear hv4 hb4
      go_wp2_with fail
      refine (refQuarter_o hV4.out hl4.out hw4.out 0 5 10 15 (by omega) (by omega) (by omega) (by omega) rfl rfl rfl rfl hB4.size).mono ?_
      rintro x w25 ⟨v25, rfl, hv5, hb5⟩
      have hV5 := Aside0.mk hv5
      have hF5 := Aside0.mk (Kd.R_below hF4.out hb5)
      have hB5 := hB4.trans (hb5.mono hB4.size)
      have hl5 : Aside0 ((qr r4 0 5 10 15).length = 16) := ⟨by rw [qr_length]; exact hl4.out⟩
      have hw5 : Aside0 (IsW (qr r4 0 5 10 15)) := ⟨qr_isW hw4.out _ _ _ _⟩
      obtain ⟨r5, HR5⟩ : ∃ r, Aside0 (qr r4 0 5 10 15 = r) := ⟨_, ⟨rfl⟩⟩
      rw [HR5.out] at hl5 hw5 hV5
      clear hv5 hb5
      go_wp2_with fail
      refine (refQuarter_o hV5.out hl5.out hw5.out 1 6 11 12 (by omega) (by omega) (by omega) (by omega) rfl rfl rfl rfl hB5.size).mono ?_
      rintro x w26 ⟨v26, rfl, hv6, hb6⟩
      have hV6 := Aside0.mk hv6
      have hF6 := Aside0.mk (Kd.R_below hF5.out hb6)
      have hB6 := hB5.trans (hb6.mono hB5.size)
      have hl6 : Aside0 ((qr r5 1 6 11 12).length = 16) := ⟨by rw [qr_length]; exact hl5.out⟩
      have hw6 : Aside0 (IsW (qr r5 1 6 11 12)) := ⟨qr_isW hw5.out _ _ _ _⟩
      obtain ⟨r6, HR6⟩ : ∃ r, Aside0 (qr r5 1 6 11 12 = r) := ⟨_, ⟨rfl⟩⟩
      rw [HR6.out] at hl6 hw6 hV6
      clear hv6 hb6
      go_wp2_with fail
      refine (refQuarter_o hV6.out hl6.out hw6.out 2 7 8 13 (by omega) (by omega) (by omega) (by omega) rfl rfl rfl rfl hB6.size).mono ?_
      rintro x w27 ⟨v27, rfl, hv7, hb7⟩
      have hV7 := Aside0.mk hv7
      have hF7 := Aside0.mk (Kd.R_below hF6.out hb7)
      have hB7 := hB6.trans (hb7.mono hB6.size)
      have hl7 : Aside0 ((qr r6 2 7 8 13).length = 16) := ⟨by rw [qr_length]; exact hl6.out⟩
      have hw7 : Aside0 (IsW (qr r6 2 7 8 13)) := ⟨qr_isW hw6.out _ _ _ _⟩
      obtain ⟨r7, HR7⟩ : ∃ r, Aside0 (qr r6 2 7 8 13 = r) := ⟨_, ⟨rfl⟩⟩
      rw [HR7.out] at hl7 hw7 hV7
      clear hv7 hb7
      go_wp2_with fail
      refine (refQuarter_o hV7.out hl7.out hw7.out 3 4 9 14 (by omega) (by omega) (by omega) (by omega) rfl rfl rfl rfl hB7.size).mono ?_
      rintro x w28 ⟨v28, rfl, hv8, hb8⟩
      have hV8 := Aside0.mk hv8
      have hF8 := Aside0.mk (Kd.R_below hF7.out hb8)
      have hB8 := hB7.trans (hb8.mono hB7.size)
      have hl8 : Aside0 ((qr r7 3 4 9 14).length = 16) := ⟨by rw [qr_length]; exact hl7.out⟩
      have hw8 : Aside0 (IsW (qr r7 3 4 9 14)) := ⟨qr_isW hw7.out _ _ _ _⟩
      obtain ⟨r8, HR8⟩ : ∃ r, Aside0 (qr r7 3 4 9 14 = r) := ⟨_, ⟨rfl⟩⟩
      rw [HR8.out] at hl8 hw8 hV8
      clear hv8 hb8
      go_wp2_with fail
      go_roundw
      case rel => exact ⟨t + 1, by omega, by go_num, ⟨by rw [← hnx.out]; unfold rnd; rw [HR1.out, HR2.out, HR3.out, HR4.out, HR5.out, HR6.out, HR7.out, HR8.out]; exact hV8.out⟩, hF8, hB8⟩
      case measure => simp [intOf]; omega
    · have hge : ¬ (t : Int) < 10 := by omega
      obtain rfl : t = 10 := by omega
      have hgl : (rnds 10 g).length = 16 := by rw [rnds_length]; exact HGL.out
      obtain ⟨R, HR⟩ : ∃ R, Aside0 (rnds 10 g = R) := ⟨_, ⟨rfl⟩⟩
      rw [HR.out] at hV hgl
      have HRL := Aside0.mk hgl
      clear hgl
      obtain ⟨g8, c8, rfl, hb8, hl8, _⟩ := Kd.R_form hV.out (by rw [HRL.out]; omega)
      obtain ⟨g7, c7, rfl, hb7, hl7, _⟩ := Kd.R_form hF.out (by rw [HGL.out]; omega)
      rw [HRL.out] at hV ⊢
      rw [HGL.out] at hF ⊢
      go_wp2_with fail
      obtain ⟨wo, HWO⟩ : ∃ wo : World, Aside0 (wo = wr) := ⟨_, ⟨rfl⟩⟩
      rw [← HWO.out] at hV hF hB hl8 hl7 ⊢
      clear HWO
      have HB := Aside0.mk hB
      clear hB
      go_loopw [11, 10] (fun i v wq => ∃ (T : Nat) (vv : Value), T ≤ 16 ∧ i = .int .i64 T ∧ vv = v ∧ Aside0 (Ow wq wo.heap.size vv (outS R g T)) ∧ Below wo.heap.size wo wq) (fun i _ _ => 16 - (intOf i).toNat)
      case atStart => exact ⟨0, _, by omega, rfl, rfl, ⟨Kd.R_nil _ _ _ _ _⟩, Below.refl _ _⟩
      case round =>
        obtain ⟨T, vv, hT, rfl, rfl, hO, hQ⟩ := hrel
        by_cases hlt : T < 16
        · have hlt' : (T : Int) < 16 := by omega
          have n0 : (0 : Int) ≤ (T : Int) := by omega
          have d1 : wo.cell? ⟨g8, T, none⟩ = some (.int .u32 (R.getD T 0)) := (Kd.R_celln 0 hV.out (T : Int) n0 (by omega)).1
          have d2 : wo.cell? ⟨g7, T, none⟩ = some (.int .u32 (g.getD T 0)) := (Kd.R_celln 0 hF.out (T : Int) n0 (by omega)).1
          have hx1 : 0 ≤ IntKind.u32.wrap (R.getD T 0 + g.getD T 0) ∧ IntKind.u32.wrap (R.getD T 0 + g.getD T 0) < 4294967296 := by rw [IntKind.wrap_u32']; omega
          have hnx : Aside0 (outS R g T ++ storeW (IntKind.u32.wrap (R.getD T 0 + g.getD T 0)) true = outS R g (T + 1)) := ⟨by rw [IntKind.wrap_u32']; rfl⟩
          have hol := Aside0.mk (outS_length R g T)
          generalize R.getD T 0 = x1 at *
          generalize g.getD T 0 = x2 at *
          generalize outS R g T = OT at *
          have HX1 := Aside0.mk hx1
          have eX : ∀ w', Below wo.heap.size wo w' → w'.cell? ⟨g8, T, none⟩ = some (.int .u32 x1) := fun w' hb => (hb.cell (p := ⟨g8, T, none⟩) hl8).trans d1
          have eY : ∀ w', Below wo.heap.size wo w' → w'.cell? ⟨g7, T, none⟩ = some (.int .u32 x2) := fun w' hb => (hb.cell (p := ⟨g7, T, none⟩) hl7).trans d2
          have k1 := eX wr hQ
          have k2 := eY wr hQ
          have EX := Aside0.mk eX
          have EY := Aside0.mk eY
          clear eX eY d1 d2 hx1
          have hQd := hQ.drew
          go_wp2_with fail
          go_region_held3 (fun w' => w'.cell? ⟨g8, T, none⟩ = some (.int .u32 x1) ∧ w'.cell? ⟨g7, T, none⟩ = some (.int .u32 x2))
            (first | exact ⟨k1, k2⟩ | exact ⟨EX.out _ hQ3.out, EY.out _ hQ3.out⟩ | exact ⟨EX.out _ hb5, EY.out _ hb5⟩ | go_keep)
            (first
             | (go_at_call 45; (with_reducible refine (refStore_c HX1.out.1 HX1.out.2 true).mono ?_); rintro x w3 ⟨v3, rfl, ho3, hb3⟩; obtain ⟨A3, c3, rfl, hr3⟩ := rd_of_own ho3; have hQ3 := Aside0.mk (hQd.trans (hb3.mono hQd.size)); have hO3 := Aside0.mk (Kd.R_below (Kd.R_drew hO.out) hb3))
             | (refine step_append_ow (w0 := wo) wo.heap.size (by rfl) (.tmp 48) (.tmp 58) rfl vv OT (storeW (IntKind.u32.wrap (x1 + x2)) true) A3 (storeW (IntKind.u32.wrap (x1 + x2)) true).length c3 rfl rfl hO3.out hr3 hQ3.out hQ3.out.size (by rw [hol.out, storeW_length]; omega) ?_; intro v5 w5 ho5 hb5 hg5 ha5))
          have HO5 : Aside0 (Ow w5 wo.heap.size v5 (outS R g (T + 1))) := ⟨by rw [← hnx.out]; exact ho5⟩
          clear ho5 hg5 ha5 k1 k2
          go_wp2_with fail
          go_roundw
          case rel => exact ⟨T + 1, v5, by omega, by go_num, rfl, HO5, hb5⟩
          case measure => simp [intOf]; omega
        · have hge : ¬ (T : Int) < 16 := by omega
          obtain rfl : T = 16 := by omega
          have hE : Ow wr w.heap.size vv (chaS k o n) := by
            have h1 := Kd.R_lower hO.out HB.out.size
            have h2 : chaS k o n = outS R g 16 := by unfold chaS blkS; rw [HG.out, HR.out]
            rw [h2]; exact h1
          have HE := Aside0.mk hE
          clear hE
          go_wp2_with fail
          go_ret
          exact ⟨_, rfl, HE.out, below_next HB.out hQ⟩
end Go.Proofs.Ytkjmjgiklelpiaa.CiL
