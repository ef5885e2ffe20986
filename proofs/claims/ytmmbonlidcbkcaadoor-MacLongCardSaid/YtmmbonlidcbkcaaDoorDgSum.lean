/- (State).Sum, walked: the sum of all that was added. -/
import Derived.Test.YtmmbonlidcbkcaaDoorDgAdd
import Derived.Deep.RegionHeld3
import Derived.Deep.RegionLaw
import Derived.Deep.Cut
namespace Go.Proofs.YtmmbonlidcbkcaaDoor.DgSum
open Go.RowKit Go.Proofs.YtmmbonlidcbkcaaDoorW.PrintWords Go.Proofs.YtmmbonlidcbkcaaDoor.Num Go.Proofs.YtmmbonlidcbkcaaDoor.Sha Go.Proofs.YtmmbonlidcbkcaaDoor.WordC Go.Proofs.YtmmbonlidcbkcaaDoor.Arr Go.Proofs.YtmmbonlidcbkcaaDoor.App Go.Proofs.YtmmbonlidcbkcaaDoor.DgC Go.Proofs.YtmmbonlidcbkcaaDoor.DgWords Go.Proofs.YtmmbonlidcbkcaaDoor.DgBlock Go.Proofs.YtmmbonlidcbkcaaDoor.DgState Go.Proofs.YtmmbonlidcbkcaaDoor.DgAdd
set_option linter.unusedVariables false
set_option linter.unusedSimpArgs false

theorem size27 : (Tryd.prog.info? 27).map (·.size) = some 32 := by kernel_rfl
theorem rd_one (w : World) (x : Int) : Rd (w.alloc (.cells #[.int .u8 x] 5)) (some ⟨w.heap.size, 0, none⟩) 1 1 [x] :=
  rd_of_blk (t := 5) (cs := [.int .u8 x]) (heap_alloc_new _ _) 0 [x] 1 (Nat.le_refl _) (by simp) (fun j hj => by
    have : j = 0 := by simp at hj; omega
    subst this; rfl)
theorem rd_keep {w w1 : World} {A : Option Addr} {n c g t : Nat} {l : List Int} {cs : List Value} (h : Rd w A n c l) (hg : Blk w g t cs) (hno : ∀ (i : Nat) (x : Int), cs[i]? ≠ some (Value.int .u8 x)) (hk : KeepBut w w1 g none) : Rd w1 A n c l :=
  ⟨h.len, h.cap, Kd.C_foot_ne (fun h => h) h.cells (rd_apart h hg hno) _ hk⟩
theorem h8_no8 (s : H8) : ∀ (i : Nat) (x : Int), (nums .u32 s.list)[i]? ≠ some (Value.int .u8 x) := by
  intro i x h
  have hm := List.mem_of_getElem? h
  simp [nums, H8.list] at hm
theorem outS_take (s : H8) (i : Nat) (h : i < 8) : (outS s).take (4 * i) ++ told 4 (s.list.getD i 0) = (outS s).take (4 * (i + 1)) := by
  have hc : i = 0 ∨ i = 1 ∨ i = 2 ∨ i = 3 ∨ i = 4 ∨ i = 5 ∨ i = 6 ∨ i = 7 := by omega
  rcases hc with rfl | rfl | rfl | rfl | rfl | rfl | rfl | rfl <;> rfl
theorem index8 (s : H8) (t : Nat) (ht : t < 8) (w : World) : (Instr.index 89 (.agg #[.int .u32 s.a, .int .u32 s.b, .int .u32 s.c, .int .u32 s.d, .int .u32 s.e, .int .u32 s.f, .int .u32 s.g, .int .u32 s.h]) (.int .i64 t)).run Tryd.prog w = .ok (.int .u32 (s.list.getD t 0)) w := by
  obtain ⟨i, hi, hz⟩ := Option.map_eq_some_iff.1 info88
  have hn : (0 : Int) ≤ (t : Int) ∧ (t : Int) < 8 := by omega
  have hk := nums_get .u32 s.list t (by exact ht)
  have hg : (isAgg 88).run Tryd.prog w = .ok false w := by
    unfold isAgg
    rw [Sem.run_bind, run_underlying Tryd.underlying88]
    rfl
  show (Instr.index 89 (.agg (nums .u32 s.list).toArray) (.int .i64 t)).run Tryd.prog w = _
  simp [Instr.index, run_underlying Tryd.underlying89, asIntOf, hn, go_sem, Go.sizeOf, typeInfo, hi, hz, ht, hg, hk]
theorem sizeU8 : (Tryd.prog.info? 5).map (·.size) = some 1 := by kernel_rfl
/-- out[4*i:], of an array of 32 bytes -/
theorem slice_arr (G T : Nat) (h : T < 8) (W : World) : (Instr.sliceAt 27 (.pointer (some ⟨G, 0, none⟩)) (some (.int .i64 (4 * (T : Int)))) none none).run Tryd.prog W = .ok (.slice (some ⟨G, 4 * T, none⟩) (32 - 4 * T) (32 - 4 * T)) W := by
  obtain ⟨i, hi, hz⟩ := infoX
  have h0 : (0 : Int) ≤ 4 * (T : Int) ∧ 4 * (T : Int) ≤ 32 := by omega
  have h1 : (4 * (T : Int)).toNat = 4 * T := by omega
  have h2 : ¬ 32 = 4 * T := by omega
  have h3 : (⟨G, 0, none⟩ : Addr).add (4 * T) = ⟨G, 4 * T, none⟩ := add_plain G (4 * T)
  simp [Instr.sliceAt, run_underlying Tryd.underlying27, Instr.sureAddr, Instr.sliceBounds, Instr.sliceBound, asIntOf, sizeOf, typeInfo, hi, hz, h0, h1, h2, h3]
/-- The bytes of the sum as they stand when so many words have been told. -/
def outT (s : H8) (T : Nat) : List Int := (outS s).take (4 * T) ++ List.replicate (32 - 4 * T) 0
theorem outT_length (s : H8) (T : Nat) (h : T ≤ 8) : (outT s T).length = 32 := by simp [outT, outS_length]; omega
theorem outT_zero (s : H8) : outT s 0 = List.replicate 32 0 := rfl
theorem outT_full (s : H8) : outT s 8 = outS s := by
  unfold outT
  rw [List.take_of_length_le (by rw [outS_length]; omega)]; simp
theorem outT_next (s : H8) (T : Nat) (h : T < 8) : (nums .u8 (outT s T)).take (4 * T) ++ nums .u8 (told 4 (s.list.getD T 0)) ++ (nums .u8 (outT s T)).drop (4 * T + 4) = nums .u8 (outT s (T + 1)) := by
  have hl : ((outS s).take (4 * T)).length = 4 * T := by rw [List.length_take, outS_length]; omega
  unfold nums
  rw [← List.map_take, ← List.map_drop, ← List.map_append, ← List.map_append]
  congr 1
  unfold outT
  rw [← outS_take s T h, List.take_append_of_le_length (by omega), List.take_of_length_le (by omega), List.drop_append, List.drop_of_length_le (by omega), hl, show 4 * T + 4 - 4 * T = 4 by omega, List.drop_replicate, show 32 - 4 * T - 4 = 32 - 4 * (T + 1) by omega]
  simp
theorem endS_isB (n : Nat) : IsB (endS n) := fun x hx => paddedS_isB (b := List.replicate n 0) (fun y hy => by rw [(List.mem_replicate.1 hy).2]; omega) x (by simp [paddedS, hx])
set_option maxHeartbeats 8000000 in
set_option maxRecDepth 100000 in
theorem Sum_c {base g : Nat} {v : Value} {b : List Int} {w : World} (hS : St w base g v b) (ht : Tb w) (hn : b.length ≤ 140737488351232) :
    Calls Tryd.prog 31 #[.pointer (some ⟨g, 0, none⟩)] w fun e w' => e = .returned (.agg (nums .u8 (shaS b)).toArray) ∧ Below w.heap.size w w' := by
  go_enter Tryd.func31, Tryd.ntmps31
  go_upto_region 3 with (fail)
  generalize hW : w.alloc _ = W0
  have hB0 : Below w.heap.size w W0 := by rw [← hW]; exact (Below.refl _ w).alloc (Nat.le_refl _) _
  have hO : Aside0 (Blk W0 w.heap.size 27 (nums .u8 (List.replicate 32 0))) := ⟨by rw [← hW]; exact heap_alloc_new _ _⟩
  clear hW
  have hS0 := hS.below hB0
  have ht0 := ht.below hB0
  clear hS ht
  obtain ⟨hge, hSI, hSb, hSt⟩ := hS0
  obtain ⟨Av, cv, rfl, hrv⟩ := hSt.rd
  clear hSt hge
  have hl := restS_length b
  have hrB : IsB (restS b) := fun x hx => hSI x (List.mem_of_mem_drop hx)
  obtain ⟨r, HR⟩ : ∃ r, Aside0 (restS b = r) := ⟨_, ⟨rfl⟩⟩
  obtain ⟨s0, HS0⟩ : ∃ s0, Aside0 (goneS b = s0) := ⟨_, ⟨rfl⟩⟩
  have hs0 := goneS_ok b
  rw [HS0.out] at hs0 hSb
  rw [HR.out] at hl hrB hrv hSb
  obtain ⟨n, HN⟩ : ∃ n, Aside0 (b.length = n) := ⟨_, ⟨rfl⟩⟩
  rw [HN.out] at hl hn hSb
  have hsh : shaS b = outS (blocksS ((r.length + (endS n).length) / 64) s0 (r ++ endS n)) := by rw [shaS_of b, HR.out, HS0.out, HN.out]
  obtain ⟨m, HM0⟩ : ∃ m, Aside0 (r.length = m) := ⟨_, ⟨rfl⟩⟩
  rw [HM0.out] at hl hrv hSb hsh
  have HSH := Aside0.mk hsh
  clear hsh hSI
  have hm64 : m < 64 := by omega
  obtain ⟨a1, a2, a3, a4, a5, a6, a7, a8⟩ := s0
  have HL := Aside0.mk hl
  have HSB := Aside0.mk hSb
  have k8 : (W0.alloc (.cells #[] 5)).cell? ⟨g, 8, none⟩ = some (.slice Av m cv) := Blk.cell (hSb.alloc _) 8
  clear hl hSb
  go_wp2_with (first
    | (at_builtin; refine append_ow (w0 := W0) W0.heap.size rfl (.tmp 11) (.tmp 15) rfl (.slice (some ⟨W0.heap.size, 0, none⟩) 0 0) [] r Av m cv rfl rfl (ow_empty W0 _ (Nat.le_refl _)) (hrv.alloc _) ((Below.refl _ _).alloc (Nat.le_refl _) _) (by simp) (by simp; omega) ?_; intro v1 w1 ho1 hb1 hx1 hy1; clear hx1 hy1; rw [List.nil_append] at ho1; obtain ⟨A1, c1, rfl, hr1⟩ := rd_of_own ho1; rw [HM0.out] at ho1 hr1 ⊢)
    | (at_builtin; refine append_ow (w0 := W0) W0.heap.size rfl (.tmp 16) (.tmp 17) rfl (.slice A1 m c1) r [128] (some ⟨w1.heap.size, 0, none⟩) 1 1 rfl rfl (Kd.R_alloc ho1 _) (rd_one w1 128) (hb1.alloc hb1.size _) (Nat.le_trans hb1.size (by simp)) (by rw [HM0.out]; omega) ?_; intro v2 w2 ho2 hb2 hx2 hy2; clear hx2 hy2; obtain ⟨A2, c2, rfl, hr2⟩ := rd_of_own ho2; have e2 : (r ++ [128]).length = m + 1 := (by simp [HM0.out]); rw [e2] at ho2; rw [e2] at hr2; rw [e2]; clear e2))
  have H2 : Aside0 (Ow w2 W0.heap.size (.slice A2 (m + 1) c2) (r ++ 128 :: List.replicate 0 0)) := ⟨ho2⟩
  clear ho1 ho2 hr1 hr2 hb1 k8
  go_loopw [3] (fun v wq => ∃ (k : Nat) (vv : Value), k ≤ zerosS n ∧ vv = v ∧ Aside0 (Ow wq W0.heap.size vv (r ++ 128 :: List.replicate k 0)) ∧ Below W0.heap.size W0 wq) (fun v _ => 200 - (match v with | .slice _ q _ => q | _ => 0))
  case atStart => exact ⟨0, _, by omega, rfl, H2, hb2⟩
  case round =>
    clear H2 hb2
    obtain ⟨k, vv, hk, rfl, hO1, hB⟩ := hrel
    obtain ⟨A3, c3, rfl, hr3⟩ := rd_of_own hO1.out
    have hM : (r ++ 128 :: List.replicate k 0).length = m + 1 + k := by simp [HM0.out]; omega
    by_cases hlt : k < zerosS n
    · have h56 : ((m + 1 + k : Nat) : Int) % 64 ≠ 56 := by have h9 := HL.out; unfold zerosS at hlt; omega
      rw [hM] at hr3 ⊢
      have HO : Aside0 (Ow wr W0.heap.size (.slice A3 (m + 1 + k) c3) (r ++ 128 :: List.replicate k 0)) := ⟨by have h := hO1.out; rw [hM] at h; exact h⟩
      have HM := Aside0.mk hM
      clear hM hO1
      have hk64 : k < 64 := by unfold zerosS at hlt; omega
      go_wp2_with (first
        | (at_builtin; refine append_ow (w0 := W0) W0.heap.size rfl (.tmp 23) (.tmp 24) rfl (.slice A3 (m + 1 + k) c3) (r ++ 128 :: List.replicate k 0) [0] (some ⟨wr.heap.size, 0, none⟩) 1 1 rfl rfl (Kd.R_alloc HO.out _) (rd_one wr 0) (hB.alloc hB.size _) (Nat.le_trans hB.size (by simp)) (by rw [HM.out]; omega) ?_; intro v4 w4 ho4 hb4 hx4 hy4; clear hx4 hy4; rw [List.append_assoc, List.cons_append, ← List.replicate_succ'] at ho4; obtain ⟨A4, c4, rfl, hr4⟩ := rd_of_own ho4; have e4 : (r ++ 128 :: List.replicate (k + 1) 0).length = m + 1 + (k + 1) := (by simp [HM0.out]; omega); rw [e4] at ho4; rw [e4] at hr4; rw [e4]; clear e4))
      go_roundw
      case rel => exact ⟨k + 1, _, by omega, rfl, ⟨ho4⟩, hb4⟩
      case measure =>
        show 200 - (m + 1 + (k + 1)) < 200 - (m + 1 + k)
        clear h56 hlt
        omega
    · have hkz : k = zerosS n := by omega
      have h56 : ((m + 1 + k : Nat) : Int) % 64 = 56 := by have h9 := HL.out; rw [hkz]; unfold zerosS; omega
      rw [hM] at hr3 ⊢
      have HO1 : Aside0 (Ow wr W0.heap.size (.slice A3 (m + 1 + k) c3) (r ++ 128 :: List.replicate (zerosS n) 0)) := ⟨by have h := hO1.out; rw [hM] at h; rw [← hkz]; exact h⟩
      have hk64 : k < 64 := by rw [hkz]; unfold zerosS; omega
      have HM := Aside0.mk hM
      have HKZ := Aside0.mk hkz
      clear hM hO1 hkz hlt hk
      have k9 : wr.cell? ⟨g, 9, none⟩ = some (.int .u64 n) := Blk.cell (HSB.out.below hB) 9
      go_wp2_with fail
      refine (Tell_c (a := (n : Int) * 8) (by omega) (by omega)).mono ?_
      rintro x w4 ⟨v4, rfl, ho4, hb4⟩
      obtain ⟨A4, c4, rfl, hr4⟩ := rd_of_own ho4
      have l8 := told_length 8 ((n : Int) * 8)
      rw [l8] at hr4 ⊢
      have hO4 : Ow w4 W0.heap.size (.slice A3 (m + 1 + k) c3) (r ++ 128 :: List.replicate (zerosS n) 0) := Kd.R_below HO1.out hb4
      have hB4 := below_next hB hb4
      obtain ⟨E, HE⟩ : ∃ E, Aside0 (r ++ endS n = E) := ⟨_, ⟨rfl⟩⟩
      have hEe : (r ++ 128 :: List.replicate (zerosS n) 0) ++ told 8 ((n : Int) * 8) = E := by rw [← HE.out]; unfold endS; simp
      have hEl : E.length = m + (endS n).length := by rw [← HE.out, List.length_append, HM0.out]
      have hEm : E.length % 64 = 0 := by rw [hEl, endS_length]; have h9 := HL.out; unfold zerosS; omega
      have hEs : E.length ≤ 200 := by rw [hEl, endS_length]; unfold zerosS; omega
      have hEB : IsB E := by
        rw [← HE.out]; intro x hx
        rcases List.mem_append.1 hx with h | h
        · exact hrB x h
        · exact endS_isB n x h
      have HEL := Aside0.mk hEl
      have HEE := Aside0.mk hEe
      clear l8 k9 hEl hEe
      go_wp2_with (first
        | (at_builtin; refine append_ow (w0 := W0) W0.heap.size rfl (.tmp 26) (.tmp 32) rfl (.slice A3 (m + 1 + k) c3) (r ++ 128 :: List.replicate (zerosS n) 0) (told 8 ((n : Int) * 8)) A4 8 c4 rfl rfl hO4 hr4 hB4 hB4.size (by rw [← HKZ.out, HM.out]; omega) ?_; intro v5 w5 ho5 hb5 hx5 hy5; clear hx5 hy5; rw [HEE.out] at ho5; obtain ⟨A5, c5, rfl, hr5⟩ := rd_of_own ho5; have hSB5 := HSB.out.below hb5; have k0 : w5.cell? ⟨g, 0, none⟩ = some (.int .u32 a1) := Blk.cell hSB5 0; have k1 : w5.cell? ⟨g, 1, none⟩ = some (.int .u32 a2) := Blk.cell hSB5 1; have k2 : w5.cell? ⟨g, 2, none⟩ = some (.int .u32 a3) := Blk.cell hSB5 2; have k3 : w5.cell? ⟨g, 3, none⟩ = some (.int .u32 a4) := Blk.cell hSB5 3; have k4 : w5.cell? ⟨g, 4, none⟩ = some (.int .u32 a5) := Blk.cell hSB5 4; have k5 : w5.cell? ⟨g, 5, none⟩ = some (.int .u32 a6) := Blk.cell hSB5 5; have k6 : w5.cell? ⟨g, 6, none⟩ = some (.int .u32 a7) := Blk.cell hSB5 6; have k7 : w5.cell? ⟨g, 7, none⟩ = some (.int .u32 a8) := Blk.cell hSB5 7; clear hSB5))
      have hk5 : True := trivial
      generalize hW6 : w5.alloc _ = W6
      obtain ⟨s0, HSS⟩ : ∃ s0, Aside0 ((⟨a1, a2, a3, a4, a5, a6, a7, a8⟩ : H8) = s0) := ⟨_, ⟨rfl⟩⟩
      have hH : Aside0 (Blk W6 w5.heap.size 89 (nums .u32 (blocksS 0 s0 E).list)) := ⟨by rw [← hW6, ← HSS.out]; exact heap_alloc_new _ _⟩
      have hR6 : Aside0 (Rd W6 A5 E.length c5 (E.drop (64 * 0))) := ⟨by rw [← hW6]; exact hr5.alloc _⟩
      have hB6 : Below W0.heap.size W0 W6 := by rw [← hW6]; exact hb5.alloc hb5.size _
      have hHge : W0.heap.size ≤ w5.heap.size := hb5.size
      have hsh := HSH.out
      rw [HSS.out] at hsh hs0
      rw [HE.out, ← HEL.out] at hsh
      have HSH2 := Aside0.mk hsh
      have HSB2 := HSB
      clear hW6 hsh HSH hr5 ho5 hb5 k0 k1 k2 k3 k4 k5 k6 k7 hk5 hO4 hr4 hb4 hB4 hB HO1
      generalize w5.heap.size = H at *
      go_loopw [3] (fun v wq => ∃ (j q : Nat) (A : Option Addr) (c : Nat), 64 * j + q = E.length ∧ v = .slice A q c ∧ Aside0 (Blk wq H 89 (nums .u32 (blocksS j s0 E).list)) ∧ Aside0 (Rd wq A q c (E.drop (64 * j))) ∧ Below W0.heap.size W0 wq) (fun v _ => match v with | .slice _ q _ => q | _ => 0)
      case atStart => exact ⟨0, E.length, A5, c5, by omega, rfl, hH, hR6, hB6⟩
      case round =>
        clear hH hR6 hB6
        obtain ⟨j, q, A, c, hjq, rfl, hHj, hRj, hBj⟩ := hrel
        by_cases hlt : 64 ≤ q
        · have hlt' : (0 : Int) < (q : Int) := by omega
          have hok := blocksS_ok hs0 j E
          obtain ⟨R, HRE⟩ : ∃ R, Aside0 (blocksS j s0 E = R) := ⟨_, ⟨rfl⟩⟩
          rw [HRE.out] at hHj hok
          obtain ⟨p1, p2, p3, p4, p5, p6, p7, p8⟩ := R
          have k0 : wr.cell? ⟨H, 0, none⟩ = some (.int .u32 p1) := Blk.cell hHj.out 0
          have k1 : wr.cell? ⟨H, 1, none⟩ = some (.int .u32 p2) := Blk.cell hHj.out 1
          have k2 : wr.cell? ⟨H, 2, none⟩ = some (.int .u32 p3) := Blk.cell hHj.out 2
          have k3 : wr.cell? ⟨H, 3, none⟩ = some (.int .u32 p4) := Blk.cell hHj.out 3
          have k4 : wr.cell? ⟨H, 4, none⟩ = some (.int .u32 p5) := Blk.cell hHj.out 4
          have k5 : wr.cell? ⟨H, 5, none⟩ = some (.int .u32 p6) := Blk.cell hHj.out 5
          have k6 : wr.cell? ⟨H, 6, none⟩ = some (.int .u32 p7) := Blk.cell hHj.out 6
          have k7 : wr.cell? ⟨H, 7, none⟩ = some (.int .u32 p8) := Blk.cell hHj.out 7
          obtain ⟨hcut, hrd64⟩ := rd_slice_to hRj.out 64 (y := 64) (by omega) hlt
          have hI : IsB ((E.drop (64 * j)).take 64) := fun x hx => hEB x (List.mem_of_mem_drop (List.mem_of_mem_take hx))
          have HT1 : Tb wr.drew := Tb.below ht0 ((hBj.drew).mono (Nat.le_refl _))
          have hnext := blocksS_next s0 E j
          rw [HRE.out] at hnext
          have HNEXT := Aside0.mk hnext
          clear hnext
          go_wp2_with fail
          go_region_with (first
            | (go_at_call 69; (with_reducible refine (block8 hok hrd64.drew hI HT1).mono ?_); rintro x w7 ⟨b1, b2, b3, b4, b5, b6, b7, b8, HB8, rfl, hb7⟩; have hH7 := Blk.below (w := wr.drew) hHj.out hb7; have e0 : w7.cell? ⟨H, 0, none⟩ = some (.int .u32 p1) := Blk.cell hH7 0; have g0 := Blk.frozen hH7 0; have e1 : w7.cell? ⟨H, 1, none⟩ = some (.int .u32 p2) := Blk.cell hH7 1; have g1 := Blk.frozen hH7 1; have e2 : w7.cell? ⟨H, 2, none⟩ = some (.int .u32 p3) := Blk.cell hH7 2; have g2 := Blk.frozen hH7 2; have e3 : w7.cell? ⟨H, 3, none⟩ = some (.int .u32 p4) := Blk.cell hH7 3; have g3 := Blk.frozen hH7 3; have e4 : w7.cell? ⟨H, 4, none⟩ = some (.int .u32 p5) := Blk.cell hH7 4; have g4 := Blk.frozen hH7 4; have e5 : w7.cell? ⟨H, 5, none⟩ = some (.int .u32 p6) := Blk.cell hH7 5; have g5 := Blk.frozen hH7 5; have e6 : w7.cell? ⟨H, 6, none⟩ = some (.int .u32 p7) := Blk.cell hH7 6; have g6 := Blk.frozen hH7 6; have e7 : w7.cell? ⟨H, 7, none⟩ = some (.int .u32 p8) := Blk.cell hH7 7; have g7 := Blk.frozen hH7 7; have HH7 := Aside0.mk hH7; clear hH7))
          have hW := blk_put8 (rest := []) (by rw [List.append_nil]; exact HH7.out) b1 b2 b3 b4 b5 b6 b7 b8
          rw [List.append_nil] at hW
          have hR7 := hRj.out.drew.below hb7
          have hR8 := rd_keep hR7 HH7.out (h8_no8 _) (((((((((KeepBut.refl w7 H none).set_ 0 (.int .u32 b1)).set_ 1 (.int .u32 b2)).set_ 2 (.int .u32 b3)).set_ 3 (.int .u32 b4)).set_ 4 (.int .u32 b5)).set_ 5 (.int .u32 b6)).set_ 6 (.int .u32 b7)).set_ 7 (.int .u32 b8))
          have hB7 : Below W0.heap.size W0 w7 := hBj.drew.trans (hb7.mono hBj.drew.size)
          have hB8 := ((((((((hB7.setCell (p := ⟨H, 0, none⟩) hHge (.int .u32 b1)).setCell (p := ⟨H, 1, none⟩) hHge (.int .u32 b2)).setCell (p := ⟨H, 2, none⟩) hHge (.int .u32 b3)).setCell (p := ⟨H, 3, none⟩) hHge (.int .u32 b4)).setCell (p := ⟨H, 4, none⟩) hHge (.int .u32 b5)).setCell (p := ⟨H, 5, none⟩) hHge (.int .u32 b6)).setCell (p := ⟨H, 6, none⟩) hHge (.int .u32 b7)).setCell (p := ⟨H, 7, none⟩) hHge (.int .u32 b8))
          clear e0 e1 e2 e3 e4 e5 e6 e7 g0 g1 g2 g3 g4 g5 g6 g7 k0 k1 k2 k3 k4 k5 k6 k7
          obtain ⟨w8, hw8⟩ : ∃ w8, w8 = ((((((((w7.setCell ⟨H, 0, none⟩ (.int .u32 b1)).setCell ⟨H, 1, none⟩ (.int .u32 b2)).setCell ⟨H, 2, none⟩ (.int .u32 b3)).setCell ⟨H, 3, none⟩ (.int .u32 b4)).setCell ⟨H, 4, none⟩ (.int .u32 b5)).setCell ⟨H, 5, none⟩ (.int .u32 b6)).setCell ⟨H, 6, none⟩ (.int .u32 b7)).setCell ⟨H, 7, none⟩ (.int .u32 b8)) := ⟨_, rfl⟩
          rw [← hw8] at hW hR8 hB8 ⊢
          clear hw8
          rw [← HB8.out, HNEXT.out] at hW
          obtain ⟨A', c', hcut2, hR9⟩ := rd_slice_from hR8 64 (x := 64) (by omega) hlt
          rw [drop64] at hR9
          have HW := Aside0.mk hW
          have HR9 := Aside0.mk hR9
          clear hW hR9 hR7 hR8
          go_wp2_with fail
          go_roundw
          case rel => exact ⟨j + 1, q - 64, A', c', by omega, rfl, HW, HR9, hB8⟩
          case measure => show q - 64 < q; omega
        · have hq0 : q = 0 := by omega
          subst hq0
          have hj : j = E.length / 64 := by omega
          have hok := blocksS_ok hs0 j E
          obtain ⟨R, HRE⟩ : ∃ R, Aside0 (blocksS j s0 E = R) := ⟨_, ⟨rfl⟩⟩
          have hsh : shaS b = outS R := by rw [HSH2.out, ← HRE.out, hj]
          rw [HRE.out] at hHj hok
          have HSH3 := Aside0.mk hsh
          obtain ⟨p1, p2, p3, p4, p5, p6, p7, p8⟩ := R
          clear hsh hj
          go_upto_region 12 with (fail)
          generalize hW9 : wr.alloc _ = W9
          have hG9 : Aside0 (Blk W9 wr.heap.size 27 (nums .u8 (outT ⟨p1, p2, p3, p4, p5, p6, p7, p8⟩ 0))) := ⟨by rw [← hW9, outT_zero]; exact heap_alloc_new _ _⟩
          have hH9 : Blk W9 H 89 (nums .u32 (H8.list ⟨p1, p2, p3, p4, p5, p6, p7, p8⟩)) := by rw [← hW9]; exact Blk.alloc hHj.out _
          have hB9 : Below W0.heap.size W0 W9 := by rw [← hW9]; exact hBj.alloc hBj.size _
          have hG0 : W0.heap.size ≤ wr.heap.size := hBj.size
          have hOlt := Blk.lt hO.out
          clear hW9
          have k0 : W9.cell? ⟨H, 0, none⟩ = some (.int .u32 p1) := Blk.cell hH9 0
          have k1 : W9.cell? ⟨H, 1, none⟩ = some (.int .u32 p2) := Blk.cell hH9 1
          have k2 : W9.cell? ⟨H, 2, none⟩ = some (.int .u32 p3) := Blk.cell hH9 2
          have k3 : W9.cell? ⟨H, 3, none⟩ = some (.int .u32 p4) := Blk.cell hH9 3
          have k4 : W9.cell? ⟨H, 4, none⟩ = some (.int .u32 p5) := Blk.cell hH9 4
          have k5 : W9.cell? ⟨H, 5, none⟩ = some (.int .u32 p6) := Blk.cell hH9 5
          have k6 : W9.cell? ⟨H, 6, none⟩ = some (.int .u32 p7) := Blk.cell hH9 6
          have k7 : W9.cell? ⟨H, 7, none⟩ = some (.int .u32 p8) := Blk.cell hH9 7
          go_wp2_with fail
          clear k0 k1 k2 k3 k4 k5 k6 k7 hH9
          generalize wr.heap.size = G at *
          go_loopw [48] (fun i wq => ∃ T : Nat, T ≤ 8 ∧ i = .int .i64 T ∧ Aside0 (Blk wq G 27 (nums .u8 (outT ⟨p1, p2, p3, p4, p5, p6, p7, p8⟩ T))) ∧ Below W0.heap.size W0 wq) (fun i _ => 8 - (intOf i).toNat)
          case atStart => exact ⟨0, by omega, rfl, hG9, hB9⟩
          case round =>
            clear hG9 hB9 hHj hRj hBj
            obtain ⟨T, hT8, rfl, hGT, hBT⟩ := hrel
            by_cases hlt : T < 8
            · have hlt' : (T : Int) < 8 := by omega
              have hx := getD_isW hok T
              have hnext := outT_next ⟨p1, p2, p3, p4, p5, p6, p7, p8⟩ T hlt
              obtain ⟨x1, HX1⟩ : ∃ x1, Aside0 ((H8.list ⟨p1, p2, p3, p4, p5, p6, p7, p8⟩).getD T 0 = x1) := ⟨_, ⟨rfl⟩⟩
              rw [HX1.out] at hx hnext
              have hix : ∀ W : World, (Instr.index 89 (.agg #[.int .u32 p1, .int .u32 p2, .int .u32 p3, .int .u32 p4, .int .u32 p5, .int .u32 p6, .int .u32 p7, .int .u32 p8]) (.int .i64 (T : Int))).run Tryd.prog W = .ok (.int .u32 x1) W := fun W => by rw [← HX1.out]; exact index8 ⟨p1, p2, p3, p4, p5, p6, p7, p8⟩ T hlt W
              have hsl := slice_arr G T hlt
              have hw4 : IntKind.i64.wrap (4 * (T : Int)) = 4 * (T : Int) := IntWalk.i64_in _ (by omega)
              have HNEXT := Aside0.mk hnext
              have hlen : Aside0 ((nums .u8 (outT ⟨p1, p2, p3, p4, p5, p6, p7, p8⟩ T)).length = 32) := ⟨by rw [nums_length]; exact outT_length _ _ (by omega)⟩
              clear hnext
              go_wp2_with fail
              go_region_held3 (fun _ => True) (exact trivial)
                (first
                 | (go_at_call 71; (with_reducible refine (Store_c hx.1 hx.2 false).mono ?_); rintro x w3 ⟨v3, rfl, ho3, hb3⟩; obtain ⟨A3, c3, rfl, hx3⟩ := rd_of_own ho3)
                 | (have hx4 := hx3; have e1 : (storeW x1 false).length ≤ 32 - 4 * T := (by rw [storeW_length]; omega); have e2 : 4 * T + (storeW x1 false).length ≤ (nums .u8 (outT ⟨p1, p2, p3, p4, p5, p6, p7, p8⟩ T)).length := (by rw [hlen.out, storeW_length]; omega); have e3 : Blk w3 G 27 (nums .u8 (outT ⟨p1, p2, p3, p4, p5, p6, p7, p8⟩ T)) := Blk.below (w := wr.drew) hGT.out hb3; refine step_copy_blk rfl (.tmp 54) (.tmp 56) 22 22 rfl 5 Tryd.underlying22 sizeU8 G (4 * T) (32 - 4 * T) (32 - 4 * T) A3 (storeW x1 false).length c3 rfl rfl (nums .u8 (outT ⟨p1, p2, p3, p4, p5, p6, p7, p8⟩ T)) 27 e3 (storeW x1 false) hx4 e1 e2 ?_; clear e1 e2 e3 hx4; intro w4 hG4 hg4))
              have hB3 : Below W0.heap.size W0 w3 := hBT.drew.trans (hb3.mono hBT.drew.size)
              have hB4 : Below W0.heap.size W0 w4 := hB3.grown hg4 hB3.size (fun k hk => by cases hk; exact hG0)
              rw [storeW_length, show storeW x1 false = told 4 x1 from rfl, HNEXT.out] at hG4
              have HG4 := Aside0.mk hG4
              clear hG4 hx3 ho3
              go_wp2_with fail
              go_roundw
              case rel => exact ⟨T + 1, by omega, by go_num, HG4, hB4⟩
              case measure => simp [intOf]; omega
            · have hge : ¬ (T : Int) < 8 := by omega
              have h8 : T = 8 := by omega
              rw [h8, outT_full, ← HSH3.out] at hGT
              have hOT := Blk.below hO.out hBT
              have hl32 := shaS_length b
              obtain ⟨S, HS⟩ : ∃ S, Aside0 (shaS b = S) := ⟨_, ⟨rfl⟩⟩
              rw [HS.out] at hGT hl32
              have HL32 := Aside0.mk hl32
              clear h8 hl32
              go_wp2_with (first
                | (refine load_arr rfl 27 (.tmp 5) rfl G rfl 27 .u8 S 32 5 hGT.out Tryd.underlying27 size27 HL32.out ?_)
                | (refine store_arr rfl 27 (.tmp 2) (.tmp 59) rfl w.heap.size .u8 S rfl rfl 27 32 _ hOT size27 HL32.out (by rw [nums_length]; rfl) ?_; intro w12 hO12 hg12; have HO12 := Aside0.mk hO12; clear hO12))
              refine bodyPost_ret (v := .agg (nums .u8 S).toArray) ?_ rfl ⟨?_, (hB0.trans (hBT.mono hB0.size)).grown hg12 (hB0.trans (hBT.mono hB0.size)).size (fun k hk => by cases hk; exact Nat.le_refl _)⟩
              · refine results_arr (p := 2) (ty := 27) (h := ?_) (g := w.heap.size) (t := 27) (n := 32) (e := 5) (k := .u8) (l := S) (hp := ?_) (hg := HO12.out) (hu := Tryd.underlying27) (hi := size27) (hl := HL32.out) ..
                · rfl
                · rfl
              · rw [HS.out]
set_option maxHeartbeats 8000000 in
set_option maxRecDepth 100000 in
theorem Sum_nil {w : World} (ht : Tb w) :
    Calls Tryd.prog 31 #[.pointer none] w fun e w' => e = .returned (.agg (nums .u8 (shaS [])).toArray) ∧ Below w.heap.size w w' := by
  go_enter Tryd.func31, Tryd.ntmps31
  go_wp2_with fail
  generalize hW : w.alloc _ = W9
  have hB9 : Below w.heap.size w W9 := by rw [← hW]; exact (Below.refl _ w).alloc (Nat.le_refl _) _
  have hO9 : Blk W9 w.heap.size 27 (nums .u8 (List.replicate 32 0)) := by rw [← hW]; exact heap_alloc_new _ _
  clear hW
  refine New_c.mono ?_
  rintro x W0 ⟨g, rfl, hS0, hb0⟩
  have hO : Aside0 (Blk W0 w.heap.size 27 (nums .u8 (List.replicate 32 0))) := ⟨hO9.below hb0⟩
  have hB0 := below_next hB9 hb0
  have ht0 := ht.below hB0
  have hn : ([] : List Int).length ≤ 140737488351232 := by simp
  clear ht hB9 hO9 hb0
  go_upto_region 3 with (fail)
  obtain ⟨b, HBN⟩ : ∃ b, Aside0 (([] : List Int) = b) := ⟨_, ⟨rfl⟩⟩
  rw [HBN.out] at hS0 hn
  generalize Value.slice none 0 0 = v at hS0
  obtain ⟨hge, hSI, hSb, hSt⟩ := hS0
  obtain ⟨Av, cv, rfl, hrv⟩ := hSt.rd
  clear hSt hge
  have hl := restS_length b
  have hrB : IsB (restS b) := fun x hx => hSI x (List.mem_of_mem_drop hx)
  obtain ⟨r, HR⟩ : ∃ r, Aside0 (restS b = r) := ⟨_, ⟨rfl⟩⟩
  obtain ⟨s0, HS0⟩ : ∃ s0, Aside0 (goneS b = s0) := ⟨_, ⟨rfl⟩⟩
  have hs0 := goneS_ok b
  rw [HS0.out] at hs0 hSb
  rw [HR.out] at hl hrB hrv hSb
  obtain ⟨n, HN⟩ : ∃ n, Aside0 (b.length = n) := ⟨_, ⟨rfl⟩⟩
  rw [HN.out] at hl hn hSb
  have hsh : shaS b = outS (blocksS ((r.length + (endS n).length) / 64) s0 (r ++ endS n)) := by rw [shaS_of b, HR.out, HS0.out, HN.out]
  obtain ⟨m, HM0⟩ : ∃ m, Aside0 (r.length = m) := ⟨_, ⟨rfl⟩⟩
  rw [HM0.out] at hl hrv hSb hsh
  have HSH := Aside0.mk hsh
  clear hsh hSI
  have hm64 : m < 64 := by omega
  obtain ⟨a1, a2, a3, a4, a5, a6, a7, a8⟩ := s0
  have HL := Aside0.mk hl
  have HSB := Aside0.mk hSb
  have k8 : (W0.alloc (.cells #[] 5)).cell? ⟨g, 8, none⟩ = some (.slice Av m cv) := Blk.cell (hSb.alloc _) 8
  clear hl hSb
  go_wp2_with (first
    | (at_builtin; refine append_ow (w0 := W0) W0.heap.size rfl (.tmp 11) (.tmp 15) rfl (.slice (some ⟨W0.heap.size, 0, none⟩) 0 0) [] r Av m cv rfl rfl (ow_empty W0 _ (Nat.le_refl _)) (hrv.alloc _) ((Below.refl _ _).alloc (Nat.le_refl _) _) (by simp) (by simp; omega) ?_; intro v1 w1 ho1 hb1 hx1 hy1; clear hx1 hy1; rw [List.nil_append] at ho1; obtain ⟨A1, c1, rfl, hr1⟩ := rd_of_own ho1; rw [HM0.out] at ho1 hr1 ⊢)
    | (at_builtin; refine append_ow (w0 := W0) W0.heap.size rfl (.tmp 16) (.tmp 17) rfl (.slice A1 m c1) r [128] (some ⟨w1.heap.size, 0, none⟩) 1 1 rfl rfl (Kd.R_alloc ho1 _) (rd_one w1 128) (hb1.alloc hb1.size _) (Nat.le_trans hb1.size (by simp)) (by rw [HM0.out]; omega) ?_; intro v2 w2 ho2 hb2 hx2 hy2; clear hx2 hy2; obtain ⟨A2, c2, rfl, hr2⟩ := rd_of_own ho2; have e2 : (r ++ [128]).length = m + 1 := (by simp [HM0.out]); rw [e2] at ho2; rw [e2] at hr2; rw [e2]; clear e2))
  have H2 : Aside0 (Ow w2 W0.heap.size (.slice A2 (m + 1) c2) (r ++ 128 :: List.replicate 0 0)) := ⟨ho2⟩
  clear ho1 ho2 hr1 hr2 hb1 k8
  go_loopw [3] (fun v wq => ∃ (k : Nat) (vv : Value), k ≤ zerosS n ∧ vv = v ∧ Aside0 (Ow wq W0.heap.size vv (r ++ 128 :: List.replicate k 0)) ∧ Below W0.heap.size W0 wq) (fun v _ => 200 - (match v with | .slice _ q _ => q | _ => 0))
  case atStart => exact ⟨0, _, by omega, rfl, H2, hb2⟩
  case round =>
    clear H2 hb2
    obtain ⟨k, vv, hk, rfl, hO1, hB⟩ := hrel
    obtain ⟨A3, c3, rfl, hr3⟩ := rd_of_own hO1.out
    have hM : (r ++ 128 :: List.replicate k 0).length = m + 1 + k := by simp [HM0.out]; omega
    by_cases hlt : k < zerosS n
    · have h56 : ((m + 1 + k : Nat) : Int) % 64 ≠ 56 := by have h9 := HL.out; unfold zerosS at hlt; omega
      rw [hM] at hr3 ⊢
      have HO : Aside0 (Ow wr W0.heap.size (.slice A3 (m + 1 + k) c3) (r ++ 128 :: List.replicate k 0)) := ⟨by have h := hO1.out; rw [hM] at h; exact h⟩
      have HM := Aside0.mk hM
      clear hM hO1
      have hk64 : k < 64 := by unfold zerosS at hlt; omega
      go_wp2_with (first
        | (at_builtin; refine append_ow (w0 := W0) W0.heap.size rfl (.tmp 23) (.tmp 24) rfl (.slice A3 (m + 1 + k) c3) (r ++ 128 :: List.replicate k 0) [0] (some ⟨wr.heap.size, 0, none⟩) 1 1 rfl rfl (Kd.R_alloc HO.out _) (rd_one wr 0) (hB.alloc hB.size _) (Nat.le_trans hB.size (by simp)) (by rw [HM.out]; omega) ?_; intro v4 w4 ho4 hb4 hx4 hy4; clear hx4 hy4; rw [List.append_assoc, List.cons_append, ← List.replicate_succ'] at ho4; obtain ⟨A4, c4, rfl, hr4⟩ := rd_of_own ho4; have e4 : (r ++ 128 :: List.replicate (k + 1) 0).length = m + 1 + (k + 1) := (by simp [HM0.out]; omega); rw [e4] at ho4; rw [e4] at hr4; rw [e4]; clear e4))
      go_roundw
      case rel => exact ⟨k + 1, _, by omega, rfl, ⟨ho4⟩, hb4⟩
      case measure =>
        show 200 - (m + 1 + (k + 1)) < 200 - (m + 1 + k)
        clear h56 hlt
        omega
    · have hkz : k = zerosS n := by omega
      have h56 : ((m + 1 + k : Nat) : Int) % 64 = 56 := by have h9 := HL.out; rw [hkz]; unfold zerosS; omega
      rw [hM] at hr3 ⊢
      have HO1 : Aside0 (Ow wr W0.heap.size (.slice A3 (m + 1 + k) c3) (r ++ 128 :: List.replicate (zerosS n) 0)) := ⟨by have h := hO1.out; rw [hM] at h; rw [← hkz]; exact h⟩
      have hk64 : k < 64 := by rw [hkz]; unfold zerosS; omega
      have HM := Aside0.mk hM
      have HKZ := Aside0.mk hkz
      clear hM hO1 hkz hlt hk
      have k9 : wr.cell? ⟨g, 9, none⟩ = some (.int .u64 n) := Blk.cell (HSB.out.below hB) 9
      go_wp2_with fail
      refine (Tell_c (a := (n : Int) * 8) (by omega) (by omega)).mono ?_
      rintro x w4 ⟨v4, rfl, ho4, hb4⟩
      obtain ⟨A4, c4, rfl, hr4⟩ := rd_of_own ho4
      have l8 := told_length 8 ((n : Int) * 8)
      rw [l8] at hr4 ⊢
      have hO4 : Ow w4 W0.heap.size (.slice A3 (m + 1 + k) c3) (r ++ 128 :: List.replicate (zerosS n) 0) := Kd.R_below HO1.out hb4
      have hB4 := below_next hB hb4
      obtain ⟨E, HE⟩ : ∃ E, Aside0 (r ++ endS n = E) := ⟨_, ⟨rfl⟩⟩
      have hEe : (r ++ 128 :: List.replicate (zerosS n) 0) ++ told 8 ((n : Int) * 8) = E := by rw [← HE.out]; unfold endS; simp
      have hEl : E.length = m + (endS n).length := by rw [← HE.out, List.length_append, HM0.out]
      have hEm : E.length % 64 = 0 := by rw [hEl, endS_length]; have h9 := HL.out; unfold zerosS; omega
      have hEs : E.length ≤ 200 := by rw [hEl, endS_length]; unfold zerosS; omega
      have hEB : IsB E := by
        rw [← HE.out]; intro x hx
        rcases List.mem_append.1 hx with h | h
        · exact hrB x h
        · exact endS_isB n x h
      have HEL := Aside0.mk hEl
      have HEE := Aside0.mk hEe
      clear l8 k9 hEl hEe
      go_wp2_with (first
        | (at_builtin; refine append_ow (w0 := W0) W0.heap.size rfl (.tmp 26) (.tmp 32) rfl (.slice A3 (m + 1 + k) c3) (r ++ 128 :: List.replicate (zerosS n) 0) (told 8 ((n : Int) * 8)) A4 8 c4 rfl rfl hO4 hr4 hB4 hB4.size (by rw [← HKZ.out, HM.out]; omega) ?_; intro v5 w5 ho5 hb5 hx5 hy5; clear hx5 hy5; rw [HEE.out] at ho5; obtain ⟨A5, c5, rfl, hr5⟩ := rd_of_own ho5; have hSB5 := HSB.out.below hb5; have k0 : w5.cell? ⟨g, 0, none⟩ = some (.int .u32 a1) := Blk.cell hSB5 0; have k1 : w5.cell? ⟨g, 1, none⟩ = some (.int .u32 a2) := Blk.cell hSB5 1; have k2 : w5.cell? ⟨g, 2, none⟩ = some (.int .u32 a3) := Blk.cell hSB5 2; have k3 : w5.cell? ⟨g, 3, none⟩ = some (.int .u32 a4) := Blk.cell hSB5 3; have k4 : w5.cell? ⟨g, 4, none⟩ = some (.int .u32 a5) := Blk.cell hSB5 4; have k5 : w5.cell? ⟨g, 5, none⟩ = some (.int .u32 a6) := Blk.cell hSB5 5; have k6 : w5.cell? ⟨g, 6, none⟩ = some (.int .u32 a7) := Blk.cell hSB5 6; have k7 : w5.cell? ⟨g, 7, none⟩ = some (.int .u32 a8) := Blk.cell hSB5 7; clear hSB5))
      have hk5 : True := trivial
      generalize hW6 : w5.alloc _ = W6
      obtain ⟨s0, HSS⟩ : ∃ s0, Aside0 ((⟨a1, a2, a3, a4, a5, a6, a7, a8⟩ : H8) = s0) := ⟨_, ⟨rfl⟩⟩
      have hH : Aside0 (Blk W6 w5.heap.size 89 (nums .u32 (blocksS 0 s0 E).list)) := ⟨by rw [← hW6, ← HSS.out]; exact heap_alloc_new _ _⟩
      have hR6 : Aside0 (Rd W6 A5 E.length c5 (E.drop (64 * 0))) := ⟨by rw [← hW6]; exact hr5.alloc _⟩
      have hB6 : Below W0.heap.size W0 W6 := by rw [← hW6]; exact hb5.alloc hb5.size _
      have hHge : W0.heap.size ≤ w5.heap.size := hb5.size
      have hsh := HSH.out
      rw [HSS.out] at hsh hs0
      rw [HE.out, ← HEL.out] at hsh
      have HSH2 := Aside0.mk hsh
      have HSB2 := HSB
      clear hW6 hsh HSH hr5 ho5 hb5 k0 k1 k2 k3 k4 k5 k6 k7 hk5 hO4 hr4 hb4 hB4 hB HO1
      generalize w5.heap.size = H at *
      go_loopw [3] (fun v wq => ∃ (j q : Nat) (A : Option Addr) (c : Nat), 64 * j + q = E.length ∧ v = .slice A q c ∧ Aside0 (Blk wq H 89 (nums .u32 (blocksS j s0 E).list)) ∧ Aside0 (Rd wq A q c (E.drop (64 * j))) ∧ Below W0.heap.size W0 wq) (fun v _ => match v with | .slice _ q _ => q | _ => 0)
      case atStart => exact ⟨0, E.length, A5, c5, by omega, rfl, hH, hR6, hB6⟩
      case round =>
        clear hH hR6 hB6
        obtain ⟨j, q, A, c, hjq, rfl, hHj, hRj, hBj⟩ := hrel
        by_cases hlt : 64 ≤ q
        · have hlt' : (0 : Int) < (q : Int) := by omega
          have hok := blocksS_ok hs0 j E
          obtain ⟨R, HRE⟩ : ∃ R, Aside0 (blocksS j s0 E = R) := ⟨_, ⟨rfl⟩⟩
          rw [HRE.out] at hHj hok
          obtain ⟨p1, p2, p3, p4, p5, p6, p7, p8⟩ := R
          have k0 : wr.cell? ⟨H, 0, none⟩ = some (.int .u32 p1) := Blk.cell hHj.out 0
          have k1 : wr.cell? ⟨H, 1, none⟩ = some (.int .u32 p2) := Blk.cell hHj.out 1
          have k2 : wr.cell? ⟨H, 2, none⟩ = some (.int .u32 p3) := Blk.cell hHj.out 2
          have k3 : wr.cell? ⟨H, 3, none⟩ = some (.int .u32 p4) := Blk.cell hHj.out 3
          have k4 : wr.cell? ⟨H, 4, none⟩ = some (.int .u32 p5) := Blk.cell hHj.out 4
          have k5 : wr.cell? ⟨H, 5, none⟩ = some (.int .u32 p6) := Blk.cell hHj.out 5
          have k6 : wr.cell? ⟨H, 6, none⟩ = some (.int .u32 p7) := Blk.cell hHj.out 6
          have k7 : wr.cell? ⟨H, 7, none⟩ = some (.int .u32 p8) := Blk.cell hHj.out 7
          obtain ⟨hcut, hrd64⟩ := rd_slice_to hRj.out 64 (y := 64) (by omega) hlt
          have hI : IsB ((E.drop (64 * j)).take 64) := fun x hx => hEB x (List.mem_of_mem_drop (List.mem_of_mem_take hx))
          have HT1 : Tb wr.drew := Tb.below ht0 ((hBj.drew).mono (Nat.le_refl _))
          have hnext := blocksS_next s0 E j
          rw [HRE.out] at hnext
          have HNEXT := Aside0.mk hnext
          clear hnext
          go_wp2_with fail
          go_region_with (first
            | (go_at_call 69; (with_reducible refine (block8 hok hrd64.drew hI HT1).mono ?_); rintro x w7 ⟨b1, b2, b3, b4, b5, b6, b7, b8, HB8, rfl, hb7⟩; have hH7 := Blk.below (w := wr.drew) hHj.out hb7; have e0 : w7.cell? ⟨H, 0, none⟩ = some (.int .u32 p1) := Blk.cell hH7 0; have g0 := Blk.frozen hH7 0; have e1 : w7.cell? ⟨H, 1, none⟩ = some (.int .u32 p2) := Blk.cell hH7 1; have g1 := Blk.frozen hH7 1; have e2 : w7.cell? ⟨H, 2, none⟩ = some (.int .u32 p3) := Blk.cell hH7 2; have g2 := Blk.frozen hH7 2; have e3 : w7.cell? ⟨H, 3, none⟩ = some (.int .u32 p4) := Blk.cell hH7 3; have g3 := Blk.frozen hH7 3; have e4 : w7.cell? ⟨H, 4, none⟩ = some (.int .u32 p5) := Blk.cell hH7 4; have g4 := Blk.frozen hH7 4; have e5 : w7.cell? ⟨H, 5, none⟩ = some (.int .u32 p6) := Blk.cell hH7 5; have g5 := Blk.frozen hH7 5; have e6 : w7.cell? ⟨H, 6, none⟩ = some (.int .u32 p7) := Blk.cell hH7 6; have g6 := Blk.frozen hH7 6; have e7 : w7.cell? ⟨H, 7, none⟩ = some (.int .u32 p8) := Blk.cell hH7 7; have g7 := Blk.frozen hH7 7; have HH7 := Aside0.mk hH7; clear hH7))
          have hW := blk_put8 (rest := []) (by rw [List.append_nil]; exact HH7.out) b1 b2 b3 b4 b5 b6 b7 b8
          rw [List.append_nil] at hW
          have hR7 := hRj.out.drew.below hb7
          have hR8 := rd_keep hR7 HH7.out (h8_no8 _) (((((((((KeepBut.refl w7 H none).set_ 0 (.int .u32 b1)).set_ 1 (.int .u32 b2)).set_ 2 (.int .u32 b3)).set_ 3 (.int .u32 b4)).set_ 4 (.int .u32 b5)).set_ 5 (.int .u32 b6)).set_ 6 (.int .u32 b7)).set_ 7 (.int .u32 b8))
          have hB7 : Below W0.heap.size W0 w7 := hBj.drew.trans (hb7.mono hBj.drew.size)
          have hB8 := ((((((((hB7.setCell (p := ⟨H, 0, none⟩) hHge (.int .u32 b1)).setCell (p := ⟨H, 1, none⟩) hHge (.int .u32 b2)).setCell (p := ⟨H, 2, none⟩) hHge (.int .u32 b3)).setCell (p := ⟨H, 3, none⟩) hHge (.int .u32 b4)).setCell (p := ⟨H, 4, none⟩) hHge (.int .u32 b5)).setCell (p := ⟨H, 5, none⟩) hHge (.int .u32 b6)).setCell (p := ⟨H, 6, none⟩) hHge (.int .u32 b7)).setCell (p := ⟨H, 7, none⟩) hHge (.int .u32 b8))
          clear e0 e1 e2 e3 e4 e5 e6 e7 g0 g1 g2 g3 g4 g5 g6 g7 k0 k1 k2 k3 k4 k5 k6 k7
          obtain ⟨w8, hw8⟩ : ∃ w8, w8 = ((((((((w7.setCell ⟨H, 0, none⟩ (.int .u32 b1)).setCell ⟨H, 1, none⟩ (.int .u32 b2)).setCell ⟨H, 2, none⟩ (.int .u32 b3)).setCell ⟨H, 3, none⟩ (.int .u32 b4)).setCell ⟨H, 4, none⟩ (.int .u32 b5)).setCell ⟨H, 5, none⟩ (.int .u32 b6)).setCell ⟨H, 6, none⟩ (.int .u32 b7)).setCell ⟨H, 7, none⟩ (.int .u32 b8)) := ⟨_, rfl⟩
          rw [← hw8] at hW hR8 hB8 ⊢
          clear hw8
          rw [← HB8.out, HNEXT.out] at hW
          obtain ⟨A', c', hcut2, hR9⟩ := rd_slice_from hR8 64 (x := 64) (by omega) hlt
          rw [drop64] at hR9
          have HW := Aside0.mk hW
          have HR9 := Aside0.mk hR9
          clear hW hR9 hR7 hR8
          go_wp2_with fail
          go_roundw
          case rel => exact ⟨j + 1, q - 64, A', c', by omega, rfl, HW, HR9, hB8⟩
          case measure => show q - 64 < q; omega
        · have hq0 : q = 0 := by omega
          subst hq0
          have hj : j = E.length / 64 := by omega
          have hok := blocksS_ok hs0 j E
          obtain ⟨R, HRE⟩ : ∃ R, Aside0 (blocksS j s0 E = R) := ⟨_, ⟨rfl⟩⟩
          have hsh : shaS b = outS R := by rw [HSH2.out, ← HRE.out, hj]
          rw [HRE.out] at hHj hok
          have HSH3 := Aside0.mk hsh
          obtain ⟨p1, p2, p3, p4, p5, p6, p7, p8⟩ := R
          clear hsh hj
          go_upto_region 12 with (fail)
          generalize hW9 : wr.alloc _ = W9
          have hG9 : Aside0 (Blk W9 wr.heap.size 27 (nums .u8 (outT ⟨p1, p2, p3, p4, p5, p6, p7, p8⟩ 0))) := ⟨by rw [← hW9, outT_zero]; exact heap_alloc_new _ _⟩
          have hH9 : Blk W9 H 89 (nums .u32 (H8.list ⟨p1, p2, p3, p4, p5, p6, p7, p8⟩)) := by rw [← hW9]; exact Blk.alloc hHj.out _
          have hB9 : Below W0.heap.size W0 W9 := by rw [← hW9]; exact hBj.alloc hBj.size _
          have hG0 : W0.heap.size ≤ wr.heap.size := hBj.size
          have hOlt := Blk.lt hO.out
          clear hW9
          have k0 : W9.cell? ⟨H, 0, none⟩ = some (.int .u32 p1) := Blk.cell hH9 0
          have k1 : W9.cell? ⟨H, 1, none⟩ = some (.int .u32 p2) := Blk.cell hH9 1
          have k2 : W9.cell? ⟨H, 2, none⟩ = some (.int .u32 p3) := Blk.cell hH9 2
          have k3 : W9.cell? ⟨H, 3, none⟩ = some (.int .u32 p4) := Blk.cell hH9 3
          have k4 : W9.cell? ⟨H, 4, none⟩ = some (.int .u32 p5) := Blk.cell hH9 4
          have k5 : W9.cell? ⟨H, 5, none⟩ = some (.int .u32 p6) := Blk.cell hH9 5
          have k6 : W9.cell? ⟨H, 6, none⟩ = some (.int .u32 p7) := Blk.cell hH9 6
          have k7 : W9.cell? ⟨H, 7, none⟩ = some (.int .u32 p8) := Blk.cell hH9 7
          go_wp2_with fail
          clear k0 k1 k2 k3 k4 k5 k6 k7 hH9
          generalize wr.heap.size = G at *
          go_loopw [48] (fun i wq => ∃ T : Nat, T ≤ 8 ∧ i = .int .i64 T ∧ Aside0 (Blk wq G 27 (nums .u8 (outT ⟨p1, p2, p3, p4, p5, p6, p7, p8⟩ T))) ∧ Below W0.heap.size W0 wq) (fun i _ => 8 - (intOf i).toNat)
          case atStart => exact ⟨0, by omega, rfl, hG9, hB9⟩
          case round =>
            clear hG9 hB9 hHj hRj hBj
            obtain ⟨T, hT8, rfl, hGT, hBT⟩ := hrel
            by_cases hlt : T < 8
            · have hlt' : (T : Int) < 8 := by omega
              have hx := getD_isW hok T
              have hnext := outT_next ⟨p1, p2, p3, p4, p5, p6, p7, p8⟩ T hlt
              obtain ⟨x1, HX1⟩ : ∃ x1, Aside0 ((H8.list ⟨p1, p2, p3, p4, p5, p6, p7, p8⟩).getD T 0 = x1) := ⟨_, ⟨rfl⟩⟩
              rw [HX1.out] at hx hnext
              have hix : ∀ W : World, (Instr.index 89 (.agg #[.int .u32 p1, .int .u32 p2, .int .u32 p3, .int .u32 p4, .int .u32 p5, .int .u32 p6, .int .u32 p7, .int .u32 p8]) (.int .i64 (T : Int))).run Tryd.prog W = .ok (.int .u32 x1) W := fun W => by rw [← HX1.out]; exact index8 ⟨p1, p2, p3, p4, p5, p6, p7, p8⟩ T hlt W
              have hsl := slice_arr G T hlt
              have hw4 : IntKind.i64.wrap (4 * (T : Int)) = 4 * (T : Int) := IntWalk.i64_in _ (by omega)
              have HNEXT := Aside0.mk hnext
              have hlen : Aside0 ((nums .u8 (outT ⟨p1, p2, p3, p4, p5, p6, p7, p8⟩ T)).length = 32) := ⟨by rw [nums_length]; exact outT_length _ _ (by omega)⟩
              clear hnext
              go_wp2_with fail
              go_region_held3 (fun _ => True) (exact trivial)
                (first
                 | (go_at_call 71; (with_reducible refine (Store_c hx.1 hx.2 false).mono ?_); rintro x w3 ⟨v3, rfl, ho3, hb3⟩; obtain ⟨A3, c3, rfl, hx3⟩ := rd_of_own ho3)
                 | (have hx4 := hx3; have e1 : (storeW x1 false).length ≤ 32 - 4 * T := (by rw [storeW_length]; omega); have e2 : 4 * T + (storeW x1 false).length ≤ (nums .u8 (outT ⟨p1, p2, p3, p4, p5, p6, p7, p8⟩ T)).length := (by rw [hlen.out, storeW_length]; omega); have e3 : Blk w3 G 27 (nums .u8 (outT ⟨p1, p2, p3, p4, p5, p6, p7, p8⟩ T)) := Blk.below (w := wr.drew) hGT.out hb3; refine step_copy_blk rfl (.tmp 54) (.tmp 56) 22 22 rfl 5 Tryd.underlying22 sizeU8 G (4 * T) (32 - 4 * T) (32 - 4 * T) A3 (storeW x1 false).length c3 rfl rfl (nums .u8 (outT ⟨p1, p2, p3, p4, p5, p6, p7, p8⟩ T)) 27 e3 (storeW x1 false) hx4 e1 e2 ?_; clear e1 e2 e3 hx4; intro w4 hG4 hg4))
              have hB3 : Below W0.heap.size W0 w3 := hBT.drew.trans (hb3.mono hBT.drew.size)
              have hB4 : Below W0.heap.size W0 w4 := hB3.grown hg4 hB3.size (fun k hk => by cases hk; exact hG0)
              rw [storeW_length, show storeW x1 false = told 4 x1 from rfl, HNEXT.out] at hG4
              have HG4 := Aside0.mk hG4
              clear hG4 hx3 ho3
              go_wp2_with fail
              go_roundw
              case rel => exact ⟨T + 1, by omega, by go_num, HG4, hB4⟩
              case measure => simp [intOf]; omega
            · have hge : ¬ (T : Int) < 8 := by omega
              have h8 : T = 8 := by omega
              rw [h8, outT_full, ← HSH3.out] at hGT
              have hOT := Blk.below hO.out hBT
              have hl32 := shaS_length b
              obtain ⟨S, HS⟩ : ∃ S, Aside0 (shaS b = S) := ⟨_, ⟨rfl⟩⟩
              rw [HS.out] at hGT hl32
              have HL32 := Aside0.mk hl32
              clear h8 hl32
              go_wp2_with (first
                | (refine load_arr rfl 27 (.tmp 5) rfl G rfl 27 .u8 S 32 5 hGT.out Tryd.underlying27 size27 HL32.out ?_)
                | (refine store_arr rfl 27 (.tmp 2) (.tmp 59) rfl w.heap.size .u8 S rfl rfl 27 32 _ hOT size27 HL32.out (by rw [nums_length]; rfl) ?_; intro w12 hO12 hg12; have HO12 := Aside0.mk hO12; clear hO12))
              refine bodyPost_ret (v := .agg (nums .u8 S).toArray) ?_ rfl ⟨?_, (hB0.trans (hBT.mono hB0.size)).grown hg12 (hB0.trans (hBT.mono hB0.size)).size (fun k hk => by cases hk; exact Nat.le_refl _)⟩
              · refine results_arr (p := 2) (ty := 27) (h := ?_) (g := w.heap.size) (t := 27) (n := 32) (e := 5) (k := .u8) (l := S) (hp := ?_) (hg := HO12.out) (hu := Tryd.underlying27) (hi := size27) (hl := HL32.out) ..
                · rfl
                · rfl
              · rw [HBN.out, HS.out]
end Go.Proofs.YtmmbonlidcbkcaaDoor.DgSum
