/- (State).Copy, walked. -/
import Derived.Test.YtmmbonlidcbkcaaDoorDgAdd
import Derived.Deep.RegionHeld3
namespace Go.Proofs.YtmmbonlidcbkcaaDoor.DgCopy
open Go.RowKit Go.Proofs.YtmmbonlidcbkcaaDoorW.PrintWords Go.Proofs.YtmmbonlidcbkcaaDoor.Num Go.Proofs.YtmmbonlidcbkcaaDoor.Sha Go.Proofs.YtmmbonlidcbkcaaDoor.WordC Go.Proofs.YtmmbonlidcbkcaaDoor.Arr Go.Proofs.YtmmbonlidcbkcaaDoor.App Go.Proofs.YtmmbonlidcbkcaaDoor.DgC Go.Proofs.YtmmbonlidcbkcaaDoor.DgWords Go.Proofs.YtmmbonlidcbkcaaDoor.DgBlock Go.Proofs.YtmmbonlidcbkcaaDoor.DgState Go.Proofs.YtmmbonlidcbkcaaDoor.DgAdd
set_option linter.unusedVariables false
set_option linter.unusedSimpArgs false

theorem append_ow_step {ops : Array Oper} {o : Oper} {a : Act} {Q : Exit → Act → World → Prop} {Kc : Act → World → Prop} {w0 W : World} (base : Nat) (hw : Region.wanted o (yielded ops a.tmps) = true) (s x : Operand)
    (ho : o.op = .call { callee := .builtin .append, args := #[s, x], argTypes := #[22, 22] })
    (v : Value) (xs ys : List Int) (A : Option Addr) (m c : Nat) (hs : a.eval s = v) (hx : a.eval x = .slice A m c)
    (HO : Ow W base v xs) (HR : Rd W A m c ys) (HB : Below base w0 W) (hbase : base ≤ W.heap.size) (hl : xs.length + m ≤ 140737488355328)
    (h : ∀ v1 w1, Ow w1 base v1 (xs ++ ys) → Below base w0 w1 → W.grownBy w1 v.ownBlock → (v1.ownBlock = v.ownBlock ∨ ∃ b, v1.ownBlock = some b ∧ W.heap.size ≤ b) → Kc (a.put o.dst v1) w1) :
    if Region.wanted o (yielded ops a.tmps) = true then Oper.wp Tryd.prog o a W Kc Q else Kc (a.put o.dst undef) W :=
  Kd.R_append_rows_step (Kd.int .u8) (w0 := w0) base hw s x 22 5 (.int .u8 0) 1 ho Tryd.underlying22 infoB rfl (by decide) (by omega) v xs ys A m c (fun _ => True) (fun _ => False) hs hx HO HR.cells (fun _ _ h => h) (fun _ h => h.elim) (fun _ _ => trivial) HB hbase (by omega) h
theorem Copy_none {w : World} : Calls Tryd.prog 32 #[.pointer none] w fun e w' => e = .returned (.pointer none) ∧ w' = w := by
  go_enter Tryd.func32, Tryd.ntmps32
  go_wp2
  go_ret
  exact ⟨rfl, rfl⟩
set_option maxHeartbeats 8000000 in
set_option maxRecDepth 100000 in
theorem Copy_c {base g : Nat} {v : Value} {b : List Int} {w : World} (hS : St w base g v b) :
    Calls Tryd.prog 32 #[.pointer (some ⟨g, 0, none⟩)] w fun e w' => ∃ g' v', e = .returned (.pointer (some ⟨g', 0, none⟩)) ∧ St w' w.heap.size g' v' b ∧ Below w.heap.size w w' := by
  obtain ⟨hge, hSI, hSb, hSt⟩ := hS
  obtain ⟨Av, cv, rfl, hrv⟩ := hSt.rd
  have hl := restS_length b
  obtain ⟨r, HR⟩ : ∃ r, Aside0 (restS b = r) := ⟨_, ⟨rfl⟩⟩
  obtain ⟨s0, HS0⟩ : ∃ s0, Aside0 (goneS b = s0) := ⟨_, ⟨rfl⟩⟩
  rw [HS0.out] at hSb
  rw [HR.out] at hl hrv hSb
  obtain ⟨m, HM0⟩ : ∃ m, Aside0 (r.length = m) := ⟨_, ⟨rfl⟩⟩
  rw [HM0.out] at hl hrv hSb
  have hm64 : m < 64 := by omega
  have hglt := Blk.lt hSb
  obtain ⟨n, HN⟩ : ∃ n, Aside0 (b.length = n) := ⟨_, ⟨rfl⟩⟩
  rw [HN.out] at hSb
  obtain ⟨a1, a2, a3, a4, a5, a6, a7, a8⟩ := s0
  have c0 : w.cell? ⟨g, 0, none⟩ = some (.int .u32 a1) := Blk.cell hSb 0
  have c1 : w.cell? ⟨g, 1, none⟩ = some (.int .u32 a2) := Blk.cell hSb 1
  have c2 : w.cell? ⟨g, 2, none⟩ = some (.int .u32 a3) := Blk.cell hSb 2
  have c3 : w.cell? ⟨g, 3, none⟩ = some (.int .u32 a4) := Blk.cell hSb 3
  have c4 : w.cell? ⟨g, 4, none⟩ = some (.int .u32 a5) := Blk.cell hSb 4
  have c5 : w.cell? ⟨g, 5, none⟩ = some (.int .u32 a6) := Blk.cell hSb 5
  have c6 : w.cell? ⟨g, 6, none⟩ = some (.int .u32 a7) := Blk.cell hSb 6
  have c7 : w.cell? ⟨g, 7, none⟩ = some (.int .u32 a8) := Blk.cell hSb 7
  have c8 : w.cell? ⟨g, 8, none⟩ = some (.slice Av m cv) := Blk.cell hSb 8
  have c9 : w.cell? ⟨g, 9, none⟩ = some (.int .u64 n) := Blk.cell hSb 9
  have HL := Aside0.mk hl
  have HSB := Aside0.mk hSb
  clear hl hSb hSt
  have hE : ∀ w', Below w.heap.size w w' → (w'.cell? ⟨g, 0, none⟩ = some (.int .u32 a1) ∧ w'.cell? ⟨g, 1, none⟩ = some (.int .u32 a2) ∧ w'.cell? ⟨g, 2, none⟩ = some (.int .u32 a3) ∧ w'.cell? ⟨g, 3, none⟩ = some (.int .u32 a4) ∧ w'.cell? ⟨g, 4, none⟩ = some (.int .u32 a5) ∧ w'.cell? ⟨g, 5, none⟩ = some (.int .u32 a6) ∧ w'.cell? ⟨g, 6, none⟩ = some (.int .u32 a7) ∧ w'.cell? ⟨g, 7, none⟩ = some (.int .u32 a8) ∧ w'.cell? ⟨g, 8, none⟩ = some (.slice Av m cv) ∧ w'.cell? ⟨g, 9, none⟩ = some (.int .u64 n)) := fun w' hb => by
    have h := HSB.out.below hb
    exact ⟨Blk.cell h 0, Blk.cell h 1, Blk.cell h 2, Blk.cell h 3, Blk.cell h 4, Blk.cell h 5, Blk.cell h 6, Blk.cell h 7, Blk.cell h 8, Blk.cell h 9⟩
  have HE := Aside0.mk hE
  clear hE
  have hD : Below w.heap.size w w.drew := (Below.refl _ w).drew
  go_enter Tryd.func32, Tryd.ntmps32
  go_wp2_with fail
  go_region_held3 (fun w' => w'.cell? ⟨g, 0, none⟩ = some (.int .u32 a1) ∧ w'.cell? ⟨g, 1, none⟩ = some (.int .u32 a2) ∧ w'.cell? ⟨g, 2, none⟩ = some (.int .u32 a3) ∧ w'.cell? ⟨g, 3, none⟩ = some (.int .u32 a4) ∧ w'.cell? ⟨g, 4, none⟩ = some (.int .u32 a5) ∧ w'.cell? ⟨g, 5, none⟩ = some (.int .u32 a6) ∧ w'.cell? ⟨g, 6, none⟩ = some (.int .u32 a7) ∧ w'.cell? ⟨g, 7, none⟩ = some (.int .u32 a8) ∧ w'.cell? ⟨g, 8, none⟩ = some (.slice Av m cv) ∧ w'.cell? ⟨g, 9, none⟩ = some (.int .u64 n))
    (first | exact HE.out _ hD | exact HE.out _ (hD.alloc (Nat.le_refl _) _) | exact HE.out _ hb1 | exact HE.out _ (hb1.alloc hb1.size _))
    (first
      | (refine append_ow_step (w0 := w) w.heap.size (by rfl) (.tmp 9) (.tmp 13) rfl (.slice (some ⟨w.heap.size, 0, none⟩) 0 0) [] r Av m cv rfl rfl (ow_empty w.drew _ (Nat.le_refl _)) (hrv.drew.alloc _) (hD.alloc (Nat.le_refl _) _) (by simp [World.drew]) (by simp; omega) ?_; intro v1 w1 ho1 hb1 hx1 hy1; clear hx1 hy1; rw [List.nil_append] at ho1; obtain ⟨A1, d1, rfl, hr1⟩ := rd_of_own ho1; rw [HM0.out] at ho1 hr1; rw [HM0.out]))
  have hQ : Qw w1 w.heap.size (.slice A1 m d1) r := Qw.of_ow ho1
  have HQ := Aside0.mk hQ
  clear hQ ho1 hr1
  go_wp2_with fail
  go_ret
  refine ⟨_, .slice A1 m d1, rfl, ⟨hb1.size, hSI, ?_, ?_⟩, hb1.alloc hb1.size _⟩
  · rw [HS0.out, HN.out]; exact heap_alloc_new _ _
  · rw [HR.out]; exact HQ.out.below (below_alloc (Below.refl _ _) _)
end Go.Proofs.YtmmbonlidcbkcaaDoor.DgCopy
