/- The key that the document fixes. -/
import Derived.Test.YtmmbonlidcbkcaaDoorMacA
import Derived.Deep.RegionHeld3
import Derived.Deep.MidRow
import Derived.Deep.Cut
import Derived.Test.YtmmbonlidcbkcaaDoorStC
namespace Go.Proofs.YtmmbonlidcbkcaaDoor.StAw
open Go.RowKit Go.Proofs.YtmmbonlidcbkcaaDoorW.PrintWords Go.Proofs.YtmmbonlidcbkcaaDoor.Num Go.Proofs.YtmmbonlidcbkcaaDoor.Sha Go.Proofs.YtmmbonlidcbkcaaDoor.Hmac Go.Proofs.YtmmbonlidcbkcaaDoor.WordC Go.Proofs.YtmmbonlidcbkcaaDoor.Arr Go.Proofs.YtmmbonlidcbkcaaDoor.App Go.Proofs.YtmmbonlidcbkcaaDoor.DgC Go.Proofs.YtmmbonlidcbkcaaDoor.DgBlock Go.Proofs.YtmmbonlidcbkcaaDoor.DgState Go.Proofs.YtmmbonlidcbkcaaDoor.DgAdd Go.Proofs.YtmmbonlidcbkcaaDoor.DgSum Go.Proofs.YtmmbonlidcbkcaaDoor.DgOf Go.Proofs.YtmmbonlidcbkcaaDoor.DgCopy Go.Proofs.YtmmbonlidcbkcaaDoor.DgLaw Go.Proofs.YtmmbonlidcbkcaaDoor.DgWords Go.Proofs.YtmmbonlidcbkcaaDoor.DgParts Go.Proofs.YtmmbonlidcbkcaaDoor.RefOf Go.Proofs.YtmmbonlidcbkcaaDoor.MacC Go.Proofs.YtmmbonlidcbkcaaDoor.MacTag Go.Proofs.YtmmbonlidcbkcaaDoor.MacLaw Go.Proofs.YtmmbonlidcbkcaaDoor.MacAwake Go.Proofs.YtmmbonlidcbkcaaDoor.MacHold Go.Proofs.YtmmbonlidcbkcaaDoor.MacNew Go.Proofs.YtmmbonlidcbkcaaDoor.MacRef Go.Proofs.YtmmbonlidcbkcaaDoor.MacNil Go.Proofs.YtmmbonlidcbkcaaDoor.MacMany Go.Proofs.YtmmbonlidcbkcaaDoor.StC
set_option linter.unusedVariables false
set_option linter.unusedSimpArgs false

theorem ad_add (ad : Addr) {j : Nat} (h : 0 < j) : ad.add j = ⟨ad.block, ad.off + j, none⟩ := by
  unfold Addr.add; split
  · omega
  · rfl
theorem ad_zero (ad : Addr) : ad.add 0 = ad := by
  cases ad; unfold Addr.add; split <;> simp_all
theorem fixed43 : ((stretchS [112, 97, 115, 115, 119, 111, 114, 100] [115, 97, 108, 116] 1 20).getD 0 0, (stretchS [112, 97, 115, 115, 119, 111, 114, 100] [115, 97, 108, 116] 1 20).getD 1 0, (stretchS [112, 97, 115, 115, 119, 111, 114, 100] [115, 97, 108, 116] 1 20).getD 19 0) = (18, 15, 201) := by kernel_rfl
set_option maxHeartbeats 1000000 in
set_option maxRecDepth 100000 in
theorem awake43_c {w : World} (ht : Tb w) : Calls Tryd.prog 43 #[] w fun e w' => e = .returned (.bool true) ∧ Below w.heap.size w w' := by
  have hl := stretchS_length [112, 97, 115, 115, 119, 111, 114, 100] [115, 97, 108, 116] 1 20
  have hf := fixed43
  obtain ⟨S, HS⟩ : ∃ S, Aside0 (stretchS [112, 97, 115, 115, 119, 111, 114, 100] [115, 97, 108, 116] 1 20 = S) := ⟨_, ⟨rfl⟩⟩
  rw [HS.out] at hl hf
  have HF := Aside0.mk hf
  have HL := Aside0.mk hl
  clear hl hf
  have hb1 : Below w.heap.size w (w.alloc (.cells (nums .u8 [112, 97, 115, 115, 119, 111, 114, 100]).toArray 5 (8, 9))) := (Below.refl _ _).alloc (Nat.le_refl _) _
  have hb2 : Below w.heap.size w ((w.alloc (.cells (nums .u8 [112, 97, 115, 115, 119, 111, 114, 100]).toArray 5 (8, 9))).alloc (.cells (nums .u8 [115, 97, 108, 116]).toArray 5 (4, 5))) := hb1.alloc hb1.size _
  have hr1 := (rd_const w [112, 97, 115, 115, 119, 111, 114, 100] (8, 9) (by simp)).alloc (.cells (nums .u8 [115, 97, 108, 116]).toArray 5 (4, 5))
  have hr2 : Rd ((w.alloc (.cells (nums .u8 [112, 97, 115, 115, 119, 111, 114, 100]).toArray 5 (8, 9))).alloc (.cells (nums .u8 [115, 97, 108, 116]).toArray 5 (4, 5))) (some ⟨w.heap.size + 1, 0, none⟩) 4 4 [115, 97, 108, 116] := by
    have := rd_const (w.alloc (.cells (nums .u8 [112, 97, 115, 115, 119, 111, 114, 100]).toArray 5 (8, 9))) [115, 97, 108, 116] (4, 5) (by simp)
    have e : (w.alloc (.cells (nums .u8 [112, 97, 115, 115, 119, 111, 114, 100]).toArray 5 (8, 9))).heap.size = w.heap.size + 1 := by simp
    rw [e] at this
    exact this
  have hIB : IsB [112, 97, 115, 115, 119, 111, 114, 100] := by intro x hx; simp at hx; omega
  have hIB2 : IsB [115, 97, 108, 116] := by intro x hx; simp at hx; omega
  have hcv := fun (w : World) (C : Array Value) (n c : Nat) => Lib.run_convert_bytes_const (P := Tryd.prog) w 22 5 C n c Tryd.underlying22 Tryd.underlying5
  have hcv2 : ∀ (w : World) (o : Obj) (C : Array Value) (n c : Nat), (convert 22 22 (.slice (some ⟨w.heap.size + 1, 0, none⟩) n c)).run Tryd.prog ((w.alloc o).alloc (.cells C 5)) = .ok (.slice (some ⟨w.heap.size + 1, 0, none⟩) n c) ((w.alloc o).alloc (.cells C 5 (C.size, C.size + 1))) := fun w o C n c => by
    have := hcv (w.alloc o) C n c
    rwa [World.size_alloc] at this
  have ht2 := ht.below hb2
  have HR1 := Aside0.mk hr1
  have HR2 := Aside0.mk hr2
  have HI := Aside0.mk hIB
  have HI2 := Aside0.mk hIB2
  clear hr1 hr2 hIB hIB2
  go_enter Tryd.func43, Tryd.ntmps43
  go_wp2_with fail
  refine (Key45_c HR1.out HI.out (by simp) HR2.out HI2.out (by simp) (by omega) (by omega) (by omega) (by omega) ht2).mono ?_
  rintro x w2 ⟨A2, c2, rfl, r2, hb3⟩
  have r2' : Rd w2 A2 20 c2 S := by rw [← HS.out]; exact r2
  have hb := below_next hb2 hb3
  obtain ⟨ad, rfl, e0⟩ := rd_at r2' 0 (by omega)
  obtain ⟨ad1, h1, e1⟩ := rd_at r2' 1 (by omega)
  obtain ⟨ad2, h2, e19⟩ := rd_at r2' 19 (by omega)
  injection h1 with h1
  injection h2 with h2
  subst h1 h2
  have hf := HF.out
  injection hf with f0 f1
  injection f1 with f1 f2
  rw [f0] at e0
  rw [f1] at e1
  rw [f2] at e19
  rw [ad_zero] at e0
  rw [ad_add ad (by omega)] at e1 e19
  clear f0 f1 f2 r2 r2'
  simp only [show (20 : Int).toNat = 20 from rfl]
  go_wp2_with fail

  go_ret
  exact ⟨rfl, hb⟩
end Go.Proofs.YtmmbonlidcbkcaaDoor.StAw
