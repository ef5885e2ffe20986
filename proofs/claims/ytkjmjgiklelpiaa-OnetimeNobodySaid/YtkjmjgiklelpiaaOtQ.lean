/- onetime: a tag of no bytes. -/
import Derived.Test.YtkjmjgiklelpiaaApp
import Derived.Test.YtkjmjgiklelpiaaQuart
import Derived.Test.YtkjmjgiklelpiaaPlainCipherBlocks
import Derived.Deep.RegionHeld3
import Derived.Deep.Cut
import Derived.Deep.CutRange
import Derived.Test.YtkjmjgiklelpiaaOtP
namespace Go.Proofs.Ytkjmjgiklelpiaa.OtQ
open Go.RowKit Go.Proofs.YtkjmjgiklelpiaaW.PrintWords Go.Proofs.Ytkjmjgiklelpiaa.Num Go.Proofs.Ytkjmjgiklelpiaa.WordC Go.Proofs.Ytkjmjgiklelpiaa.Arr Go.Proofs.Ytkjmjgiklelpiaa.App Go.Proofs.Ytkjmjgiklelpiaa.CiC Go.Proofs.Ytkjmjgiklelpiaa.CiD Go.Proofs.Ytkjmjgiklelpiaa.OtC Go.Proofs.Ytkjmjgiklelpiaa.OtR Go.Proofs.Ytkjmjgiklelpiaa.OtL Go.Proofs.Ytkjmjgiklelpiaa.OtM Go.Proofs.Ytkjmjgiklelpiaa.OtT Go.Proofs.Ytkjmjgiklelpiaa.OtV Go.Proofs.Ytkjmjgiklelpiaa.OtK Go.Proofs.Ytkjmjgiklelpiaa.OtN Go.Proofs.Ytkjmjgiklelpiaa.OtO Go.Proofs.Ytkjmjgiklelpiaa.OtP
set_option linter.unusedVariables false
set_option linter.unusedSimpArgs false

theorem adr_set_tail {r a s : List Int} {v u : Value} (hr : r.length = 5) (ha : a.length = 5) (hs : s.length = 4) : (adr r a s v).set 14 u = adr r a s u := by
  unfold adr
  rw [List.set_append_right _ _ (by simp [nums_length, hr, ha, hs])]
  simp [nums_length, hr, ha, hs]
set_option maxHeartbeats 8000000 in
set_option maxRecDepth 100000 in
theorem Add_0 {g : Nat} {r a s : List Int} {w : World} (hg : Blk w g 83 (adr r a s (.slice none 0 0))) (hr : r.length = 5) (ha : a.length = 5) (hs : s.length = 4) :
    Calls Try.prog 30 #[.pointer (some ⟨g, 0, none⟩), .slice none 0 0] w fun e w' => e = .returned (.tuple #[]) ∧ Blk w' g 83 (adr r a s (.slice none 0 0)) ∧ Below g w w' := by
  have k14 : w.cell? ⟨g, 14, none⟩ = some (.slice none 0 0) := (Blk.cell hg 14).trans (adr_tail hr ha hs)
  have f14 := Blk.frozen hg 14
  have HN : Aside0 (Blk (w.setCell ⟨g, 14, none⟩ (.slice none 0 0)) g 83 (adr r a s (.slice none 0 0))) := ⟨by
    have h1 := Blk.set_ hg 14 (.slice none 0 0)
    rwa [adr_set_tail hr ha hs] at h1⟩
  have HB : Aside0 (Below g w (w.setCell ⟨g, 14, none⟩ (.slice none 0 0))) := ⟨(Below.refl _ _).setCell (p := ⟨g, 14, none⟩) (Nat.le_refl _) _⟩
  clear hg hr ha hs
  go_enter Try.func30, Try.ntmps30
  go_wp2_with fail
  generalize hW : World.setCell w _ _ = w1
  have HN1 : Aside0 (Blk w1 g 83 (adr r a s (.slice none 0 0))) := ⟨by rw [← hW]; exact HN.out⟩
  have HB1 : Aside0 (Below g w w1) := ⟨by rw [← hW]; exact HB.out⟩
  have k1 : w1.cell? ⟨g, 14, none⟩ = some (.slice none 0 0) := by rw [← hW]; exact World.cell?_setCell_same _ _ _ k14
  clear hW k14 f14
  go_loopw [15] (fun v wr => wr = w1) (fun _ _ => 0)
  case atStart => rfl
  case round =>
    subst hrel
    go_wp2_with fail
    go_end0
    exact ⟨rfl, HN1.out, HB1.out⟩
theorem readS_isL {b : List Int} (hl : b.length = 16) (h : IsB b) : (readS b 0).length = 5 := by simp [readS, rdT_length]
set_option maxHeartbeats 8000000 in
set_option maxRecDepth 100000 in
theorem OTag_0 {A : Option Addr} {c : Nat} {k : List Int} {w : World} (hk : Rd w A 32 c k) (bk : IsB k) :
    Calls Try.prog 27 #[.slice A 32 c, .slice none 0 0] w fun e w' => ∃ v, e = .returned (.tuple #[v, .int .i64 0]) ∧ Ow w' w.heap.size v (tagS [0, 0, 0, 0, 0] (ws (k.drop 16))) ∧ Below w.heap.size w w' := by
  have hl : k.length = 32 := hk.len
  have h4 : (ws (k.drop 16)).length = 4 := ws_length 4 _ (by rw [List.length_drop, hl])
  have hw4 : IsW (ws (k.drop 16)) := ws_isW 4 _ (by rw [List.length_drop, hl]) (fun x hx => bk x (List.mem_of_mem_drop hx))
  have h5 : (readS (cutS (k.take 16)) 0).length = 5 := by simp [readS, rdT_length]
  have H4 := Aside0.mk h4
  have HW4 := Aside0.mk hw4
  have H5 := Aside0.mk h5
  clear hl h4 hw4 h5
  go_enter Try.func27, Try.ntmps27
  go_wp2_with fail
  refine (New_c hk bk).mono ?_
  rintro x w1 ⟨g, rfl, hg0, hg, hb1⟩
  have HG := Aside0.mk hg
  clear hg
  go_wp2_with fail
  refine (Add_0 (r := readS (cutS (k.take 16)) 0) (a := [0, 0, 0, 0, 0]) (s := ws (k.drop 16)) HG.out H5.out rfl H4.out).mono ?_
  rintro x w2 ⟨rfl, hg2, hb2⟩
  have hB2 := hb1.trans (hb2.mono hg0)
  have HG2 := Aside0.mk hg2
  clear hg2
  go_wp2_with fail
  refine (Tag_0 HG2.out H5.out rfl H4.out (by intro x hx; simp at hx; omega) HW4.out).mono ?_
  rintro x w3 ⟨v3, rfl, ho3, hb3⟩
  have HO3 := Aside0.mk (Kd.R_lower ho3 hB2.size)
  have hB3 := below_next hB2 hb3
  clear ho3
  go_wp2_with fail
  go_ret2
  exact ⟨_, rfl, HO3.out, hB3⟩
end Go.Proofs.Ytkjmjgiklelpiaa.OtQ
