/- digest.New and (State).Add, walked. -/
import Derived.Test.YtmmbonlidcbkcaaDoorDgState
import Derived.Deep.LoopGhost
namespace Go.Proofs.YtmmbonlidcbkcaaDoor.DgAdd
open Go.RowKit Go.Proofs.YtmmbonlidcbkcaaDoorW.PrintWords Go.Proofs.YtmmbonlidcbkcaaDoor.Num Go.Proofs.YtmmbonlidcbkcaaDoor.Sha Go.Proofs.YtmmbonlidcbkcaaDoor.WordC Go.Proofs.YtmmbonlidcbkcaaDoor.Arr Go.Proofs.YtmmbonlidcbkcaaDoor.App Go.Proofs.YtmmbonlidcbkcaaDoor.DgC Go.Proofs.YtmmbonlidcbkcaaDoor.DgWords Go.Proofs.YtmmbonlidcbkcaaDoor.DgBlock Go.Proofs.YtmmbonlidcbkcaaDoor.DgState
set_option linter.unusedVariables false
set_option linter.unusedSimpArgs false

set_option maxHeartbeats 1000000 in
theorem New_c {w : World} : Calls Tryd.prog 29 #[] w fun e w' => ∃ g, e = .returned (.pointer (some ⟨g, 0, none⟩)) ∧ St w' w.heap.size g (.slice none 0 0) [] ∧ Below w.heap.size w w' := by
  go_enter Tryd.func29, Tryd.ntmps29
  go_wp2
  go_ret
  exact ⟨_, rfl, ⟨Nat.le_refl _, (fun x hx => by cases hx), heap_alloc_new _ _, Qw.nil _ _⟩, (Below.refl _ _).alloc (Nat.le_refl _) _⟩
theorem Add_none {A : Option Addr} {n c : Nat} {w : World} : Calls Tryd.prog 30 #[.pointer none, .slice A n c] w fun e w' => e = .returned (.tuple #[]) ∧ w' = w := by
  go_enter Tryd.func30, Tryd.ntmps30
  go_wp2
  exact bodyPost_ret (v := .tuple #[]) (by simp [results, Tryd.results30, go_sem]) rfl ⟨rfl, rfl⟩
theorem drop64 (X : List Int) (j : Nat) : (X.drop (64 * j)).drop 64 = X.drop (64 * (j + 1)) := by rw [List.drop_drop]; congr 1
theorem blocksS_next (s : H8) (X : List Int) (j : Nat) : blockS (blocksS j s X) ((X.drop (64 * j)).take 64) = blocksS (j + 1) s X := by rw [blocksS_add j 1]; rfl
set_option maxHeartbeats 8000000 in
set_option maxRecDepth 100000 in
theorem Add_c {base g : Nat} {v : Value} {b l : List Int} {A : Option Addr} {n c : Nat} {w : World} (hS : St w base g v b) (hr : Rd w A n c l) (hB : IsB l) (ht : Tb w) (ht0 : 0 < base) (hbase : base ≤ w.heap.size) (hl : b.length + n ≤ 140737488355328) :
    Calls Tryd.prog 30 #[.pointer (some ⟨g, 0, none⟩), .slice A n c] w fun e w' => e = .returned (.tuple #[]) ∧ ∃ v', St w' base g v' (b ++ l) ∧ Fr w w' g v.ownBlock ∧ (v'.ownBlock = v.ownBlock ∨ ∃ k, v'.ownBlock = some k ∧ w.heap.size ≤ k) := by
  obtain ⟨hge, hbB, hblk, htail⟩ := hS
  obtain ⟨Av, cv, rfl, hrv⟩ := htail.rd
  have hno := st_no8 (goneS b) (.slice Av (restS b).length cv) b.length (fun x h => by cases h)
  have hln := hr.len
  have hrl := restS_length b
  have hrB : IsB (restS b) := fun x hx => hbB x (List.mem_of_mem_drop hx)
  have hw : IntKind.u64.wrap ((b.length : Int) + (n : Int)) = ((b ++ l).length : Int) := by rw [IntWalk.u64_in _ (by omega), List.length_append]; omega
  have c9 : w.cell? ⟨g, 9, none⟩ = some (.int .u64 b.length) := Blk.cell hblk 9
  have f9 := Blk.frozen hblk 9
  have hT1 : Qw (w.setCell ⟨g, 9, none⟩ (.int .u64 ((b ++ l).length : Int))) base (.slice Av (restS b).length cv) (restS b) := htail.far hblk (by decide) 9 _
  have hB1 : Blk (w.setCell ⟨g, 9, none⟩ (.int .u64 ((b ++ l).length : Int))) g 91 (nums .u32 (goneS b).list ++ [.slice Av (restS b).length cv, .int .u64 (b ++ l).length]) := Blk.set_ hblk 9 _
  have hF1 : Fr w (w.setCell ⟨g, 9, none⟩ (.int .u64 ((b ++ l).length : Int))) g (Value.slice Av (restS b).length cv).ownBlock := (Fr.refl w g _).setCell 9 _
  have hR1 := rd_far hr hblk hno 9 (.int .u64 ((b ++ l).length : Int))
  have hs1 : base ≤ (w.setCell ⟨g, 9, none⟩ (.int .u64 ((b ++ l).length : Int))).heap.size := by simpa [World.setCell] using hbase
  have hrl' : (restS b).length + n ≤ 140737488355328 := by omega
  obtain ⟨T, HT⟩ : ∃ T : Nat, Aside0 ((b ++ l).length = T) := ⟨_, ⟨rfl⟩⟩
  rw [HT.out] at hT1 hB1 hF1 hR1 hs1 hw
  have HTB := Aside0.mk hblk
  have HLN := Aside0.mk hln
  have HRL := Aside0.mk hrl
  have c8 : (w.setCell ⟨g, 9, none⟩ (.int .u64 (T : Int))).cell? ⟨g, 8, none⟩ = some (.slice Av (restS b).length cv) := Blk.cell hB1 8
  obtain ⟨X, HX⟩ : ∃ X, Aside0 (restS b ++ l = X) := ⟨_, ⟨rfl⟩⟩
  have hXB : IsB X := by rw [← HX.out]; intro x hx; rcases List.mem_append.1 hx with h | h; exact hrB x h; exact hB x h
  have hXl : X.length = (restS b).length + n := by rw [← HX.out, List.length_append, hln]
  have hXm : X.length ≤ 140737488355328 := by omega
  have HXL := Aside0.mk hXl
  obtain ⟨row, HROW⟩ : ∃ row, Aside0 ((Value.slice Av (restS b).length cv).ownBlock = row) := ⟨_, ⟨rfl⟩⟩
  have hrow : ∀ k, row = some k → base ≤ k := by rw [← HROW.out]; exact fun k hk => (q_typed hT1 k hk).1
  have hrne : some g ≠ row := by rw [← HROW.out]; exact Qw.ne hT1 hB1 (by decide)
  rw [HROW.out] at hF1 ⊢
  have hgok := goneS_ok b
  clear hln hrl hblk htail hXl hr hrv hno
  go_enter Tryd.func30, Tryd.ntmps30
  go_wp2_with (first
    | (at_builtin; refine append_qw base rfl (.tmp 20) (.tmp 21) rfl (.slice Av (restS b).length cv) (restS b) l A n c rfl rfl hT1 hR1 hs1 hrl' ?_; intro v2 w2 hq2 hg2 hat2; rw [HROW.out] at hg2 hat2; rw [HX.out] at hq2; have hB2 := blk_grow hB1 hg2 hrne; have hF2 := hF1.grown hg2 (.inl rfl); have f8 := Blk.frozen hB2 8; have d8 : w2.cell? ⟨g, 8, none⟩ = some (.slice Av (restS b).length cv) := Blk.cell hB2 8; obtain ⟨A2, c2, rfl, hr2⟩ := hq2.rd))
  have hq3 : Aside0 (Qw (w2.setCell ⟨g, 8, none⟩ (.slice A2 X.length c2)) base (.slice A2 X.length c2) (X.drop (64 * 0))) := ⟨Qw.far hq2 hB2 (by decide) 8 _⟩
  have hB3 : Aside0 (Blk (w2.setCell ⟨g, 8, none⟩ (.slice A2 X.length c2)) g 91 (nums .u32 (blocksS 0 (goneS b) X).list ++ [.slice A2 X.length c2, .int .u64 T])) := ⟨Blk.set_ hB2 8 _⟩
  have hF3 : Fr w (w2.setCell ⟨g, 8, none⟩ (.slice A2 X.length c2)) g row := hF2.setCell 8 _
  have hat3 : Aside0 ((Value.slice A2 X.length c2).ownBlock = row ∨ ∃ k, (Value.slice A2 X.length c2).ownBlock = some k ∧ w.heap.size ≤ k) := ⟨by
    rcases hat2 with e | ⟨k, e, hk⟩
    · exact .inl e
    · exact .inr ⟨k, e, by simpa [World.setCell] using hk⟩⟩
  clear hq2 hB2 hF2 hat2 hg2 f8 d8 hr2 hR1 hT1 hB1 hF1 c8 c9 f9
  go_loopg [25] (X.length / 64) (fun k s25 wr => ∃ (j m : Nat) (Aj : Option Addr) (cj : Nat), 64 * j + m = X.length ∧ k + j = X.length / 64 ∧ Aside0 (Blk wr g 91 (nums .u32 (blocksS j (goneS b) X).list ++ [.slice Aj m cj, .int .u64 T])) ∧ Aside0 (Qw wr base (.slice Aj m cj) (X.drop (64 * j))) ∧ Fr w wr g row ∧ Aside0 ((Value.slice Aj m cj).ownBlock = row ∨ ∃ k, (Value.slice Aj m cj).ownBlock = some k ∧ w.heap.size ≤ k))
  case atStart => exact ⟨0, X.length, A2, c2, by omega, by omega, hB3, hq3, hF3, hat3⟩
  case round =>
    clear hq3 hB3 hF3 hat3
    obtain ⟨j, m, Aj, cj, hjm, hkj, hBj, hQj, hFj, hatj⟩ := hrel
    have k8 : wr.cell? ⟨g, 8, none⟩ = some (.slice Aj m cj) := Blk.cell hBj.out 8
    by_cases hlt : 64 ≤ m
    · have hlt' : (64 : Int) ≤ (m : Int) := by omega
      have hok := blocksS_ok hgok j X
      obtain ⟨R, HRE⟩ : ∃ R, Aside0 (blocksS j (goneS b) X = R) := ⟨_, ⟨rfl⟩⟩
      rw [HRE.out] at hBj hok
      obtain ⟨a1, a2, a3, a4, a5, a6, a7, a8⟩ := R
      have k0 : wr.cell? ⟨g, 0, none⟩ = some (.int .u32 a1) := Blk.cell hBj.out 0
      have k1 : wr.cell? ⟨g, 1, none⟩ = some (.int .u32 a2) := Blk.cell hBj.out 1
      have k2 : wr.cell? ⟨g, 2, none⟩ = some (.int .u32 a3) := Blk.cell hBj.out 2
      have k3 : wr.cell? ⟨g, 3, none⟩ = some (.int .u32 a4) := Blk.cell hBj.out 3
      have k4 : wr.cell? ⟨g, 4, none⟩ = some (.int .u32 a5) := Blk.cell hBj.out 4
      have k5 : wr.cell? ⟨g, 5, none⟩ = some (.int .u32 a6) := Blk.cell hBj.out 5
      have k6 : wr.cell? ⟨g, 6, none⟩ = some (.int .u32 a7) := Blk.cell hBj.out 6
      have k7 : wr.cell? ⟨g, 7, none⟩ = some (.int .u32 a8) := Blk.cell hBj.out 7
      have hrd := Qw.rd' hQj.out
      obtain ⟨hcut, hrd64⟩ := rd_slice_to hrd 64 (y := 64) (by omega) hlt
      obtain ⟨A', c', hcut2, hq', hown'⟩ := qw_cut hQj.out 64 (x := 64) (by omega) hlt
      have hI : IsB ((X.drop (64 * j)).take 64) := fun x hx => hXB x (List.mem_of_mem_drop (List.mem_of_mem_take hx))
      have HT1 : Tb wr.drew := Tb.fr ht hFj.drew (by omega) (fun k hk => by have := hrow k hk; omega)
      have hnext := blocksS_next (goneS b) X j
      rw [HRE.out] at hnext
      have HNEXT := Aside0.mk hnext
      have HQ' := Aside0.mk hq'
      have HOWN := Aside0.mk hown'
      clear hnext hq' hown' hrd
      go_wp2_with fail
      go_region_with (first
        | (go_at_call 69; (with_reducible refine (block8 hok hrd64.drew hI HT1).mono ?_); rintro x w4 ⟨b1, b2, b3, b4, b5, b6, b7, b8, HB8, rfl, hb4⟩; have hB4 := Blk.below (w := wr.drew) hBj.out hb4; have e8 : w4.cell? ⟨g, 8, none⟩ = some (.slice Aj m cj) := Blk.cell hB4 8; have e0 : w4.cell? ⟨g, 0, none⟩ = some (.int .u32 a1) := Blk.cell hB4 0; have e1 : w4.cell? ⟨g, 1, none⟩ = some (.int .u32 a2) := Blk.cell hB4 1; have e2 : w4.cell? ⟨g, 2, none⟩ = some (.int .u32 a3) := Blk.cell hB4 2; have e3 : w4.cell? ⟨g, 3, none⟩ = some (.int .u32 a4) := Blk.cell hB4 3; have e4 : w4.cell? ⟨g, 4, none⟩ = some (.int .u32 a5) := Blk.cell hB4 4; have e5 : w4.cell? ⟨g, 5, none⟩ = some (.int .u32 a6) := Blk.cell hB4 5; have e6 : w4.cell? ⟨g, 6, none⟩ = some (.int .u32 a7) := Blk.cell hB4 6; have e7 : w4.cell? ⟨g, 7, none⟩ = some (.int .u32 a8) := Blk.cell hB4 7; have g0 := Blk.frozen hB4 0; have g1 := Blk.frozen hB4 1; have g2 := Blk.frozen hB4 2; have g3 := Blk.frozen hB4 3; have g4 := Blk.frozen hB4 4; have g5 := Blk.frozen hB4 5; have g6 := Blk.frozen hB4 6; have g7 := Blk.frozen hB4 7; have g8 := Blk.frozen hB4 8; have HB4 := Aside0.mk hB4; clear hB4))
      all_goals
        have hW := blk_put8 HB4.out b1 b2 b3 b4 b5 b6 b7 b8
        have hQ4 := Qw.below (w := wr.drew) (w1 := w4) hQj.out hb4
        have hQ5 := Qw.keep hQ4 HB4.out (by decide) (((((((((KeepBut.refl w4 g none).set_ 0 (.int .u32 b1)).set_ 1 (.int .u32 b2)).set_ 2 (.int .u32 b3)).set_ 3 (.int .u32 b4)).set_ 4 (.int .u32 b5)).set_ 5 (.int .u32 b6)).set_ 6 (.int .u32 b7)).set_ 7 (.int .u32 b8))
        have hF5 := (((((((((hFj.drew.next hb4).setCell 0 (.int .u32 b1)).setCell 1 (.int .u32 b2)).setCell 2 (.int .u32 b3)).setCell 3 (.int .u32 b4)).setCell 4 (.int .u32 b5)).setCell 5 (.int .u32 b6)).setCell 6 (.int .u32 b7)).setCell 7 (.int .u32 b8))
        clear e0 g0 e1 g1 e2 g2 e3 g3 e4 g4 e5 g5 e6 g6 e7 g7 e8 g8 k0 k1 k2 k3 k4 k5 k6 k7 k8
        obtain ⟨w5, hw5⟩ : ∃ w5, w5 = ((((((((w4.setCell ⟨g, 0, none⟩ (.int .u32 b1)).setCell ⟨g, 1, none⟩ (.int .u32 b2)).setCell ⟨g, 2, none⟩ (.int .u32 b3)).setCell ⟨g, 3, none⟩ (.int .u32 b4)).setCell ⟨g, 4, none⟩ (.int .u32 b5)).setCell ⟨g, 5, none⟩ (.int .u32 b6)).setCell ⟨g, 6, none⟩ (.int .u32 b7)).setCell ⟨g, 7, none⟩ (.int .u32 b8)) := ⟨_, rfl⟩
        rw [← hw5] at hW hQ5 hF5 ⊢
        clear hw5
        rw [← HB8.out, HNEXT.out] at hW
        have k8 : w5.cell? ⟨g, 8, none⟩ = some (.slice Aj m cj) := Blk.cell hW 8
        have f8 := Blk.frozen hW 8
        have hW6 : Aside0 (Blk (w5.setCell ⟨g, 8, none⟩ (.slice A' (m - 64) c')) g 91 (nums .u32 (blocksS (j + 1) (goneS b) X).list ++ [.slice A' (m - 64) c', .int .u64 T])) := ⟨Blk.set_ hW 8 _⟩
        have hQ6 : Aside0 (Qw (w5.setCell ⟨g, 8, none⟩ (.slice A' (m - 64) c')) base (.slice A' (m - 64) c') (X.drop (64 * (j + 1)))) := ⟨by
          have h := Qw.far (HQ'.out _ hQ5) hW (by decide) 8 (.slice A' (m - 64) c')
          rw [drop64] at h; exact h⟩
        have hF6 : Fr w (w5.setCell ⟨g, 8, none⟩ (.slice A' (m - 64) c')) g row := hF5.setCell 8 _
        have hat6 : Aside0 ((Value.slice A' (m - 64) c').ownBlock = row ∨ ∃ k, (Value.slice A' (m - 64) c').ownBlock = some k ∧ w.heap.size ≤ k) := ⟨by rw [HOWN.out]; exact hatj.out⟩
        clear hW hQ4 hQ5 hF5
        go_wp2_with fail
        go_roundg (gk - 1)
        case measure => omega
        case rel => exact ⟨j + 1, m - 64, A', c', by omega, by omega, hW6, hQ6, hF6, hat6⟩
    · have hlt' : ¬ (64 : Int) ≤ (m : Int) := by omega
      have hj : j = X.length / 64 := by omega
      have HJ := Aside0.mk hj
      clear hj
      go_wp2_with fail
      go_end0
      have h1 := hBj.out
      have h2 := hQj.out
      have h3 := HXL.out
      have h4 := HLN.out
      rw [HJ.out] at h1 h2
      have e1 : blocksS (X.length / 64) (goneS b) X = goneS (b ++ l) := by rw [goneS_append, HX.out, h3, h4]
      have e2 : X.drop (64 * (X.length / 64)) = restS (b ++ l) := by rw [restS_append, HX.out]; rw [h3, h4]
      rw [e1, ← HT.out] at h1
      rw [e2] at h2
      exact ⟨rfl, _, ⟨hge, (fun x hx => by rcases List.mem_append.1 hx with h | h; exact hbB x h; exact hB x h), h1, h2⟩, hFj, hatj.out⟩
end Go.Proofs.YtmmbonlidcbkcaaDoor.DgAdd
