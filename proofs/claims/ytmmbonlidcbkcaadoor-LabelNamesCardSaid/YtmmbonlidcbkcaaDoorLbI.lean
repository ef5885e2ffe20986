/- label: ids, walked. -/
import Derived.Test.YtmmbonlidcbkcaaDoorMacA
import Derived.Deep.RegionHeld3
import Derived.Deep.MidRow
import Derived.Deep.Cut
import Derived.Test.YtmmbonlidcbkcaaDoorLbC
import Derived.ChangeKeysEq
namespace Go.Proofs.YtmmbonlidcbkcaaDoor.LbI
open Go.RowKit Go.Proofs.YtmmbonlidcbkcaaDoorW.PrintWords Go.Proofs.YtmmbonlidcbkcaaDoor.Num Go.Proofs.YtmmbonlidcbkcaaDoor.Sha Go.Proofs.YtmmbonlidcbkcaaDoor.Hmac Go.Proofs.YtmmbonlidcbkcaaDoor.WordC Go.Proofs.YtmmbonlidcbkcaaDoor.Arr Go.Proofs.YtmmbonlidcbkcaaDoor.App Go.Proofs.YtmmbonlidcbkcaaDoor.DgC Go.Proofs.YtmmbonlidcbkcaaDoor.DgBlock Go.Proofs.YtmmbonlidcbkcaaDoor.DgState Go.Proofs.YtmmbonlidcbkcaaDoor.DgAdd Go.Proofs.YtmmbonlidcbkcaaDoor.DgSum Go.Proofs.YtmmbonlidcbkcaaDoor.DgOf Go.Proofs.YtmmbonlidcbkcaaDoor.DgCopy Go.Proofs.YtmmbonlidcbkcaaDoor.DgLaw Go.Proofs.YtmmbonlidcbkcaaDoor.DgWords Go.Proofs.YtmmbonlidcbkcaaDoor.DgParts Go.Proofs.YtmmbonlidcbkcaaDoor.RefOf Go.Proofs.YtmmbonlidcbkcaaDoor.MacC Go.Proofs.YtmmbonlidcbkcaaDoor.MacTag Go.Proofs.YtmmbonlidcbkcaaDoor.MacLaw Go.Proofs.YtmmbonlidcbkcaaDoor.MacAwake Go.Proofs.YtmmbonlidcbkcaaDoor.MacHold Go.Proofs.YtmmbonlidcbkcaaDoor.MacNew Go.Proofs.YtmmbonlidcbkcaaDoor.MacRef Go.Proofs.YtmmbonlidcbkcaaDoor.MacNil Go.Proofs.YtmmbonlidcbkcaaDoor.MacMany Go.Proofs.YtmmbonlidcbkcaaDoor.LbC Go.Proofs.YtmmbonlidcbkcaaDoor.DgEq
set_option linter.unusedVariables false
set_option linter.unusedSimpArgs false

theorem size61 : (Tryd.prog.info? 61).map (·.size) = some 32 := by kernel_rfl
theorem results_arr2 {P : Program} {fn : Func} {p q : Tmp} {ty : TypeId} (h : fn.results = #[.cell p ty, .tmp q]) (tmps : Array Value) (w : World) (g t n e : Nat) (k : IntKind) (l : List Int) (v : Value)
    (hp : tmps.getD p undef = .pointer (some ⟨g, 0, none⟩)) (hq : tmps.getD q undef = v) (hg : Blk w g t (nums k l)) (hu : P.underlying ty = some (.array n e)) (hi : (P.info? ty).map (·.size) = some n) (hl : l.length = n) :
    (results fn tmps).run P w = .ok (.tuple #[.agg (nums k l).toArray, v]) w := by
  have hp' : tmps[p]?.getD undef = .pointer (some ⟨g, 0, none⟩) := by simpa using hp
  have hq' : tmps[q]?.getD undef = v := by simpa using hq
  have hrun := run_loadVar_row (P := P) w g t ty (nums k l).toArray (0, 0) _ hg hu rfl (by rw [size_nums, hl]; exact hi)
  simp [results, h, hp', hq', asAddr, hrun]
theorem plain5 : Tryd.prog.plainKey 5 = true := by kernel_rfl
theorem eql61 {xs ys : List Int} (hx : xs.length = 32) (hy : ys.length = 32) (W : World) : (binOp .eql 61 (.agg (nums .u8 xs).toArray) (.agg (nums .u8 ys).toArray)).run Tryd.prog W = .ok (.bool (eqB xs ys)) W := by
  obtain ⟨i0, hi⟩ := info_of_underlying (P := Tryd.prog) Tryd.underlying5
  have h := run_equalIn_array (P := Tryd.prog) W 9999 (nums .u8 xs).toArray (nums .u8 ys).toArray Tryd.underlying61 hi
  rw [DgEq.cells5, DgEq.eqItems_nums 9998 xs ys W _ (fun i hm => by have := List.mem_range.1 hm; omega), DgEq.all_eqB hx hy] at h
  simp only [binOp]
  simp [Op.equal, Op.maxDepth, h]
/-- So many bytes, and noughts. -/
def fillZ (l : List Int) (T : Nat) : List Int := l.take T ++ List.replicate (32 - T) 0
theorem fillZ_length (l : List Int) (h : l.length = 32) (T : Nat) (hT : T ≤ 32) : (fillZ l T).length = 32 := by simp [fillZ]; omega
theorem fillZ_full (l : List Int) (h : l.length = 32) : fillZ l 32 = l := by simp [fillZ, List.take_of_length_le (by omega : l.length ≤ 32)]
theorem fillZ_set (l : List Int) (h : l.length = 32) (T : Nat) (hT : T < 32) : (fillZ l T).set T (l.getD T 0) = fillZ l (T + 1) := by
  have hl : (l.take T).length = T := by rw [List.length_take]; omega
  have e1 : l.take (T + 1) = l.take T ++ [l.getD T 0] := by rw [List.take_add_one, List.getD_eq_getElem?_getD, List.getElem?_eq_getElem (by omega)]; rfl
  unfold fillZ
  rw [List.set_append_right _ _ (by omega), hl, Nat.sub_self, e1, List.append_assoc, show 32 - T = (32 - (T + 1)) + 1 by omega, List.replicate_succ, List.set_cons_zero]; rfl
set_option maxHeartbeats 2000000 in
set_option maxRecDepth 100000 in
theorem Of78_c {A : Option Addr} {c : Nat} {l : List Int} {w : World} (hr : Rd w A 32 c l) :
    Calls Tryd.prog 78 #[.slice A 32 c] w fun e w' => e = .returned (.agg (nums .u8 l).toArray) ∧ Below w.heap.size w w' := by
  have hl := hr.len
  have HL := Aside0.mk hl
  clear hl
  go_enter Tryd.func78, Tryd.ntmps78
  go_upto_region 1 with (fail)
  generalize hW : w.alloc _ = W0
  have hB0 : Below w.heap.size w W0 := by rw [← hW]; exact (Below.refl _ w).alloc (Nat.le_refl _) _
  have hO0 : Blk W0 w.heap.size 61 (nums .u8 (List.replicate 32 0)) := by rw [← hW]; exact heap_alloc_new _ _
  clear hW
  have hlt := Blk.lt hO0
  have hf0 : List.replicate 32 (0 : Int) = fillZ l 0 := by simp [fillZ]
  have HF0 := Aside0.mk hf0
  clear hf0
  go_wp2_with (first
    | (refine store_arr rfl 61 (.tmp 3) (.tmp 5) rfl W0.heap.size .u8 (List.replicate 32 0) rfl rfl 61 32 _ (heap_alloc_new _ _) size61 rfl rfl ?_; intro W1 hX1 hg1; have hb1 : Below W0.heap.size W0 W1 := ((Below.refl _ W0).alloc (Nat.le_refl _) _).grown hg1 (by simp) (fun k hk => by cases hk; exact Nat.le_refl _); rw [HF0.out] at hX1; have HX1 := Aside0.mk hX1; have hO1 := Aside0.mk (Blk.below hO0 hb1); have hB1 := below_next hB0 hb1; clear hX1 hg1 hO0))
  go_loopw [4] (fun i wr => ∃ T : Nat, T ≤ 32 ∧ i = .int .i64 T ∧ Aside0 (Blk wr W0.heap.size 61 (nums .u8 (fillZ l T))) ∧ Aside0 (Blk wr w.heap.size 61 (nums .u8 (List.replicate 32 0))) ∧ Below w.heap.size w wr) (fun i _ => 32 - (intOf i).toNat)
  case atStart => exact ⟨0, by omega, rfl, HX1, hO1, hB1⟩
  case round =>
    clear HX1 hO1 hB1
    obtain ⟨T, hT, rfl, hX, hO, hb⟩ := hrel
    by_cases hlt2 : T < 32
    · have hlt' : (T : Int) < 32 := by omega
      obtain ⟨ad, rfl, hcell⟩ := rd_at (hr.below hb) T hlt2
      have hset := fillZ_set l HL.out T hlt2
      have HSET := Aside0.mk hset
      have fX := Blk.frozen hX.out T
      obtain ⟨y, cX⟩ : ∃ y, wr.cell? ⟨W0.heap.size, T, none⟩ = some (.int .u8 y) := ⟨_, blk_num hX.out T (by rw [fillZ_length l HL.out T hT]; exact hlt2)⟩
      clear hset
      generalize l.getD T 0 = x1 at *
      have hX' : Aside0 (Blk (wr.setCell ⟨W0.heap.size, T, none⟩ (.int .u8 x1)) W0.heap.size 61 (nums .u8 (fillZ l (T + 1)))) := ⟨by rw [← HSET.out]; exact blk_put hX.out T _⟩
      have hO' : Aside0 (Blk (wr.setCell ⟨W0.heap.size, T, none⟩ (.int .u8 x1)) w.heap.size 61 (nums .u8 (List.replicate 32 0))) := ⟨Blk.far hO.out (by show w.heap.size ≠ W0.heap.size; omega) _⟩
      have hb' : Below w.heap.size w (wr.setCell ⟨W0.heap.size, T, none⟩ (.int .u8 x1)) := hb.setCell (by show w.heap.size ≤ W0.heap.size; omega) _
      go_wp2_with fail
      go_roundw
      case rel => exact ⟨T + 1, by omega, by go_num, hX', hO', hb'⟩
      case measure => simp [intOf]; omega
    · have hge : ¬ (T : Int) < 32 := by omega
      obtain rfl : T = 32 := by omega
      have hX' := hX.out
      rw [fillZ_full l HL.out] at hX'
      have HX' := Aside0.mk hX'
      clear hX hX'
      go_wp2_with (first
        | (refine load_arr rfl 61 (.tmp 3) rfl W0.heap.size rfl 61 .u8 l 32 5 HX'.out Tryd.underlying61 size61 HL.out ?_)
        | (refine store_arr rfl 61 (.tmp 2) (.tmp 22) rfl w.heap.size .u8 l rfl rfl 61 32 _ hO.out size61 HL.out (by rw [nums_length]; rfl) ?_; intro w12 hO12 hg12; have HO12 := Aside0.mk hO12; clear hO12))
      refine bodyPost_ret (v := .agg (nums .u8 l).toArray) ?_ rfl ⟨rfl, hb.grown hg12 hb.size (fun k hk => by cases hk; exact Nat.le_refl _)⟩
      refine results_arr (p := 2) (ty := 61) (h := ?_) (g := w.heap.size) (t := 61) (n := 32) (e := 5) (k := .u8) (l := l) (hp := ?_) (hg := HO12.out) (hu := Tryd.underlying61) (hi := size61) (hl := HL.out) ..
      · rfl
      · rfl
def idBad (n : Nat) (k : Int) : Prop := n ≠ 32 ∨ k < 0 ∨ 255 < k
/-- What an id comes to, the error too. -/
def idL (l : List Int) (k : Int) (t : List Int) : List Int × Int := if l.length = 32 ∧ 0 ≤ k ∧ k ≤ 255 then (tagS l ([k] ++ t), 0) else (List.replicate 32 0, 1)
theorem idL_length (l : List Int) (k : Int) (t : List Int) : (idL l k t).1.length = 32 := by
  unfold idL; split
  · exact tagS_length _ _
  · simp
theorem rd_byte (W : World) (k : Int) : Rd (W.alloc (.cells #[.int .u8 k] 5)) (some ⟨W.heap.size, 0, none⟩) 1 1 [k] := rd_const W [k] (0, 0) (by simp)
set_option maxHeartbeats 2000000 in
set_option maxRecDepth 100000 in
theorem ID52_no {A B : Option Addr} {n c m d : Nat} {k : Int} {w : World} (h : n ≠ 32 ∨ k < 0 ∨ 255 < k) :
    Calls Tryd.prog 52 #[.slice A n c, .int .i64 k, .slice B m d] w fun e w' => e = .returned (.tuple #[.agg (nums .u8 (List.replicate 32 0)).toArray, .int .i64 1]) ∧ Below w.heap.size w w' := by
  by_cases hn : n = 32
  · subst hn
    by_cases hk : k < 0
    · clear h
      go_enter Tryd.func52, Tryd.ntmps52
      go_upto_region 1 with (fail)
      generalize hW : w.alloc _ = W0
      have hb0 : Below w.heap.size w W0 := by rw [← hW]; exact (Below.refl _ w).alloc (Nat.le_refl _) _
      have hO0 : Blk W0 w.heap.size 61 (nums .u8 (List.replicate 32 0)) := by rw [← hW]; exact heap_alloc_new _ _
      clear hW
      go_wp2_with (first
        | (refine store_arr rfl 61 (.tmp 6) (.tmp 19) rfl w.heap.size .u8 (List.replicate 32 0) rfl rfl 61 32 _ hO0 size61 rfl rfl ?_; intro w4 hO4 hg4; have HO4 := Aside0.mk hO4; clear hO4))
      refine bodyPost_ret (v := .tuple #[.agg (nums .u8 (List.replicate 32 0)).toArray, .int .i64 1]) ?_ rfl ⟨rfl, hb0.grown hg4 hb0.size (fun k hk => by cases hk; exact Nat.le_refl _)⟩
      exact results_arr2 (p := 6) (q := 7) (ty := 61) rfl _ _ w.heap.size 61 32 5 .u8 (List.replicate 32 0) _ rfl rfl HO4.out Tryd.underlying61 size61 rfl
    · have hk2 : 255 < k := by omega
      clear h
      go_enter Tryd.func52, Tryd.ntmps52
      go_upto_region 1 with (fail)
      generalize hW : w.alloc _ = W0
      have hb0 : Below w.heap.size w W0 := by rw [← hW]; exact (Below.refl _ w).alloc (Nat.le_refl _) _
      have hO0 : Blk W0 w.heap.size 61 (nums .u8 (List.replicate 32 0)) := by rw [← hW]; exact heap_alloc_new _ _
      clear hW
      go_wp2_with (first
        | (refine store_arr rfl 61 (.tmp 6) (.tmp 19) rfl w.heap.size .u8 (List.replicate 32 0) rfl rfl 61 32 _ hO0 size61 rfl rfl ?_; intro w4 hO4 hg4; have HO4 := Aside0.mk hO4; clear hO4))
      refine bodyPost_ret (v := .tuple #[.agg (nums .u8 (List.replicate 32 0)).toArray, .int .i64 1]) ?_ rfl ⟨rfl, hb0.grown hg4 hb0.size (fun k hk => by cases hk; exact Nat.le_refl _)⟩
      exact results_arr2 (p := 6) (q := 7) (ty := 61) rfl _ _ w.heap.size 61 32 5 .u8 (List.replicate 32 0) _ rfl rfl HO4.out Tryd.underlying61 size61 rfl
  · have hne : ¬ (n : Int) = 32 := by omega
    have hq : ((n : Int) == 32) = false := by simp; omega
    have hq2 : ((n : Int) != 32) = true := by simp; omega
    clear h
    go_enter Tryd.func52, Tryd.ntmps52
    go_upto_region 1 with (fail)
    generalize hW : w.alloc _ = W0
    have hb0 : Below w.heap.size w W0 := by rw [← hW]; exact (Below.refl _ w).alloc (Nat.le_refl _) _
    have hO0 : Blk W0 w.heap.size 61 (nums .u8 (List.replicate 32 0)) := by rw [← hW]; exact heap_alloc_new _ _
    clear hW
    go_wp2_with (first
      | (refine store_arr rfl 61 (.tmp 6) (.tmp 19) rfl w.heap.size .u8 (List.replicate 32 0) rfl rfl 61 32 _ hO0 size61 rfl rfl ?_; intro w4 hO4 hg4; have HO4 := Aside0.mk hO4; clear hO4))
    refine bodyPost_ret (v := .tuple #[.agg (nums .u8 (List.replicate 32 0)).toArray, .int .i64 1]) ?_ rfl ⟨rfl, hb0.grown hg4 hb0.size (fun k hk => by cases hk; exact Nat.le_refl _)⟩
    exact results_arr2 (p := 6) (q := 7) (ty := 61) rfl _ _ w.heap.size 61 32 5 .u8 (List.replicate 32 0) _ rfl rfl HO4.out Tryd.underlying61 size61 rfl
set_option maxHeartbeats 2000000 in
set_option maxRecDepth 100000 in
theorem refID53_no {A B : Option Addr} {n c m d : Nat} {k : Int} {w : World} (h : n ≠ 32 ∨ k < 0 ∨ 255 < k) :
    Calls Tryd.prog 53 #[.slice A n c, .int .i64 k, .slice B m d] w fun e w' => e = .returned (.tuple #[.agg (nums .u8 (List.replicate 32 0)).toArray, .int .i64 1]) ∧ Below w.heap.size w w' := by
  by_cases hn : n = 32
  · subst hn
    by_cases hk : k < 0
    · clear h
      go_enter Tryd.func53, Tryd.ntmps53
      go_upto_region 1 with (fail)
      generalize hW : w.alloc _ = W0
      have hb0 : Below w.heap.size w W0 := by rw [← hW]; exact (Below.refl _ w).alloc (Nat.le_refl _) _
      have hO0 : Blk W0 w.heap.size 61 (nums .u8 (List.replicate 32 0)) := by rw [← hW]; exact heap_alloc_new _ _
      clear hW
      go_wp2_with (first
        | (refine store_arr rfl 61 (.tmp 6) (.tmp 19) rfl w.heap.size .u8 (List.replicate 32 0) rfl rfl 61 32 _ hO0 size61 rfl rfl ?_; intro w4 hO4 hg4; have HO4 := Aside0.mk hO4; clear hO4))
      refine bodyPost_ret (v := .tuple #[.agg (nums .u8 (List.replicate 32 0)).toArray, .int .i64 1]) ?_ rfl ⟨rfl, hb0.grown hg4 hb0.size (fun k hk => by cases hk; exact Nat.le_refl _)⟩
      exact results_arr2 (p := 6) (q := 7) (ty := 61) rfl _ _ w.heap.size 61 32 5 .u8 (List.replicate 32 0) _ rfl rfl HO4.out Tryd.underlying61 size61 rfl
    · have hk2 : 255 < k := by omega
      clear h
      go_enter Tryd.func53, Tryd.ntmps53
      go_upto_region 1 with (fail)
      generalize hW : w.alloc _ = W0
      have hb0 : Below w.heap.size w W0 := by rw [← hW]; exact (Below.refl _ w).alloc (Nat.le_refl _) _
      have hO0 : Blk W0 w.heap.size 61 (nums .u8 (List.replicate 32 0)) := by rw [← hW]; exact heap_alloc_new _ _
      clear hW
      go_wp2_with (first
        | (refine store_arr rfl 61 (.tmp 6) (.tmp 19) rfl w.heap.size .u8 (List.replicate 32 0) rfl rfl 61 32 _ hO0 size61 rfl rfl ?_; intro w4 hO4 hg4; have HO4 := Aside0.mk hO4; clear hO4))
      refine bodyPost_ret (v := .tuple #[.agg (nums .u8 (List.replicate 32 0)).toArray, .int .i64 1]) ?_ rfl ⟨rfl, hb0.grown hg4 hb0.size (fun k hk => by cases hk; exact Nat.le_refl _)⟩
      exact results_arr2 (p := 6) (q := 7) (ty := 61) rfl _ _ w.heap.size 61 32 5 .u8 (List.replicate 32 0) _ rfl rfl HO4.out Tryd.underlying61 size61 rfl
  · have hne : ¬ (n : Int) = 32 := by omega
    have hq : ((n : Int) == 32) = false := by simp; omega
    have hq2 : ((n : Int) != 32) = true := by simp; omega
    clear h
    go_enter Tryd.func53, Tryd.ntmps53
    go_upto_region 1 with (fail)
    generalize hW : w.alloc _ = W0
    have hb0 : Below w.heap.size w W0 := by rw [← hW]; exact (Below.refl _ w).alloc (Nat.le_refl _) _
    have hO0 : Blk W0 w.heap.size 61 (nums .u8 (List.replicate 32 0)) := by rw [← hW]; exact heap_alloc_new _ _
    clear hW
    go_wp2_with (first
      | (refine store_arr rfl 61 (.tmp 6) (.tmp 19) rfl w.heap.size .u8 (List.replicate 32 0) rfl rfl 61 32 _ hO0 size61 rfl rfl ?_; intro w4 hO4 hg4; have HO4 := Aside0.mk hO4; clear hO4))
    refine bodyPost_ret (v := .tuple #[.agg (nums .u8 (List.replicate 32 0)).toArray, .int .i64 1]) ?_ rfl ⟨rfl, hb0.grown hg4 hb0.size (fun k hk => by cases hk; exact Nat.le_refl _)⟩
    exact results_arr2 (p := 6) (q := 7) (ty := 61) rfl _ _ w.heap.size 61 32 5 .u8 (List.replicate 32 0) _ rfl rfl HO4.out Tryd.underlying61 size61 rfl
set_option maxHeartbeats 4000000 in
set_option maxRecDepth 100000 in
theorem ID52_yes {A B : Option Addr} {c m d : Nat} {l t : List Int} {k : Int} {w : World} (hr : Rd w A 32 c l) (hB : IsB l) (hr' : Rd w B m d t) (hT : IsB t) (hm : m ≤ 140737488340000) (h0 : 0 ≤ k) (h1 : k ≤ 255) (ht : Tb w) :
    Calls Tryd.prog 52 #[.slice A 32 c, .int .i64 k, .slice B m d] w fun e w' => e = .returned (.tuple #[.agg (nums .u8 (tagS l ([k] ++ t))).toArray, .int .i64 0]) ∧ Below w.heap.size w w' := by
  have hlT := tagS_length l ([k] ++ t)
  obtain ⟨T, HT⟩ : ∃ T, Aside0 (tagS l ([k] ++ t) = T) := ⟨_, ⟨rfl⟩⟩
  rw [HT.out] at hlT
  have HTL := Aside0.mk hlT
  have hIk : IsB [k] := fun x hx => by rw [List.mem_singleton.1 hx]; omega
  have HIK := Aside0.mk hIk
  clear hlT hIk
  go_enter Tryd.func52, Tryd.ntmps52
  go_upto_region 3 with (fail)
  generalize hW : w.alloc _ = W0
  have hb0 : Below w.heap.size w W0 := by rw [← hW]; exact (Below.refl _ w).alloc (Nat.le_refl _) _
  have hO0 : Blk W0 w.heap.size 61 (nums .u8 (List.replicate 32 0)) := by rw [← hW]; exact heap_alloc_new _ _
  have hba : Below W0.heap.size W0 (W0.alloc (.cells #[.int .u8 k] 5)) := (Below.refl _ W0).alloc (Nat.le_refl _) _
  have hBa := below_next hb0 hba
  have hOa := Blk.below hO0 hba
  clear hW
  go_wp2_with fail
  refine (tag38_2 (k := W0.heap.size + 1) (by simp) (hr.below hBa) hB (by omega) (rd_byte W0 k) (hr'.below hBa) HIK.out hT (by omega) (ht.below hBa)).mono ?_
  rintro x w3 ⟨rfl, hb3⟩
  rw [HT.out]
  have hB3 := below_next hBa hb3
  have hO3 := Blk.below hOa hb3
  go_wp2_with (first
    | (refine store_arr rfl 61 (.tmp 6) (.tmp 26) rfl w.heap.size .u8 T rfl rfl 61 32 _ hO3 size61 HTL.out (by rw [nums_length]; rfl) ?_; intro w4 hO4 hg4; have HO4 := Aside0.mk hO4; clear hO4))
  refine bodyPost_ret (v := .tuple #[.agg (nums .u8 T).toArray, .int .i64 0]) ?_ rfl ⟨by rw [show tagS l (k :: t) = T from HT.out], hB3.grown hg4 hB3.size (fun k hk => by cases hk; exact Nat.le_refl _)⟩
  exact results_arr2 (p := 6) (q := 7) (ty := 61) rfl _ _ w.heap.size 61 32 5 .u8 T _ rfl rfl HO4.out Tryd.underlying61 size61 HTL.out
set_option maxHeartbeats 4000000 in
set_option maxRecDepth 100000 in
theorem refID53_yes {A B : Option Addr} {c m d : Nat} {l t : List Int} {k : Int} {w : World} (hr : Rd w A 32 c l) (hB : IsB l) (hr' : Rd w B m d t) (hT : IsB t) (hm : m ≤ 140737488340000) (h0 : 0 ≤ k) (h1 : k ≤ 255) :
    Calls Tryd.prog 53 #[.slice A 32 c, .int .i64 k, .slice B m d] w fun e w' => e = .returned (.tuple #[.agg (nums .u8 (tagS l ([k] ++ t))).toArray, .int .i64 0]) ∧ Below w.heap.size w w' := by
  have hlT := tagS_length l ([k] ++ t)
  obtain ⟨T, HT⟩ : ∃ T, Aside0 (tagS l ([k] ++ t) = T) := ⟨_, ⟨rfl⟩⟩
  rw [HT.out] at hlT
  have HTL := Aside0.mk hlT
  have hIk : IsB ([k] ++ t) := isB_append (fun x hx => by rw [List.mem_singleton.1 hx]; omega) hT
  have HIK := Aside0.mk hIk
  have hlk : ([k] ++ t).length = 1 + m := by rw [List.length_append, hr'.len]; rfl
  have HLK := Aside0.mk hlk
  clear hlT hIk hlk
  go_enter Tryd.func53, Tryd.ntmps53
  go_upto_region 3 with (fail)
  generalize hW : w.alloc _ = W0
  have hb0 : Below w.heap.size w W0 := by rw [← hW]; exact (Below.refl _ w).alloc (Nat.le_refl _) _
  have hO0 : Blk W0 w.heap.size 61 (nums .u8 (List.replicate 32 0)) := by rw [← hW]; exact heap_alloc_new _ _
  have hba : Below W0.heap.size W0 (W0.alloc (.cells #[.int .u8 k] 5)) := (Below.refl _ W0).alloc (Nat.le_refl _) _
  have hBa := below_next hb0 hba
  have hOa := Blk.below hO0 hba
  clear hW
  go_wp2_with fail
  refine (join33_c (rd_byte W0 k) (hr'.below hBa) (by omega)).mono ?_
  rintro x w2 ⟨v2, rfl, ho2, hb2⟩
  obtain ⟨A2, c2, rfl, r2⟩ := rd_of_own ho2
  rw [HLK.out] at r2 ⊢
  have hB2 := below_next hBa hb2
  have hO2 := Blk.below hOa hb2
  clear ho2
  go_wp2_with fail
  refine (reftag36_c (hr.below hB2) hB (by omega) r2 HIK.out (by omega)).mono ?_
  rintro x w3 ⟨v3, rfl, ho3, hb3⟩
  rw [HT.out] at ho3
  obtain ⟨A3, c3, rfl, r3⟩ := rd_of_own ho3
  rw [HTL.out] at r3 ⊢
  have hB3 := below_next hB2 hb3
  have hO3 := Blk.below hO2 hb3
  clear ho3 r2
  go_wp2_with fail
  refine (Of78_c r3).mono ?_
  rintro x w4 ⟨rfl, hb4⟩
  have hB4 := below_next hB3 hb4
  have hO4 := Blk.below hO3 hb4
  go_wp2_with (first
    | (refine store_arr rfl 61 (.tmp 6) (.tmp 27) rfl w.heap.size .u8 T rfl rfl 61 32 _ hO4 size61 HTL.out (by rw [nums_length]; rfl) ?_; intro w5 hO5 hg5; have HO5 := Aside0.mk hO5; clear hO5))
  refine bodyPost_ret (v := .tuple #[.agg (nums .u8 T).toArray, .int .i64 0]) ?_ rfl ⟨by rw [show tagS l (k :: t) = T from HT.out], hB4.grown hg5 hB4.size (fun k hk => by cases hk; exact Nat.le_refl _)⟩
  exact results_arr2 (p := 6) (q := 7) (ty := 61) rfl _ _ w.heap.size 61 32 5 .u8 T _ rfl rfl HO5.out Tryd.underlying61 size61 HTL.out
end Go.Proofs.YtmmbonlidcbkcaaDoor.LbI
