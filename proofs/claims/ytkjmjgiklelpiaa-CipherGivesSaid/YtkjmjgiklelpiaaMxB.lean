/- cipher.Mix that gives nothing; the document's Mix. -/
import Derived.Test.YtkjmjgiklelpiaaApp
import Derived.Test.YtkjmjgiklelpiaaQuart
import Derived.Test.YtkjmjgiklelpiaaPlainCipherBlocks
import Derived.Deep.RegionHeld3
import Derived.Deep.Cut
import Derived.Deep.CutRange
import Derived.Test.YtkjmjgiklelpiaaMxA
import Derived.Test.YtkjmjgiklelpiaaCiM
namespace Go.Proofs.Ytkjmjgiklelpiaa.MxB
open Go.RowKit Go.Proofs.YtkjmjgiklelpiaaW.PrintWords Go.Proofs.Ytkjmjgiklelpiaa.Num Go.Proofs.Ytkjmjgiklelpiaa.WordC Go.Proofs.Ytkjmjgiklelpiaa.Arr Go.Proofs.Ytkjmjgiklelpiaa.App Go.Proofs.Ytkjmjgiklelpiaa.CiC Go.Proofs.Ytkjmjgiklelpiaa.CiD Go.Proofs.Ytkjmjgiklelpiaa.CiB Go.Proofs.Ytkjmjgiklelpiaa.CiK Go.Proofs.Ytkjmjgiklelpiaa.CiL Go.Proofs.Ytkjmjgiklelpiaa.CiM Go.Proofs.Ytkjmjgiklelpiaa.Rz Go.Proofs.Ytkjmjgiklelpiaa.ItA Go.Proofs.Ytkjmjgiklelpiaa.MxA
set_option linter.unusedVariables false
set_option linter.unusedSimpArgs false

set_option maxHeartbeats 8000000 in
set_option maxRecDepth 100000 in
theorem Mix_no {A B C : Option Addr} {q c r d e n : Nat} {m : Int} {w : World} (h : rightC q r = false) :
    Calls Try.prog 23 #[.slice A q c, .slice B r d, .int .u32 m, .slice C n e] w fun x w' => x = .returned (.tuple #[.slice none 0 0, .int .i64 1]) ∧ w' = w := by
  by_cases h1 : q = 32
  · subst h1
    have h2 : ((r : Int) != 12) = true := by
      rw [bne_iff_ne]; intro e; have : r = 12 := by omega
      subst this; simp [rightC] at h
    refine callsIn_wide.1 (callsIn_of_wp_marks (n := 2) Try.func23 rfl trivial ?_)
    refine wpIn_wide.2 ?_
    simp only [Try.ntmps23, List.size_toArray, List.length_cons, List.length_nil, Nat.reduceAdd, Nat.reduceSub, Array.replicate_succ, Array.replicate_zero, List.push_toArray, List.append_toArray, List.nil_append, List.cons_append]
    go_wp2_with fail
    refine retM (v := .tuple #[.slice none 0 0, .int .i64 1]) rfl (by simp [results, Try.results23, go_sem]) ⟨rfl, rfl⟩
  · have h2 : ((q : Int) != 32) = true := by rw [bne_iff_ne]; omega
    refine callsIn_wide.1 (callsIn_of_wp_marks (n := 2) Try.func23 rfl trivial ?_)
    refine wpIn_wide.2 ?_
    simp only [Try.ntmps23, List.size_toArray, List.length_cons, List.length_nil, Nat.reduceAdd, Nat.reduceSub, Array.replicate_succ, Array.replicate_zero, List.push_toArray, List.append_toArray, List.nil_append, List.cons_append]
    go_wp2_with fail
    refine retM (v := .tuple #[.slice none 0 0, .int .i64 1]) rfl (by simp [results, Try.results23, go_sem]) ⟨rfl, rfl⟩
set_option maxHeartbeats 8000000 in
set_option maxRecDepth 100000 in
theorem Mix_cap {A B C : Option Addr} {c d e n : Nat} {m : Int} {w : World} (h0 : 0 ≤ m) (h1 : m < 4294967296) (hn : n ≤ 1000000) (hcap : ¬ (n : Int) ≤ (4294967296 - m) * 64) :
    Calls Try.prog 23 #[.slice A 32 c, .slice B 12 d, .int .u32 m, .slice C n e] w fun x w' => x = .returned (.tuple #[.slice none 0 0, .int .i64 10]) ∧ w' = w := by
  have e1 : ((4294967296 : Int) - m) % 18446744073709551616 = 4294967296 - m := by omega
  have e2 : ((4294967296 - m) * 64 : Int) % 18446744073709551616 = (4294967296 - m) * 64 := by omega
  have e3 : (n : Int) % 18446744073709551616 = n := by omega
  have e4 : m % 18446744073709551616 = m := by omega
  have hc1 : (4294967296 - m) * 64 < (n : Int) := by omega
  refine callsIn_wide.1 (callsIn_of_wp_marks (n := 2) Try.func23 rfl trivial ?_)
  refine wpIn_wide.2 ?_
  simp only [Try.ntmps23, List.size_toArray, List.length_cons, List.length_nil, Nat.reduceAdd, Nat.reduceSub, Array.replicate_succ, Array.replicate_zero, List.push_toArray, List.append_toArray, List.nil_append, List.cons_append]
  go_wp2_with fail
  refine retM (v := .tuple #[.slice none 0 0, .int .i64 10]) rfl (by simp [results, Try.results23, go_sem]) ⟨rfl, rfl⟩
/-! ### the document's -/
theorem set_mid (X Y : List Int) (v : Int) (h : X.length = 12) : (X ++ [0] ++ Y).set 12 v = X ++ [v] ++ Y := by
  rw [List.append_assoc, List.set_append_right _ _ (by omega), h]
  simp
theorem ks_cha {k o : List Int} {m : Int} (hk : k.length = 32) (ho : o.length = 12) (i : Nat) : ks (g0S k o) m i = (chaS k o (m + ((i / 64 : Nat) : Int))).getD (i % 64) 0 := by
  have h : (g0S k o).set 12 (m + ((i / 64 : Nat) : Int)) = gS k o (m + ((i / 64 : Nat) : Int)) := by
    unfold g0S gS
    have h8 := ws_length 8 k hk
    have h4 : c4.length = 4 := rfl
    exact set_mid (c4 ++ ws k) (ws o) _ (by rw [List.length_append, h4, h8])
  unfold ks chaS
  rw [h]
/-- The bytes, appended one by one. -/
def mixR (f : Nat → Int) (b : List Int) : Nat → List Int
  | 0 => []
  | i + 1 => mixR f b i ++ [Go.bits .xor .u8 (b.getD i 0) (f i)]
theorem mixR_length (f : Nat → Int) (b : List Int) (i : Nat) : (mixR f b i).length = i := by
  induction i with
  | zero => rfl
  | succ i ih => simp [mixR, ih]
theorem mixT_get (f : Nat → Int) (b : List Int) (i j : Nat) (hi : i ≤ b.length) : (mixT f b i).getD j 0 = if j < i then Go.bits .xor .u8 (b.getD j 0) (f j) else b.getD j 0 := by
  induction i with
  | zero => rfl
  | succ i ih =>
    simp only [mixT]
    rw [List.getD_eq_getElem?_getD]
    by_cases h : i = j
    · subst h
      have h2 := ih (by omega)
      rw [if_neg (by omega)] at h2
      rw [List.getElem?_set_self (by rw [mixT_length]; omega), Option.getD_some, if_pos (by omega), h2]
    · rw [List.getElem?_set_ne h, ← List.getD_eq_getElem?_getD, ih (by omega)]
      by_cases h2 : j < i
      · rw [if_pos h2, if_pos (by omega)]
      · rw [if_neg h2, if_neg (by omega)]
theorem mixR_get (f : Nat → Int) (b : List Int) (i j : Nat) (hj : j < i) : (mixR f b i).getD j 0 = Go.bits .xor .u8 (b.getD j 0) (f j) := by
  induction i with
  | zero => omega
  | succ i ih =>
    simp only [mixR]
    rw [List.getD_eq_getElem?_getD]
    by_cases h : j < i
    · rw [List.getElem?_append_left (by rw [mixR_length]; exact h), ← List.getD_eq_getElem?_getD]; exact ih h
    · obtain rfl : j = i := by omega
      rw [List.getElem?_append_right (by rw [mixR_length]; omega), mixR_length, Nat.sub_self]
      rfl
theorem mixR_eq (f : Nat → Int) (b : List Int) : mixR f b b.length = mixT f b b.length := by
  apply List.ext_getElem
  · rw [mixR_length, mixT_length]
  · intro i h1 h2
    have e1 := mixR_get f b b.length i (by rw [mixR_length] at h1; exact h1)
    have e2 := mixT_get f b b.length i (Nat.le_refl _)
    rw [if_pos (by rw [mixR_length] at h1; exact h1), ← e1] at e2
    rw [List.getD_eq_getElem?_getD, List.getElem?_eq_getElem h2, List.getD_eq_getElem?_getD, List.getElem?_eq_getElem h1] at e2
    exact e2.symm
theorem ow_ltM {w : World} {base : Nat} {u : Value} {xs : List Int} (h : Ow w base u xs) : ∀ k, u.ownBlock = some k → k < w.heap.size := fun k hk => by
  obtain ⟨inner, hi⟩ := Kd.R_own h
  exact own_lt hi k hk
theorem ow_geM {w : World} {base : Nat} {u : Value} {xs : List Int} (h : Ow w base u xs) : ∀ k, u.ownBlock = some k → base ≤ k := fun k hk => by
  obtain ⟨inner, hi⟩ := Kd.R_own h
  exact own_base hi k hk
theorem one_BM (w : World) (x : Int) : Rd (w.alloc (.cells (nums .u8 [x]).toArray 5)) (some ⟨w.heap.size, 0, none⟩) 1 1 [x] := by
  have h : Ow (w.alloc (.cells (nums .u8 [x]).toArray 5)) 0 (.slice (some ⟨w.heap.size, 0, none⟩) 1 1) [x] := Kd.R_of_own (own_lit w 0 5 .u8 [x] (Nat.zero_le _) (by simp)) (fun _ _ => trivial)
  obtain ⟨A, c, e, hr⟩ := rd_of_own h
  injection e with e1 e2 e3
  subst e1 e3
  exact hr
set_option maxHeartbeats 8000000 in
set_option maxRecDepth 100000 in
theorem refMix_c {A B C : Option Addr} {c d e n : Nat} {k o b : List Int} {m : Int} {w : World} (hk : Rd w A 32 c k) (ho : Rd w B 12 d o) (hb : Rd w C n e b) (bk : IsB k) (bo : IsB o) (bb : IsB b) (h0 : 0 ≤ m) (h1 : m < 4294967296) (hn : n ≤ 1000000) (hcap : (n : Int) ≤ (4294967296 - m) * 64) :
    Calls Try.prog 24 #[.slice A 32 c, .slice B 12 d, .int .u32 m, .slice C n e] w fun x w' => ∃ v, x = .returned (.tuple #[v, .int .i64 0]) ∧ Ow w' w.heap.size v (mixT (ks (g0S k o) m) b n) ∧ Below w.heap.size w w' := by
  have HK := Aside0.mk hk
  have HO := Aside0.mk ho
  have HB := Aside0.mk hb
  have HL := Aside0.mk (show k.length = 32 ∧ o.length = 12 from ⟨hk.len, ho.len⟩)
  have HBL := Aside0.mk hb.len
  have HD0 : Aside0 (Below w.heap.size w w) := ⟨Below.refl _ _⟩
  obtain ⟨qn, HQN⟩ : ∃ z, Aside0 (n / 64 = z) := ⟨_, ⟨rfl⟩⟩
  obtain ⟨rn, HRN⟩ : ∃ z, Aside0 (n % 64 = z) := ⟨_, ⟨rfl⟩⟩
  have e1 : Int.tdiv (n : Int) 64 = (qn : Int) := by rw [Int.tdiv_eq_ediv_of_nonneg (by omega)]; have := HQN.out; omega
  have e2 : Int.tmod (n : Int) 64 = (rn : Int) := by rw [Int.tmod_eq_emod_of_nonneg (by omega)]; have := HRN.out; omega
  have e9 : qn ≤ 20000 := by have := HQN.out; omega
  clear hk ho hb
  have hrc : rightC 32 12 = true := rfl
  by_cases hr : 0 < rn
  · have hr' : (0 : Int) < (rn : Int) := by omega
    have hc : ¬ 4294967296 - m < (qn : Int) + 1 := by have := HQN.out; have := HRN.out; omega
    go_enter Try.func24, Try.ntmps24
    go_wp2_with fail
    refine (refRight_c HK.out HO.out).mono ?_
    rintro x w1 ⟨rfl, ⟨n1, rfl⟩⟩
    rw [hrc]
    go_wp2_with fail
    obtain ⟨F, HFF⟩ : ∃ F : Nat → Int, Aside0 (ks (g0S k o) m = F) := ⟨_, ⟨rfl⟩⟩
    have HD := Aside0.mk (pw_below_drewN HD0.out n1)
    have H0 : Aside0 (Ow (w.drewN n1) w.heap.size (.slice none 0 0) (mixR F b 0)) := ⟨Kd.R_nil _ _ _ _ _⟩
    have H1 : Aside0 (0 % 64 ≠ 0 → Ow (w.drewN n1) w.heap.size (.slice none 0 0) (chaS k o (m + ((0 / 64 : Nat) : Int)))) := ⟨fun h => absurd rfl h⟩
    have H2 : Aside0 (∀ q, (Value.slice none 0 0).ownBlock = some q → (Value.slice none 0 0).ownBlock ≠ some q) := ⟨fun q hq => by cases hq⟩
    go_loopw [13, 11, 12] (fun i vo vx wr => ∃ (t : Nat) (v x : Value), t ≤ n ∧ i = .int .i64 t ∧ v = vo ∧ x = vx ∧ Aside0 (Ow wr w.heap.size v (mixR F b t)) ∧ Aside0 (t % 64 ≠ 0 → Ow wr w.heap.size x (chaS k o (m + ((t / 64 : Nat) : Int)))) ∧ Aside0 (∀ q, x.ownBlock = some q → v.ownBlock ≠ some q) ∧ Below w.heap.size w wr) (fun i _ _ _ => n - (intOf i).toNat)
    case atStart => exact ⟨0, _, _, by omega, rfl, rfl, rfl, H0, H1, H2, HD.out⟩
    case round =>
      clear H0 H1 H2
      obtain ⟨t, v, x, ht, rfl, rfl, rfl, hO, hX, hNE, hBl⟩ := hrel
      by_cases hlt : t < n
      · have hlt' : (t : Int) < (n : Int) := by omega
        obtain ⟨q, HQ⟩ : ∃ z, Aside0 (t / 64 = z) := ⟨_, ⟨rfl⟩⟩
        obtain ⟨r, HR⟩ : ∃ z, Aside0 (t % 64 = z) := ⟨_, ⟨rfl⟩⟩
        have e3 : Int.tdiv (t : Int) 64 = (q : Int) := by rw [Int.tdiv_eq_ediv_of_nonneg (by omega)]; have := HQ.out; omega
        have e3' : Int.tmod (t : Int) 64 = (r : Int) := by rw [Int.tmod_eq_emod_of_nonneg (by omega)]; have := HR.out; omega
        have e7' : r < 64 := by have := HR.out; omega
        have e8 : m + (q : Int) < 4294967296 := by have := HQ.out; omega
        have e8' : q ≤ 20000 := by have := HQ.out; omega
        rw [HQ.out, HR.out] at hX
        obtain ⟨S, HSS⟩ : ∃ z, Aside0 (chaS k o (m + (q : Int)) = z) := ⟨_, ⟨rfl⟩⟩
        have HSL : Aside0 (S.length = 64) := ⟨by rw [← HSS.out]; exact blkS_length _⟩
        rw [HSS.out] at hX
        by_cases hz : r = 0
        · subst hz
          have e4 : (q : Int) % 4294967296 = (q : Int) := by omega
          have e5 : (m + (q : Int)) % 4294967296 = m + (q : Int) := by omega
          go_wp2_with fail
          refine (refBlock_c (HK.out.below hBl) (HO.out.below hBl) bk bo (by omega) (by omega)).mono ?_
          rintro y w2 ⟨xv, rfl, hxo2, hb2⟩
          rw [HSS.out] at hxo2
          have hO2 := Aside0.mk (Kd.R_below hO.out hb2)
          have hB2 := below_next hBl hb2
          have hNE2 : Aside0 (∀ q, xv.ownBlock = some q → v.ownBlock ≠ some q) := ⟨fun q hq e => by have a1 := ow_geM hxo2 q hq; have a2 := ow_ltM hO.out q e; omega⟩
          have hxl := Aside0.mk (Kd.R_lower hxo2 hBl.size)
          clear hxo2 hb2 hX hNE hO
          obtain ⟨gx, cx, hxe, hx0, hx1, -⟩ := Kd.R_form hxl.out (by rw [HSL.out]; decide)
          have hxo := hxl.out
          rw [hxe, HSL.out] at hxo
          have hxeA := Aside0.mk hxe
          subst hxe
          rw [HSL.out]
          have kx := (ow_cellN hxo 0 (by omega)).1
          try simp only [Int.natCast_zero, Int.cast_ofNat_Int, Nat.cast_ofNat] at kx
          have hRB := HB.out.below hB2
          obtain ⟨ad, rfl, hcb⟩ := rd_cells hRB (by omega)
          have kb := hcb t _ (nums_get .u8 b t (by rw [HBL.out]; omega))
          have e7 : (0 : Int) < 64 := by omega
          have hol : Aside0 ((mixR F b t).length = t) := ⟨mixR_length F b t⟩
          have hnx : Aside0 (mixR F b (t + 1) = mixR F b t ++ [Go.bits .xor .u8 (b.getD t 0) (S.getD 0 0)]) := ⟨by
            have hf : F t = S.getD 0 0 := by rw [← HFF.out, ks_cha HL.out.1 HL.out.2, ← HSS.out, HQ.out, HR.out]
            rw [← hf]; rfl⟩
          obtain ⟨y1, HY1⟩ : ∃ z, Aside0 (b.getD t 0 = z) := ⟨_, ⟨rfl⟩⟩
          obtain ⟨y2, HY2⟩ : ∃ z, Aside0 (S.getD 0 0 = z) := ⟨_, ⟨rfl⟩⟩
          rw [HY1.out] at kb hnx
          rw [HY2.out] at kx hnx
          have HXO := Aside0.mk hxo
          have HRB := Aside0.mk hRB
          clear hxo hRB hcb
          have hwc : (Go.bits .xor .u8 y1 y2) = Go.bits .xor .u8 y1 y2 := rfl
          go_wp2_with fail
          refine wp_region_any (by kernel_rfl) ?_
          (try (change wpAny _ _ _ _ _ _ _ (World.drew _)))
          refine wpAny_take (i := 0) (v := ?_) (List.getElem?_toArray.trans rfl) (by kernel_rfl) (by kernel_rfl) (by kernel_rfl) (fun _ _ _ h => h) (Or.inl ⟨by rfl, ?_⟩) ?_
          rotate_left
          · (intro w; go_simp; try with_reducible rfl)
          (try simp only [Act.put, List.setIfInBounds_toArray, List.set_cons_zero, List.set_cons_succ])
          refine wpAny_take (i := 1) (v := ?_) (List.getElem?_toArray.trans rfl) (by kernel_rfl) (by kernel_rfl) (by kernel_rfl) (fun _ _ _ h => h) (Or.inl ⟨by rfl, ?_⟩) ?_
          rotate_left
          · (intro w; go_simp; try with_reducible rfl)
          (try simp only [Act.put, List.setIfInBounds_toArray, List.set_cons_zero, List.set_cons_succ])
          refine wpAny_take (i := 2) (v := ?_) (List.getElem?_toArray.trans rfl) (by kernel_rfl) (by kernel_rfl) (by kernel_rfl) (fun _ _ _ h => h) (Or.inl ⟨by rfl, ?_⟩) ?_
          rotate_left
          · (intro w; go_simp; try with_reducible rfl)
          (try simp only [Act.put, List.setIfInBounds_toArray, List.set_cons_zero, List.set_cons_succ])
          refine wpAny_take (i := 3) (v := ?_) (List.getElem?_toArray.trans rfl) (by kernel_rfl) (by kernel_rfl) (by kernel_rfl) (fun _ _ _ h => h) (Or.inl ⟨by rfl, ?_⟩) ?_
          rotate_left
          · (intro w; go_simp; try with_reducible rfl)
          (try simp only [Act.put, List.setIfInBounds_toArray, List.set_cons_zero, List.set_cons_succ])
          refine wpAny_take (i := 5) (v := ?_) (List.getElem?_toArray.trans rfl) (by kernel_rfl) (by kernel_rfl) (by kernel_rfl) (fun _ _ _ h => h) (Or.inl ⟨by rfl, ?_⟩) ?_
          rotate_left
          · (intro w; go_simp; try with_reducible rfl)
          (try simp only [Act.put, List.setIfInBounds_toArray, List.set_cons_zero, List.set_cons_succ])
          refine wpAny_take (i := 6) (v := ?_) (List.getElem?_toArray.trans rfl) (by kernel_rfl) (by kernel_rfl) (by kernel_rfl) (fun _ _ _ h => h) (Or.inl ⟨by rfl, ?_⟩) ?_
          rotate_left
          · (intro w; go_simp; try with_reducible rfl)
          (try simp only [Act.put, List.setIfInBounds_toArray, List.set_cons_zero, List.set_cons_succ])
          refine wpAny_take (i := 7) (v := ?_) (List.getElem?_toArray.trans rfl) (by kernel_rfl) (by kernel_rfl) (by kernel_rfl) (fun _ _ _ h => h) (Or.inl ⟨by rfl, ?_⟩) ?_
          rotate_left
          · (intro w; go_simp; try with_reducible rfl)
          (try simp only [Act.put, List.setIfInBounds_toArray, List.set_cons_zero, List.set_cons_succ])
          refine wpAny_take (i := 8) (v := ?_) (List.getElem?_toArray.trans rfl) (by kernel_rfl) (by kernel_rfl) (by kernel_rfl) (fun _ _ _ h => h) (Or.inl ⟨by rfl, ?_⟩) ?_
          rotate_left
          · (intro w; go_simp; try with_reducible rfl)
          (try simp only [Act.put, List.setIfInBounds_toArray, List.set_cons_zero, List.set_cons_succ])
          refine wpAny_ready (rs := [4, 9]) (by kernel_rfl) (by simp) (AllReady.cons (List.getElem?_toArray.trans rfl) (fun K hK => ?_) (AllReady.cons (List.getElem?_toArray.trans rfl) (fun K hK => ?_) AllReady.nil))
          · go_simp
            refine hK _ _ ?_
            clear hK K
            (try simp only [Act.put, List.setIfInBounds_toArray, List.set_cons_zero, List.set_cons_succ])
            refine wpAny_ready (rs := [9]) (by kernel_rfl) (by simp) (AllReady.cons (List.getElem?_toArray.trans rfl) (fun K hK => ?_) AllReady.nil)
            go_simp
            refine hK _ _ ?_
            clear hK K
            (try simp only [Act.put, List.setIfInBounds_toArray, List.set_cons_zero, List.set_cons_succ])
            refine wpAny_take (i := 10) (v := ?_) (List.getElem?_toArray.trans rfl) (by kernel_rfl) (by kernel_rfl) (by kernel_rfl) (fun _ _ _ h => h) (Or.inl ⟨by rfl, ?_⟩) ?_
            rotate_left
            · (intro w; go_simp; try with_reducible rfl)
            (try simp only [Act.put, List.setIfInBounds_toArray, List.set_cons_zero, List.set_cons_succ])
            refine wpAny_ready (rs := [11]) (by kernel_rfl) (by simp) (AllReady.cons (List.getElem?_toArray.trans rfl) (fun K hK => ?_) AllReady.nil)
            go_simp
            refine hK _ _ ?_
            clear hK K
            (try simp only [Act.put, List.setIfInBounds_toArray, List.set_cons_zero, List.set_cons_succ])
            refine wpAny_ready (rs := [12]) (by kernel_rfl) (by simp) (AllReady.cons (List.getElem?_toArray.trans rfl) (fun K hK => ?_) AllReady.nil)
            refine step_append_ow (w0 := w) w.heap.size (by rfl) (.tmp 49) (.tmp 60) rfl v (mixR F b t) [Go.bits .xor .u8 y1 y2] (some ⟨w2.heap.size, 0, none⟩) 1 1 rfl rfl (Kd.R_alloc (Kd.R_drew hO2.out) _) (one_BM w2.drew _) ((hB2).drew.alloc (by exact (hB2).size) _) (by exact Nat.le_trans (hB2).size (by simp)) (by rw [hol.out]; omega) ?_
            intro v5 w5 ho5 hb5 hg5 ha5
            refine hK _ _ ?_
            clear hK K
            (try simp only [Act.put, List.setIfInBounds_toArray, List.set_cons_zero, List.set_cons_succ])
            refine wpAny_take (i := 13) (v := ?_) (List.getElem?_toArray.trans rfl) (by kernel_rfl) (by kernel_rfl) (by kernel_rfl) (fun _ _ _ h => h) (Or.inl ⟨by rfl, ?_⟩) ?_
            rotate_left
            · (intro w; go_simp; try with_reducible rfl)
            (try simp only [Act.put, List.setIfInBounds_toArray, List.set_cons_zero, List.set_cons_succ])
            refine wpAny_done (by kernel_rfl) ?_ _
            have HO5 : Aside0 (Ow w5 w.heap.size v5 (mixR F b (t + 1))) := ⟨by rw [hnx.out]; exact ho5⟩
            have hvl := ow_ltM hO2.out
            have HX5 : Ow w5 w.heap.size (.slice (some ⟨gx, 0, none⟩) 64 cx) S := Kd.R_mono (Kd.R_step (Kd.R_tight rfl (Kd.R_alloc (Kd.R_drew HXO.out) _)) (fun q hq hlt => hg5.block q hlt (fun e => by
              have hq' : q = gx := by simpa [Value.ownBlock] using hq
              exact hNE2.out gx (by rfl) (by rw [← hq']; exact e.symm)))) (fun _ _ => trivial)
            have HX6 : Aside0 ((t + 1) % 64 ≠ 0 → Ow w5 w.heap.size (.slice (some ⟨gx, 0, none⟩) 64 cx) (chaS k o (m + (((t + 1) / 64 : Nat) : Int)))) := ⟨fun h => by rw [show (t + 1) / 64 = q by have := HQ.out; omega, HSS.out]; exact HX5⟩
            have HN5 : Aside0 (∀ q, (Value.slice (some ⟨gx, 0, none⟩) 64 cx).ownBlock = some q → v5.ownBlock ≠ some q) := ⟨fun q hq => by
              have hq' : gx = q := by simpa [Value.ownBlock] using hq
              subst hq'
              rcases ha5 with e | ⟨q', e, hq'⟩
              · rw [e]; exact hNE2.out gx rfl
              · rw [e]; intro e'; injection e' with e'; simp at hq'; omega⟩
            clear ho5 hg5 ha5
            go_wp2_with fail
            go_roundw
            case rel => exact ⟨t + 1, v5, _, by omega, by go_num, rfl, rfl, HO5, HX6, HN5, hb5⟩
            case measure => simp [intOf]; omega
          · go_simp
            refine hK _ _ ?_
            clear hK K
            (try simp only [Act.put, List.setIfInBounds_toArray, List.set_cons_zero, List.set_cons_succ])
            refine wpAny_ready (rs := [4]) (by kernel_rfl) (by simp) (AllReady.cons (List.getElem?_toArray.trans rfl) (fun K hK => ?_) AllReady.nil)
            go_simp
            refine hK _ _ ?_
            clear hK K
            (try simp only [Act.put, List.setIfInBounds_toArray, List.set_cons_zero, List.set_cons_succ])
            refine wpAny_take (i := 10) (v := ?_) (List.getElem?_toArray.trans rfl) (by kernel_rfl) (by kernel_rfl) (by kernel_rfl) (fun _ _ _ h => h) (Or.inl ⟨by rfl, ?_⟩) ?_
            rotate_left
            · (intro w; go_simp; try with_reducible rfl)
            (try simp only [Act.put, List.setIfInBounds_toArray, List.set_cons_zero, List.set_cons_succ])
            refine wpAny_ready (rs := [11]) (by kernel_rfl) (by simp) (AllReady.cons (List.getElem?_toArray.trans rfl) (fun K hK => ?_) AllReady.nil)
            go_simp
            refine hK _ _ ?_
            clear hK K
            (try simp only [Act.put, List.setIfInBounds_toArray, List.set_cons_zero, List.set_cons_succ])
            refine wpAny_ready (rs := [12]) (by kernel_rfl) (by simp) (AllReady.cons (List.getElem?_toArray.trans rfl) (fun K hK => ?_) AllReady.nil)
            refine step_append_ow (w0 := w) w.heap.size (by rfl) (.tmp 49) (.tmp 60) rfl v (mixR F b t) [Go.bits .xor .u8 y1 y2] (some ⟨w2.heap.size, 0, none⟩) 1 1 rfl rfl (Kd.R_alloc (Kd.R_drew hO2.out) _) (one_BM w2.drew _) ((hB2).drew.alloc (by exact (hB2).size) _) (by exact Nat.le_trans (hB2).size (by simp)) (by rw [hol.out]; omega) ?_
            intro v5 w5 ho5 hb5 hg5 ha5
            refine hK _ _ ?_
            clear hK K
            (try simp only [Act.put, List.setIfInBounds_toArray, List.set_cons_zero, List.set_cons_succ])
            refine wpAny_take (i := 13) (v := ?_) (List.getElem?_toArray.trans rfl) (by kernel_rfl) (by kernel_rfl) (by kernel_rfl) (fun _ _ _ h => h) (Or.inl ⟨by rfl, ?_⟩) ?_
            rotate_left
            · (intro w; go_simp; try with_reducible rfl)
            (try simp only [Act.put, List.setIfInBounds_toArray, List.set_cons_zero, List.set_cons_succ])
            refine wpAny_done (by kernel_rfl) ?_ _
            have HO5 : Aside0 (Ow w5 w.heap.size v5 (mixR F b (t + 1))) := ⟨by rw [hnx.out]; exact ho5⟩
            have hvl := ow_ltM hO2.out
            have HX5 : Ow w5 w.heap.size (.slice (some ⟨gx, 0, none⟩) 64 cx) S := Kd.R_mono (Kd.R_step (Kd.R_tight rfl (Kd.R_alloc (Kd.R_drew HXO.out) _)) (fun q hq hlt => hg5.block q hlt (fun e => by
              have hq' : q = gx := by simpa [Value.ownBlock] using hq
              exact hNE2.out gx (by rfl) (by rw [← hq']; exact e.symm)))) (fun _ _ => trivial)
            have HX6 : Aside0 ((t + 1) % 64 ≠ 0 → Ow w5 w.heap.size (.slice (some ⟨gx, 0, none⟩) 64 cx) (chaS k o (m + (((t + 1) / 64 : Nat) : Int)))) := ⟨fun h => by rw [show (t + 1) / 64 = q by have := HQ.out; omega, HSS.out]; exact HX5⟩
            have HN5 : Aside0 (∀ q, (Value.slice (some ⟨gx, 0, none⟩) 64 cx).ownBlock = some q → v5.ownBlock ≠ some q) := ⟨fun q hq => by
              have hq' : gx = q := by simpa [Value.ownBlock] using hq
              subst hq'
              rcases ha5 with e | ⟨q', e, hq'⟩
              · rw [e]; exact hNE2.out gx rfl
              · rw [e]; intro e'; injection e' with e'; simp at hq'; omega⟩
            clear ho5 hg5 ha5
            go_wp2_with fail
            go_roundw
            case rel => exact ⟨t + 1, v5, _, by omega, by go_num, rfl, rfl, HO5, HX6, HN5, hb5⟩
            case measure => simp [intOf]; omega
        · have hz' : ¬ (r : Int) = 0 := by omega
          have hxl := Aside0.mk (hX.out hz)
          obtain ⟨gx, cx, hxe, hx0, hx1, -⟩ := Kd.R_form hxl.out (by rw [HSL.out]; decide)
          have hxo := hxl.out
          rw [hxe, HSL.out] at hxo
          have hxeA := Aside0.mk hxe
          subst hxe
          rw [HSL.out]
          have kx := (ow_cellN hxo r (by omega)).1
          try simp only [Int.natCast_zero, Int.cast_ofNat_Int, Nat.cast_ofNat] at kx
          have hRB := HB.out.below hBl
          obtain ⟨ad, rfl, hcb⟩ := rd_cells hRB (by omega)
          have kb := hcb t _ (nums_get .u8 b t (by rw [HBL.out]; omega))
          have e7 : (r : Int) < 64 := by omega
          have hol : Aside0 ((mixR F b t).length = t) := ⟨mixR_length F b t⟩
          have hnx : Aside0 (mixR F b (t + 1) = mixR F b t ++ [Go.bits .xor .u8 (b.getD t 0) (S.getD r 0)]) := ⟨by
            have hf : F t = S.getD r 0 := by rw [← HFF.out, ks_cha HL.out.1 HL.out.2, ← HSS.out, HQ.out, HR.out]
            rw [← hf]; rfl⟩
          obtain ⟨y1, HY1⟩ : ∃ z, Aside0 (b.getD t 0 = z) := ⟨_, ⟨rfl⟩⟩
          obtain ⟨y2, HY2⟩ : ∃ z, Aside0 (S.getD r 0 = z) := ⟨_, ⟨rfl⟩⟩
          rw [HY1.out] at kb hnx
          rw [HY2.out] at kx hnx
          have HXO := Aside0.mk hxo
          have HRB := Aside0.mk hRB
          clear hxo hRB hcb
          have hwc : (Go.bits .xor .u8 y1 y2) = Go.bits .xor .u8 y1 y2 := rfl
          go_wp2_with fail
          refine wp_region_any (by kernel_rfl) ?_
          (try (change wpAny _ _ _ _ _ _ _ (World.drew _)))
          refine wpAny_take (i := 0) (v := ?_) (List.getElem?_toArray.trans rfl) (by kernel_rfl) (by kernel_rfl) (by kernel_rfl) (fun _ _ _ h => h) (Or.inl ⟨by rfl, ?_⟩) ?_
          rotate_left
          · (intro w; go_simp; try with_reducible rfl)
          (try simp only [Act.put, List.setIfInBounds_toArray, List.set_cons_zero, List.set_cons_succ])
          refine wpAny_take (i := 1) (v := ?_) (List.getElem?_toArray.trans rfl) (by kernel_rfl) (by kernel_rfl) (by kernel_rfl) (fun _ _ _ h => h) (Or.inl ⟨by rfl, ?_⟩) ?_
          rotate_left
          · (intro w; go_simp; try with_reducible rfl)
          (try simp only [Act.put, List.setIfInBounds_toArray, List.set_cons_zero, List.set_cons_succ])
          refine wpAny_take (i := 2) (v := ?_) (List.getElem?_toArray.trans rfl) (by kernel_rfl) (by kernel_rfl) (by kernel_rfl) (fun _ _ _ h => h) (Or.inl ⟨by rfl, ?_⟩) ?_
          rotate_left
          · (intro w; go_simp; try with_reducible rfl)
          (try simp only [Act.put, List.setIfInBounds_toArray, List.set_cons_zero, List.set_cons_succ])
          refine wpAny_take (i := 3) (v := ?_) (List.getElem?_toArray.trans rfl) (by kernel_rfl) (by kernel_rfl) (by kernel_rfl) (fun _ _ _ h => h) (Or.inl ⟨by rfl, ?_⟩) ?_
          rotate_left
          · (intro w; go_simp; try with_reducible rfl)
          (try simp only [Act.put, List.setIfInBounds_toArray, List.set_cons_zero, List.set_cons_succ])
          refine wpAny_take (i := 5) (v := ?_) (List.getElem?_toArray.trans rfl) (by kernel_rfl) (by kernel_rfl) (by kernel_rfl) (fun _ _ _ h => h) (Or.inl ⟨by rfl, ?_⟩) ?_
          rotate_left
          · (intro w; go_simp; try with_reducible rfl)
          (try simp only [Act.put, List.setIfInBounds_toArray, List.set_cons_zero, List.set_cons_succ])
          refine wpAny_take (i := 6) (v := ?_) (List.getElem?_toArray.trans rfl) (by kernel_rfl) (by kernel_rfl) (by kernel_rfl) (fun _ _ _ h => h) (Or.inl ⟨by rfl, ?_⟩) ?_
          rotate_left
          · (intro w; go_simp; try with_reducible rfl)
          (try simp only [Act.put, List.setIfInBounds_toArray, List.set_cons_zero, List.set_cons_succ])
          refine wpAny_take (i := 7) (v := ?_) (List.getElem?_toArray.trans rfl) (by kernel_rfl) (by kernel_rfl) (by kernel_rfl) (fun _ _ _ h => h) (Or.inl ⟨by rfl, ?_⟩) ?_
          rotate_left
          · (intro w; go_simp; try with_reducible rfl)
          (try simp only [Act.put, List.setIfInBounds_toArray, List.set_cons_zero, List.set_cons_succ])
          refine wpAny_take (i := 8) (v := ?_) (List.getElem?_toArray.trans rfl) (by kernel_rfl) (by kernel_rfl) (by kernel_rfl) (fun _ _ _ h => h) (Or.inl ⟨by rfl, ?_⟩) ?_
          rotate_left
          · (intro w; go_simp; try with_reducible rfl)
          (try simp only [Act.put, List.setIfInBounds_toArray, List.set_cons_zero, List.set_cons_succ])
          refine wpAny_ready (rs := [4, 9]) (by kernel_rfl) (by simp) (AllReady.cons (List.getElem?_toArray.trans rfl) (fun K hK => ?_) (AllReady.cons (List.getElem?_toArray.trans rfl) (fun K hK => ?_) AllReady.nil))
          · go_simp
            refine hK _ _ ?_
            clear hK K
            (try simp only [Act.put, List.setIfInBounds_toArray, List.set_cons_zero, List.set_cons_succ])
            refine wpAny_ready (rs := [9]) (by kernel_rfl) (by simp) (AllReady.cons (List.getElem?_toArray.trans rfl) (fun K hK => ?_) AllReady.nil)
            go_simp
            refine hK _ _ ?_
            clear hK K
            (try simp only [Act.put, List.setIfInBounds_toArray, List.set_cons_zero, List.set_cons_succ])
            refine wpAny_take (i := 10) (v := ?_) (List.getElem?_toArray.trans rfl) (by kernel_rfl) (by kernel_rfl) (by kernel_rfl) (fun _ _ _ h => h) (Or.inl ⟨by rfl, ?_⟩) ?_
            rotate_left
            · (intro w; go_simp; try with_reducible rfl)
            (try simp only [Act.put, List.setIfInBounds_toArray, List.set_cons_zero, List.set_cons_succ])
            refine wpAny_ready (rs := [11]) (by kernel_rfl) (by simp) (AllReady.cons (List.getElem?_toArray.trans rfl) (fun K hK => ?_) AllReady.nil)
            go_simp
            refine hK _ _ ?_
            clear hK K
            (try simp only [Act.put, List.setIfInBounds_toArray, List.set_cons_zero, List.set_cons_succ])
            refine wpAny_ready (rs := [12]) (by kernel_rfl) (by simp) (AllReady.cons (List.getElem?_toArray.trans rfl) (fun K hK => ?_) AllReady.nil)
            refine step_append_ow (w0 := w) w.heap.size (by rfl) (.tmp 49) (.tmp 60) rfl v (mixR F b t) [Go.bits .xor .u8 y1 y2] (some ⟨wr.heap.size, 0, none⟩) 1 1 rfl rfl (Kd.R_alloc (Kd.R_drew hO.out) _) (one_BM wr.drew _) ((hBl).drew.alloc (by exact (hBl).size) _) (by exact Nat.le_trans (hBl).size (by simp)) (by rw [hol.out]; omega) ?_
            intro v5 w5 ho5 hb5 hg5 ha5
            refine hK _ _ ?_
            clear hK K
            (try simp only [Act.put, List.setIfInBounds_toArray, List.set_cons_zero, List.set_cons_succ])
            refine wpAny_take (i := 13) (v := ?_) (List.getElem?_toArray.trans rfl) (by kernel_rfl) (by kernel_rfl) (by kernel_rfl) (fun _ _ _ h => h) (Or.inl ⟨by rfl, ?_⟩) ?_
            rotate_left
            · (intro w; go_simp; try with_reducible rfl)
            (try simp only [Act.put, List.setIfInBounds_toArray, List.set_cons_zero, List.set_cons_succ])
            refine wpAny_done (by kernel_rfl) ?_ _
            have HO5 : Aside0 (Ow w5 w.heap.size v5 (mixR F b (t + 1))) := ⟨by rw [hnx.out]; exact ho5⟩
            have hvl := ow_ltM hO.out
            have HX5 : Ow w5 w.heap.size (.slice (some ⟨gx, 0, none⟩) 64 cx) S := Kd.R_mono (Kd.R_step (Kd.R_tight rfl (Kd.R_alloc (Kd.R_drew HXO.out) _)) (fun q hq hlt => hg5.block q hlt (fun e => by
              have hq' : q = gx := by simpa [Value.ownBlock] using hq
              exact hNE.out gx (by rfl) (by rw [← hq']; exact e.symm)))) (fun _ _ => trivial)
            have HX6 : Aside0 ((t + 1) % 64 ≠ 0 → Ow w5 w.heap.size (.slice (some ⟨gx, 0, none⟩) 64 cx) (chaS k o (m + (((t + 1) / 64 : Nat) : Int)))) := ⟨fun h => by rw [show (t + 1) / 64 = q by have := HQ.out; omega, HSS.out]; exact HX5⟩
            have HN5 : Aside0 (∀ q, (Value.slice (some ⟨gx, 0, none⟩) 64 cx).ownBlock = some q → v5.ownBlock ≠ some q) := ⟨fun q hq => by
              have hq' : gx = q := by simpa [Value.ownBlock] using hq
              subst hq'
              rcases ha5 with e | ⟨q', e, hq'⟩
              · rw [e]; exact hNE.out gx rfl
              · rw [e]; intro e'; injection e' with e'; simp at hq'; omega⟩
            clear ho5 hg5 ha5
            go_wp2_with fail
            go_roundw
            case rel => exact ⟨t + 1, v5, _, by omega, by go_num, rfl, rfl, HO5, HX6, HN5, hb5⟩
            case measure => simp [intOf]; omega
          · go_simp
            refine hK _ _ ?_
            clear hK K
            (try simp only [Act.put, List.setIfInBounds_toArray, List.set_cons_zero, List.set_cons_succ])
            refine wpAny_ready (rs := [4]) (by kernel_rfl) (by simp) (AllReady.cons (List.getElem?_toArray.trans rfl) (fun K hK => ?_) AllReady.nil)
            go_simp
            refine hK _ _ ?_
            clear hK K
            (try simp only [Act.put, List.setIfInBounds_toArray, List.set_cons_zero, List.set_cons_succ])
            refine wpAny_take (i := 10) (v := ?_) (List.getElem?_toArray.trans rfl) (by kernel_rfl) (by kernel_rfl) (by kernel_rfl) (fun _ _ _ h => h) (Or.inl ⟨by rfl, ?_⟩) ?_
            rotate_left
            · (intro w; go_simp; try with_reducible rfl)
            (try simp only [Act.put, List.setIfInBounds_toArray, List.set_cons_zero, List.set_cons_succ])
            refine wpAny_ready (rs := [11]) (by kernel_rfl) (by simp) (AllReady.cons (List.getElem?_toArray.trans rfl) (fun K hK => ?_) AllReady.nil)
            go_simp
            refine hK _ _ ?_
            clear hK K
            (try simp only [Act.put, List.setIfInBounds_toArray, List.set_cons_zero, List.set_cons_succ])
            refine wpAny_ready (rs := [12]) (by kernel_rfl) (by simp) (AllReady.cons (List.getElem?_toArray.trans rfl) (fun K hK => ?_) AllReady.nil)
            refine step_append_ow (w0 := w) w.heap.size (by rfl) (.tmp 49) (.tmp 60) rfl v (mixR F b t) [Go.bits .xor .u8 y1 y2] (some ⟨wr.heap.size, 0, none⟩) 1 1 rfl rfl (Kd.R_alloc (Kd.R_drew hO.out) _) (one_BM wr.drew _) ((hBl).drew.alloc (by exact (hBl).size) _) (by exact Nat.le_trans (hBl).size (by simp)) (by rw [hol.out]; omega) ?_
            intro v5 w5 ho5 hb5 hg5 ha5
            refine hK _ _ ?_
            clear hK K
            (try simp only [Act.put, List.setIfInBounds_toArray, List.set_cons_zero, List.set_cons_succ])
            refine wpAny_take (i := 13) (v := ?_) (List.getElem?_toArray.trans rfl) (by kernel_rfl) (by kernel_rfl) (by kernel_rfl) (fun _ _ _ h => h) (Or.inl ⟨by rfl, ?_⟩) ?_
            rotate_left
            · (intro w; go_simp; try with_reducible rfl)
            (try simp only [Act.put, List.setIfInBounds_toArray, List.set_cons_zero, List.set_cons_succ])
            refine wpAny_done (by kernel_rfl) ?_ _
            have HO5 : Aside0 (Ow w5 w.heap.size v5 (mixR F b (t + 1))) := ⟨by rw [hnx.out]; exact ho5⟩
            have hvl := ow_ltM hO.out
            have HX5 : Ow w5 w.heap.size (.slice (some ⟨gx, 0, none⟩) 64 cx) S := Kd.R_mono (Kd.R_step (Kd.R_tight rfl (Kd.R_alloc (Kd.R_drew HXO.out) _)) (fun q hq hlt => hg5.block q hlt (fun e => by
              have hq' : q = gx := by simpa [Value.ownBlock] using hq
              exact hNE.out gx (by rfl) (by rw [← hq']; exact e.symm)))) (fun _ _ => trivial)
            have HX6 : Aside0 ((t + 1) % 64 ≠ 0 → Ow w5 w.heap.size (.slice (some ⟨gx, 0, none⟩) 64 cx) (chaS k o (m + (((t + 1) / 64 : Nat) : Int)))) := ⟨fun h => by rw [show (t + 1) / 64 = q by have := HQ.out; omega, HSS.out]; exact HX5⟩
            have HN5 : Aside0 (∀ q, (Value.slice (some ⟨gx, 0, none⟩) 64 cx).ownBlock = some q → v5.ownBlock ≠ some q) := ⟨fun q hq => by
              have hq' : gx = q := by simpa [Value.ownBlock] using hq
              subst hq'
              rcases ha5 with e | ⟨q', e, hq'⟩
              · rw [e]; exact hNE.out gx rfl
              · rw [e]; intro e'; injection e' with e'; simp at hq'; omega⟩
            clear ho5 hg5 ha5
            go_wp2_with fail
            go_roundw
            case rel => exact ⟨t + 1, v5, _, by omega, by go_num, rfl, rfl, HO5, HX6, HN5, hb5⟩
            case measure => simp [intOf]; omega
      · have hge : ¬ (t : Int) < (n : Int) := by omega
        have HFIN : Aside0 (Ow wr w.heap.size v (mixT F b n)) := ⟨by have h9 := hO.out; rw [show t = n by omega] at h9; have h8 := mixR_eq F b; rw [HBL.out] at h8; rw [← h8]; exact h9⟩
        clear hO hX hNE
        go_wp2_with fail
        go_ret2
        rw [HFF.out]
        exact ⟨_, rfl, HFIN.out, hBl⟩
  · have hr' : ¬ (0 : Int) < (rn : Int) := by omega
    have hc : ¬ 4294967296 - m < (qn : Int) := by have := HQN.out; have := HRN.out; omega
    go_enter Try.func24, Try.ntmps24
    go_wp2_with fail
    refine (refRight_c HK.out HO.out).mono ?_
    rintro x w1 ⟨rfl, ⟨n1, rfl⟩⟩
    rw [hrc]
    go_wp2_with fail
    obtain ⟨F, HFF⟩ : ∃ F : Nat → Int, Aside0 (ks (g0S k o) m = F) := ⟨_, ⟨rfl⟩⟩
    have HD := Aside0.mk (pw_below_drewN HD0.out n1)
    have H0 : Aside0 (Ow (w.drewN n1) w.heap.size (.slice none 0 0) (mixR F b 0)) := ⟨Kd.R_nil _ _ _ _ _⟩
    have H1 : Aside0 (0 % 64 ≠ 0 → Ow (w.drewN n1) w.heap.size (.slice none 0 0) (chaS k o (m + ((0 / 64 : Nat) : Int)))) := ⟨fun h => absurd rfl h⟩
    have H2 : Aside0 (∀ q, (Value.slice none 0 0).ownBlock = some q → (Value.slice none 0 0).ownBlock ≠ some q) := ⟨fun q hq => by cases hq⟩
    go_loopw [13, 11, 12] (fun i vo vx wr => ∃ (t : Nat) (v x : Value), t ≤ n ∧ i = .int .i64 t ∧ v = vo ∧ x = vx ∧ Aside0 (Ow wr w.heap.size v (mixR F b t)) ∧ Aside0 (t % 64 ≠ 0 → Ow wr w.heap.size x (chaS k o (m + ((t / 64 : Nat) : Int)))) ∧ Aside0 (∀ q, x.ownBlock = some q → v.ownBlock ≠ some q) ∧ Below w.heap.size w wr) (fun i _ _ _ => n - (intOf i).toNat)
    case atStart => exact ⟨0, _, _, by omega, rfl, rfl, rfl, H0, H1, H2, HD.out⟩
    case round =>
      clear H0 H1 H2
      obtain ⟨t, v, x, ht, rfl, rfl, rfl, hO, hX, hNE, hBl⟩ := hrel
      by_cases hlt : t < n
      · have hlt' : (t : Int) < (n : Int) := by omega
        obtain ⟨q, HQ⟩ : ∃ z, Aside0 (t / 64 = z) := ⟨_, ⟨rfl⟩⟩
        obtain ⟨r, HR⟩ : ∃ z, Aside0 (t % 64 = z) := ⟨_, ⟨rfl⟩⟩
        have e3 : Int.tdiv (t : Int) 64 = (q : Int) := by rw [Int.tdiv_eq_ediv_of_nonneg (by omega)]; have := HQ.out; omega
        have e3' : Int.tmod (t : Int) 64 = (r : Int) := by rw [Int.tmod_eq_emod_of_nonneg (by omega)]; have := HR.out; omega
        have e7' : r < 64 := by have := HR.out; omega
        have e8 : m + (q : Int) < 4294967296 := by have := HQ.out; omega
        have e8' : q ≤ 20000 := by have := HQ.out; omega
        rw [HQ.out, HR.out] at hX
        obtain ⟨S, HSS⟩ : ∃ z, Aside0 (chaS k o (m + (q : Int)) = z) := ⟨_, ⟨rfl⟩⟩
        have HSL : Aside0 (S.length = 64) := ⟨by rw [← HSS.out]; exact blkS_length _⟩
        rw [HSS.out] at hX
        by_cases hz : r = 0
        · subst hz
          have e4 : (q : Int) % 4294967296 = (q : Int) := by omega
          have e5 : (m + (q : Int)) % 4294967296 = m + (q : Int) := by omega
          go_wp2_with fail
          refine (refBlock_c (HK.out.below hBl) (HO.out.below hBl) bk bo (by omega) (by omega)).mono ?_
          rintro y w2 ⟨xv, rfl, hxo2, hb2⟩
          rw [HSS.out] at hxo2
          have hO2 := Aside0.mk (Kd.R_below hO.out hb2)
          have hB2 := below_next hBl hb2
          have hNE2 : Aside0 (∀ q, xv.ownBlock = some q → v.ownBlock ≠ some q) := ⟨fun q hq e => by have a1 := ow_geM hxo2 q hq; have a2 := ow_ltM hO.out q e; omega⟩
          have hxl := Aside0.mk (Kd.R_lower hxo2 hBl.size)
          clear hxo2 hb2 hX hNE hO
          obtain ⟨gx, cx, hxe, hx0, hx1, -⟩ := Kd.R_form hxl.out (by rw [HSL.out]; decide)
          have hxo := hxl.out
          rw [hxe, HSL.out] at hxo
          have hxeA := Aside0.mk hxe
          subst hxe
          rw [HSL.out]
          have kx := (ow_cellN hxo 0 (by omega)).1
          try simp only [Int.natCast_zero, Int.cast_ofNat_Int, Nat.cast_ofNat] at kx
          have hRB := HB.out.below hB2
          obtain ⟨ad, rfl, hcb⟩ := rd_cells hRB (by omega)
          have kb := hcb t _ (nums_get .u8 b t (by rw [HBL.out]; omega))
          have e7 : (0 : Int) < 64 := by omega
          have hol : Aside0 ((mixR F b t).length = t) := ⟨mixR_length F b t⟩
          have hnx : Aside0 (mixR F b (t + 1) = mixR F b t ++ [Go.bits .xor .u8 (b.getD t 0) (S.getD 0 0)]) := ⟨by
            have hf : F t = S.getD 0 0 := by rw [← HFF.out, ks_cha HL.out.1 HL.out.2, ← HSS.out, HQ.out, HR.out]
            rw [← hf]; rfl⟩
          obtain ⟨y1, HY1⟩ : ∃ z, Aside0 (b.getD t 0 = z) := ⟨_, ⟨rfl⟩⟩
          obtain ⟨y2, HY2⟩ : ∃ z, Aside0 (S.getD 0 0 = z) := ⟨_, ⟨rfl⟩⟩
          rw [HY1.out] at kb hnx
          rw [HY2.out] at kx hnx
          have HXO := Aside0.mk hxo
          have HRB := Aside0.mk hRB
          clear hxo hRB hcb
          have hwc : (Go.bits .xor .u8 y1 y2) = Go.bits .xor .u8 y1 y2 := rfl
          go_wp2_with fail
          refine wp_region_any (by kernel_rfl) ?_
          (try (change wpAny _ _ _ _ _ _ _ (World.drew _)))
          refine wpAny_take (i := 0) (v := ?_) (List.getElem?_toArray.trans rfl) (by kernel_rfl) (by kernel_rfl) (by kernel_rfl) (fun _ _ _ h => h) (Or.inl ⟨by rfl, ?_⟩) ?_
          rotate_left
          · (intro w; go_simp; try with_reducible rfl)
          (try simp only [Act.put, List.setIfInBounds_toArray, List.set_cons_zero, List.set_cons_succ])
          refine wpAny_take (i := 1) (v := ?_) (List.getElem?_toArray.trans rfl) (by kernel_rfl) (by kernel_rfl) (by kernel_rfl) (fun _ _ _ h => h) (Or.inl ⟨by rfl, ?_⟩) ?_
          rotate_left
          · (intro w; go_simp; try with_reducible rfl)
          (try simp only [Act.put, List.setIfInBounds_toArray, List.set_cons_zero, List.set_cons_succ])
          refine wpAny_take (i := 2) (v := ?_) (List.getElem?_toArray.trans rfl) (by kernel_rfl) (by kernel_rfl) (by kernel_rfl) (fun _ _ _ h => h) (Or.inl ⟨by rfl, ?_⟩) ?_
          rotate_left
          · (intro w; go_simp; try with_reducible rfl)
          (try simp only [Act.put, List.setIfInBounds_toArray, List.set_cons_zero, List.set_cons_succ])
          refine wpAny_take (i := 3) (v := ?_) (List.getElem?_toArray.trans rfl) (by kernel_rfl) (by kernel_rfl) (by kernel_rfl) (fun _ _ _ h => h) (Or.inl ⟨by rfl, ?_⟩) ?_
          rotate_left
          · (intro w; go_simp; try with_reducible rfl)
          (try simp only [Act.put, List.setIfInBounds_toArray, List.set_cons_zero, List.set_cons_succ])
          refine wpAny_take (i := 5) (v := ?_) (List.getElem?_toArray.trans rfl) (by kernel_rfl) (by kernel_rfl) (by kernel_rfl) (fun _ _ _ h => h) (Or.inl ⟨by rfl, ?_⟩) ?_
          rotate_left
          · (intro w; go_simp; try with_reducible rfl)
          (try simp only [Act.put, List.setIfInBounds_toArray, List.set_cons_zero, List.set_cons_succ])
          refine wpAny_take (i := 6) (v := ?_) (List.getElem?_toArray.trans rfl) (by kernel_rfl) (by kernel_rfl) (by kernel_rfl) (fun _ _ _ h => h) (Or.inl ⟨by rfl, ?_⟩) ?_
          rotate_left
          · (intro w; go_simp; try with_reducible rfl)
          (try simp only [Act.put, List.setIfInBounds_toArray, List.set_cons_zero, List.set_cons_succ])
          refine wpAny_take (i := 7) (v := ?_) (List.getElem?_toArray.trans rfl) (by kernel_rfl) (by kernel_rfl) (by kernel_rfl) (fun _ _ _ h => h) (Or.inl ⟨by rfl, ?_⟩) ?_
          rotate_left
          · (intro w; go_simp; try with_reducible rfl)
          (try simp only [Act.put, List.setIfInBounds_toArray, List.set_cons_zero, List.set_cons_succ])
          refine wpAny_take (i := 8) (v := ?_) (List.getElem?_toArray.trans rfl) (by kernel_rfl) (by kernel_rfl) (by kernel_rfl) (fun _ _ _ h => h) (Or.inl ⟨by rfl, ?_⟩) ?_
          rotate_left
          · (intro w; go_simp; try with_reducible rfl)
          (try simp only [Act.put, List.setIfInBounds_toArray, List.set_cons_zero, List.set_cons_succ])
          refine wpAny_ready (rs := [4, 9]) (by kernel_rfl) (by simp) (AllReady.cons (List.getElem?_toArray.trans rfl) (fun K hK => ?_) (AllReady.cons (List.getElem?_toArray.trans rfl) (fun K hK => ?_) AllReady.nil))
          · go_simp
            refine hK _ _ ?_
            clear hK K
            (try simp only [Act.put, List.setIfInBounds_toArray, List.set_cons_zero, List.set_cons_succ])
            refine wpAny_ready (rs := [9]) (by kernel_rfl) (by simp) (AllReady.cons (List.getElem?_toArray.trans rfl) (fun K hK => ?_) AllReady.nil)
            go_simp
            refine hK _ _ ?_
            clear hK K
            (try simp only [Act.put, List.setIfInBounds_toArray, List.set_cons_zero, List.set_cons_succ])
            refine wpAny_take (i := 10) (v := ?_) (List.getElem?_toArray.trans rfl) (by kernel_rfl) (by kernel_rfl) (by kernel_rfl) (fun _ _ _ h => h) (Or.inl ⟨by rfl, ?_⟩) ?_
            rotate_left
            · (intro w; go_simp; try with_reducible rfl)
            (try simp only [Act.put, List.setIfInBounds_toArray, List.set_cons_zero, List.set_cons_succ])
            refine wpAny_ready (rs := [11]) (by kernel_rfl) (by simp) (AllReady.cons (List.getElem?_toArray.trans rfl) (fun K hK => ?_) AllReady.nil)
            go_simp
            refine hK _ _ ?_
            clear hK K
            (try simp only [Act.put, List.setIfInBounds_toArray, List.set_cons_zero, List.set_cons_succ])
            refine wpAny_ready (rs := [12]) (by kernel_rfl) (by simp) (AllReady.cons (List.getElem?_toArray.trans rfl) (fun K hK => ?_) AllReady.nil)
            refine step_append_ow (w0 := w) w.heap.size (by rfl) (.tmp 49) (.tmp 60) rfl v (mixR F b t) [Go.bits .xor .u8 y1 y2] (some ⟨w2.heap.size, 0, none⟩) 1 1 rfl rfl (Kd.R_alloc (Kd.R_drew hO2.out) _) (one_BM w2.drew _) ((hB2).drew.alloc (by exact (hB2).size) _) (by exact Nat.le_trans (hB2).size (by simp)) (by rw [hol.out]; omega) ?_
            intro v5 w5 ho5 hb5 hg5 ha5
            refine hK _ _ ?_
            clear hK K
            (try simp only [Act.put, List.setIfInBounds_toArray, List.set_cons_zero, List.set_cons_succ])
            refine wpAny_take (i := 13) (v := ?_) (List.getElem?_toArray.trans rfl) (by kernel_rfl) (by kernel_rfl) (by kernel_rfl) (fun _ _ _ h => h) (Or.inl ⟨by rfl, ?_⟩) ?_
            rotate_left
            · (intro w; go_simp; try with_reducible rfl)
            (try simp only [Act.put, List.setIfInBounds_toArray, List.set_cons_zero, List.set_cons_succ])
            refine wpAny_done (by kernel_rfl) ?_ _
            have HO5 : Aside0 (Ow w5 w.heap.size v5 (mixR F b (t + 1))) := ⟨by rw [hnx.out]; exact ho5⟩
            have hvl := ow_ltM hO2.out
            have HX5 : Ow w5 w.heap.size (.slice (some ⟨gx, 0, none⟩) 64 cx) S := Kd.R_mono (Kd.R_step (Kd.R_tight rfl (Kd.R_alloc (Kd.R_drew HXO.out) _)) (fun q hq hlt => hg5.block q hlt (fun e => by
              have hq' : q = gx := by simpa [Value.ownBlock] using hq
              exact hNE2.out gx (by rfl) (by rw [← hq']; exact e.symm)))) (fun _ _ => trivial)
            have HX6 : Aside0 ((t + 1) % 64 ≠ 0 → Ow w5 w.heap.size (.slice (some ⟨gx, 0, none⟩) 64 cx) (chaS k o (m + (((t + 1) / 64 : Nat) : Int)))) := ⟨fun h => by rw [show (t + 1) / 64 = q by have := HQ.out; omega, HSS.out]; exact HX5⟩
            have HN5 : Aside0 (∀ q, (Value.slice (some ⟨gx, 0, none⟩) 64 cx).ownBlock = some q → v5.ownBlock ≠ some q) := ⟨fun q hq => by
              have hq' : gx = q := by simpa [Value.ownBlock] using hq
              subst hq'
              rcases ha5 with e | ⟨q', e, hq'⟩
              · rw [e]; exact hNE2.out gx rfl
              · rw [e]; intro e'; injection e' with e'; simp at hq'; omega⟩
            clear ho5 hg5 ha5
            go_wp2_with fail
            go_roundw
            case rel => exact ⟨t + 1, v5, _, by omega, by go_num, rfl, rfl, HO5, HX6, HN5, hb5⟩
            case measure => simp [intOf]; omega
          · go_simp
            refine hK _ _ ?_
            clear hK K
            (try simp only [Act.put, List.setIfInBounds_toArray, List.set_cons_zero, List.set_cons_succ])
            refine wpAny_ready (rs := [4]) (by kernel_rfl) (by simp) (AllReady.cons (List.getElem?_toArray.trans rfl) (fun K hK => ?_) AllReady.nil)
            go_simp
            refine hK _ _ ?_
            clear hK K
            (try simp only [Act.put, List.setIfInBounds_toArray, List.set_cons_zero, List.set_cons_succ])
            refine wpAny_take (i := 10) (v := ?_) (List.getElem?_toArray.trans rfl) (by kernel_rfl) (by kernel_rfl) (by kernel_rfl) (fun _ _ _ h => h) (Or.inl ⟨by rfl, ?_⟩) ?_
            rotate_left
            · (intro w; go_simp; try with_reducible rfl)
            (try simp only [Act.put, List.setIfInBounds_toArray, List.set_cons_zero, List.set_cons_succ])
            refine wpAny_ready (rs := [11]) (by kernel_rfl) (by simp) (AllReady.cons (List.getElem?_toArray.trans rfl) (fun K hK => ?_) AllReady.nil)
            go_simp
            refine hK _ _ ?_
            clear hK K
            (try simp only [Act.put, List.setIfInBounds_toArray, List.set_cons_zero, List.set_cons_succ])
            refine wpAny_ready (rs := [12]) (by kernel_rfl) (by simp) (AllReady.cons (List.getElem?_toArray.trans rfl) (fun K hK => ?_) AllReady.nil)
            refine step_append_ow (w0 := w) w.heap.size (by rfl) (.tmp 49) (.tmp 60) rfl v (mixR F b t) [Go.bits .xor .u8 y1 y2] (some ⟨w2.heap.size, 0, none⟩) 1 1 rfl rfl (Kd.R_alloc (Kd.R_drew hO2.out) _) (one_BM w2.drew _) ((hB2).drew.alloc (by exact (hB2).size) _) (by exact Nat.le_trans (hB2).size (by simp)) (by rw [hol.out]; omega) ?_
            intro v5 w5 ho5 hb5 hg5 ha5
            refine hK _ _ ?_
            clear hK K
            (try simp only [Act.put, List.setIfInBounds_toArray, List.set_cons_zero, List.set_cons_succ])
            refine wpAny_take (i := 13) (v := ?_) (List.getElem?_toArray.trans rfl) (by kernel_rfl) (by kernel_rfl) (by kernel_rfl) (fun _ _ _ h => h) (Or.inl ⟨by rfl, ?_⟩) ?_
            rotate_left
            · (intro w; go_simp; try with_reducible rfl)
            (try simp only [Act.put, List.setIfInBounds_toArray, List.set_cons_zero, List.set_cons_succ])
            refine wpAny_done (by kernel_rfl) ?_ _
            have HO5 : Aside0 (Ow w5 w.heap.size v5 (mixR F b (t + 1))) := ⟨by rw [hnx.out]; exact ho5⟩
            have hvl := ow_ltM hO2.out
            have HX5 : Ow w5 w.heap.size (.slice (some ⟨gx, 0, none⟩) 64 cx) S := Kd.R_mono (Kd.R_step (Kd.R_tight rfl (Kd.R_alloc (Kd.R_drew HXO.out) _)) (fun q hq hlt => hg5.block q hlt (fun e => by
              have hq' : q = gx := by simpa [Value.ownBlock] using hq
              exact hNE2.out gx (by rfl) (by rw [← hq']; exact e.symm)))) (fun _ _ => trivial)
            have HX6 : Aside0 ((t + 1) % 64 ≠ 0 → Ow w5 w.heap.size (.slice (some ⟨gx, 0, none⟩) 64 cx) (chaS k o (m + (((t + 1) / 64 : Nat) : Int)))) := ⟨fun h => by rw [show (t + 1) / 64 = q by have := HQ.out; omega, HSS.out]; exact HX5⟩
            have HN5 : Aside0 (∀ q, (Value.slice (some ⟨gx, 0, none⟩) 64 cx).ownBlock = some q → v5.ownBlock ≠ some q) := ⟨fun q hq => by
              have hq' : gx = q := by simpa [Value.ownBlock] using hq
              subst hq'
              rcases ha5 with e | ⟨q', e, hq'⟩
              · rw [e]; exact hNE2.out gx rfl
              · rw [e]; intro e'; injection e' with e'; simp at hq'; omega⟩
            clear ho5 hg5 ha5
            go_wp2_with fail
            go_roundw
            case rel => exact ⟨t + 1, v5, _, by omega, by go_num, rfl, rfl, HO5, HX6, HN5, hb5⟩
            case measure => simp [intOf]; omega
        · have hz' : ¬ (r : Int) = 0 := by omega
          have hxl := Aside0.mk (hX.out hz)
          obtain ⟨gx, cx, hxe, hx0, hx1, -⟩ := Kd.R_form hxl.out (by rw [HSL.out]; decide)
          have hxo := hxl.out
          rw [hxe, HSL.out] at hxo
          have hxeA := Aside0.mk hxe
          subst hxe
          rw [HSL.out]
          have kx := (ow_cellN hxo r (by omega)).1
          try simp only [Int.natCast_zero, Int.cast_ofNat_Int, Nat.cast_ofNat] at kx
          have hRB := HB.out.below hBl
          obtain ⟨ad, rfl, hcb⟩ := rd_cells hRB (by omega)
          have kb := hcb t _ (nums_get .u8 b t (by rw [HBL.out]; omega))
          have e7 : (r : Int) < 64 := by omega
          have hol : Aside0 ((mixR F b t).length = t) := ⟨mixR_length F b t⟩
          have hnx : Aside0 (mixR F b (t + 1) = mixR F b t ++ [Go.bits .xor .u8 (b.getD t 0) (S.getD r 0)]) := ⟨by
            have hf : F t = S.getD r 0 := by rw [← HFF.out, ks_cha HL.out.1 HL.out.2, ← HSS.out, HQ.out, HR.out]
            rw [← hf]; rfl⟩
          obtain ⟨y1, HY1⟩ : ∃ z, Aside0 (b.getD t 0 = z) := ⟨_, ⟨rfl⟩⟩
          obtain ⟨y2, HY2⟩ : ∃ z, Aside0 (S.getD r 0 = z) := ⟨_, ⟨rfl⟩⟩
          rw [HY1.out] at kb hnx
          rw [HY2.out] at kx hnx
          have HXO := Aside0.mk hxo
          have HRB := Aside0.mk hRB
          clear hxo hRB hcb
          have hwc : (Go.bits .xor .u8 y1 y2) = Go.bits .xor .u8 y1 y2 := rfl
          go_wp2_with fail
          refine wp_region_any (by kernel_rfl) ?_
          (try (change wpAny _ _ _ _ _ _ _ (World.drew _)))
          refine wpAny_take (i := 0) (v := ?_) (List.getElem?_toArray.trans rfl) (by kernel_rfl) (by kernel_rfl) (by kernel_rfl) (fun _ _ _ h => h) (Or.inl ⟨by rfl, ?_⟩) ?_
          rotate_left
          · (intro w; go_simp; try with_reducible rfl)
          (try simp only [Act.put, List.setIfInBounds_toArray, List.set_cons_zero, List.set_cons_succ])
          refine wpAny_take (i := 1) (v := ?_) (List.getElem?_toArray.trans rfl) (by kernel_rfl) (by kernel_rfl) (by kernel_rfl) (fun _ _ _ h => h) (Or.inl ⟨by rfl, ?_⟩) ?_
          rotate_left
          · (intro w; go_simp; try with_reducible rfl)
          (try simp only [Act.put, List.setIfInBounds_toArray, List.set_cons_zero, List.set_cons_succ])
          refine wpAny_take (i := 2) (v := ?_) (List.getElem?_toArray.trans rfl) (by kernel_rfl) (by kernel_rfl) (by kernel_rfl) (fun _ _ _ h => h) (Or.inl ⟨by rfl, ?_⟩) ?_
          rotate_left
          · (intro w; go_simp; try with_reducible rfl)
          (try simp only [Act.put, List.setIfInBounds_toArray, List.set_cons_zero, List.set_cons_succ])
          refine wpAny_take (i := 3) (v := ?_) (List.getElem?_toArray.trans rfl) (by kernel_rfl) (by kernel_rfl) (by kernel_rfl) (fun _ _ _ h => h) (Or.inl ⟨by rfl, ?_⟩) ?_
          rotate_left
          · (intro w; go_simp; try with_reducible rfl)
          (try simp only [Act.put, List.setIfInBounds_toArray, List.set_cons_zero, List.set_cons_succ])
          refine wpAny_take (i := 5) (v := ?_) (List.getElem?_toArray.trans rfl) (by kernel_rfl) (by kernel_rfl) (by kernel_rfl) (fun _ _ _ h => h) (Or.inl ⟨by rfl, ?_⟩) ?_
          rotate_left
          · (intro w; go_simp; try with_reducible rfl)
          (try simp only [Act.put, List.setIfInBounds_toArray, List.set_cons_zero, List.set_cons_succ])
          refine wpAny_take (i := 6) (v := ?_) (List.getElem?_toArray.trans rfl) (by kernel_rfl) (by kernel_rfl) (by kernel_rfl) (fun _ _ _ h => h) (Or.inl ⟨by rfl, ?_⟩) ?_
          rotate_left
          · (intro w; go_simp; try with_reducible rfl)
          (try simp only [Act.put, List.setIfInBounds_toArray, List.set_cons_zero, List.set_cons_succ])
          refine wpAny_take (i := 7) (v := ?_) (List.getElem?_toArray.trans rfl) (by kernel_rfl) (by kernel_rfl) (by kernel_rfl) (fun _ _ _ h => h) (Or.inl ⟨by rfl, ?_⟩) ?_
          rotate_left
          · (intro w; go_simp; try with_reducible rfl)
          (try simp only [Act.put, List.setIfInBounds_toArray, List.set_cons_zero, List.set_cons_succ])
          refine wpAny_take (i := 8) (v := ?_) (List.getElem?_toArray.trans rfl) (by kernel_rfl) (by kernel_rfl) (by kernel_rfl) (fun _ _ _ h => h) (Or.inl ⟨by rfl, ?_⟩) ?_
          rotate_left
          · (intro w; go_simp; try with_reducible rfl)
          (try simp only [Act.put, List.setIfInBounds_toArray, List.set_cons_zero, List.set_cons_succ])
          refine wpAny_ready (rs := [4, 9]) (by kernel_rfl) (by simp) (AllReady.cons (List.getElem?_toArray.trans rfl) (fun K hK => ?_) (AllReady.cons (List.getElem?_toArray.trans rfl) (fun K hK => ?_) AllReady.nil))
          · go_simp
            refine hK _ _ ?_
            clear hK K
            (try simp only [Act.put, List.setIfInBounds_toArray, List.set_cons_zero, List.set_cons_succ])
            refine wpAny_ready (rs := [9]) (by kernel_rfl) (by simp) (AllReady.cons (List.getElem?_toArray.trans rfl) (fun K hK => ?_) AllReady.nil)
            go_simp
            refine hK _ _ ?_
            clear hK K
            (try simp only [Act.put, List.setIfInBounds_toArray, List.set_cons_zero, List.set_cons_succ])
            refine wpAny_take (i := 10) (v := ?_) (List.getElem?_toArray.trans rfl) (by kernel_rfl) (by kernel_rfl) (by kernel_rfl) (fun _ _ _ h => h) (Or.inl ⟨by rfl, ?_⟩) ?_
            rotate_left
            · (intro w; go_simp; try with_reducible rfl)
            (try simp only [Act.put, List.setIfInBounds_toArray, List.set_cons_zero, List.set_cons_succ])
            refine wpAny_ready (rs := [11]) (by kernel_rfl) (by simp) (AllReady.cons (List.getElem?_toArray.trans rfl) (fun K hK => ?_) AllReady.nil)
            go_simp
            refine hK _ _ ?_
            clear hK K
            (try simp only [Act.put, List.setIfInBounds_toArray, List.set_cons_zero, List.set_cons_succ])
            refine wpAny_ready (rs := [12]) (by kernel_rfl) (by simp) (AllReady.cons (List.getElem?_toArray.trans rfl) (fun K hK => ?_) AllReady.nil)
            refine step_append_ow (w0 := w) w.heap.size (by rfl) (.tmp 49) (.tmp 60) rfl v (mixR F b t) [Go.bits .xor .u8 y1 y2] (some ⟨wr.heap.size, 0, none⟩) 1 1 rfl rfl (Kd.R_alloc (Kd.R_drew hO.out) _) (one_BM wr.drew _) ((hBl).drew.alloc (by exact (hBl).size) _) (by exact Nat.le_trans (hBl).size (by simp)) (by rw [hol.out]; omega) ?_
            intro v5 w5 ho5 hb5 hg5 ha5
            refine hK _ _ ?_
            clear hK K
            (try simp only [Act.put, List.setIfInBounds_toArray, List.set_cons_zero, List.set_cons_succ])
            refine wpAny_take (i := 13) (v := ?_) (List.getElem?_toArray.trans rfl) (by kernel_rfl) (by kernel_rfl) (by kernel_rfl) (fun _ _ _ h => h) (Or.inl ⟨by rfl, ?_⟩) ?_
            rotate_left
            · (intro w; go_simp; try with_reducible rfl)
            (try simp only [Act.put, List.setIfInBounds_toArray, List.set_cons_zero, List.set_cons_succ])
            refine wpAny_done (by kernel_rfl) ?_ _
            have HO5 : Aside0 (Ow w5 w.heap.size v5 (mixR F b (t + 1))) := ⟨by rw [hnx.out]; exact ho5⟩
            have hvl := ow_ltM hO.out
            have HX5 : Ow w5 w.heap.size (.slice (some ⟨gx, 0, none⟩) 64 cx) S := Kd.R_mono (Kd.R_step (Kd.R_tight rfl (Kd.R_alloc (Kd.R_drew HXO.out) _)) (fun q hq hlt => hg5.block q hlt (fun e => by
              have hq' : q = gx := by simpa [Value.ownBlock] using hq
              exact hNE.out gx (by rfl) (by rw [← hq']; exact e.symm)))) (fun _ _ => trivial)
            have HX6 : Aside0 ((t + 1) % 64 ≠ 0 → Ow w5 w.heap.size (.slice (some ⟨gx, 0, none⟩) 64 cx) (chaS k o (m + (((t + 1) / 64 : Nat) : Int)))) := ⟨fun h => by rw [show (t + 1) / 64 = q by have := HQ.out; omega, HSS.out]; exact HX5⟩
            have HN5 : Aside0 (∀ q, (Value.slice (some ⟨gx, 0, none⟩) 64 cx).ownBlock = some q → v5.ownBlock ≠ some q) := ⟨fun q hq => by
              have hq' : gx = q := by simpa [Value.ownBlock] using hq
              subst hq'
              rcases ha5 with e | ⟨q', e, hq'⟩
              · rw [e]; exact hNE.out gx rfl
              · rw [e]; intro e'; injection e' with e'; simp at hq'; omega⟩
            clear ho5 hg5 ha5
            go_wp2_with fail
            go_roundw
            case rel => exact ⟨t + 1, v5, _, by omega, by go_num, rfl, rfl, HO5, HX6, HN5, hb5⟩
            case measure => simp [intOf]; omega
          · go_simp
            refine hK _ _ ?_
            clear hK K
            (try simp only [Act.put, List.setIfInBounds_toArray, List.set_cons_zero, List.set_cons_succ])
            refine wpAny_ready (rs := [4]) (by kernel_rfl) (by simp) (AllReady.cons (List.getElem?_toArray.trans rfl) (fun K hK => ?_) AllReady.nil)
            go_simp
            refine hK _ _ ?_
            clear hK K
            (try simp only [Act.put, List.setIfInBounds_toArray, List.set_cons_zero, List.set_cons_succ])
            refine wpAny_take (i := 10) (v := ?_) (List.getElem?_toArray.trans rfl) (by kernel_rfl) (by kernel_rfl) (by kernel_rfl) (fun _ _ _ h => h) (Or.inl ⟨by rfl, ?_⟩) ?_
            rotate_left
            · (intro w; go_simp; try with_reducible rfl)
            (try simp only [Act.put, List.setIfInBounds_toArray, List.set_cons_zero, List.set_cons_succ])
            refine wpAny_ready (rs := [11]) (by kernel_rfl) (by simp) (AllReady.cons (List.getElem?_toArray.trans rfl) (fun K hK => ?_) AllReady.nil)
            go_simp
            refine hK _ _ ?_
            clear hK K
            (try simp only [Act.put, List.setIfInBounds_toArray, List.set_cons_zero, List.set_cons_succ])
            refine wpAny_ready (rs := [12]) (by kernel_rfl) (by simp) (AllReady.cons (List.getElem?_toArray.trans rfl) (fun K hK => ?_) AllReady.nil)
            refine step_append_ow (w0 := w) w.heap.size (by rfl) (.tmp 49) (.tmp 60) rfl v (mixR F b t) [Go.bits .xor .u8 y1 y2] (some ⟨wr.heap.size, 0, none⟩) 1 1 rfl rfl (Kd.R_alloc (Kd.R_drew hO.out) _) (one_BM wr.drew _) ((hBl).drew.alloc (by exact (hBl).size) _) (by exact Nat.le_trans (hBl).size (by simp)) (by rw [hol.out]; omega) ?_
            intro v5 w5 ho5 hb5 hg5 ha5
            refine hK _ _ ?_
            clear hK K
            (try simp only [Act.put, List.setIfInBounds_toArray, List.set_cons_zero, List.set_cons_succ])
            refine wpAny_take (i := 13) (v := ?_) (List.getElem?_toArray.trans rfl) (by kernel_rfl) (by kernel_rfl) (by kernel_rfl) (fun _ _ _ h => h) (Or.inl ⟨by rfl, ?_⟩) ?_
            rotate_left
            · (intro w; go_simp; try with_reducible rfl)
            (try simp only [Act.put, List.setIfInBounds_toArray, List.set_cons_zero, List.set_cons_succ])
            refine wpAny_done (by kernel_rfl) ?_ _
            have HO5 : Aside0 (Ow w5 w.heap.size v5 (mixR F b (t + 1))) := ⟨by rw [hnx.out]; exact ho5⟩
            have hvl := ow_ltM hO.out
            have HX5 : Ow w5 w.heap.size (.slice (some ⟨gx, 0, none⟩) 64 cx) S := Kd.R_mono (Kd.R_step (Kd.R_tight rfl (Kd.R_alloc (Kd.R_drew HXO.out) _)) (fun q hq hlt => hg5.block q hlt (fun e => by
              have hq' : q = gx := by simpa [Value.ownBlock] using hq
              exact hNE.out gx (by rfl) (by rw [← hq']; exact e.symm)))) (fun _ _ => trivial)
            have HX6 : Aside0 ((t + 1) % 64 ≠ 0 → Ow w5 w.heap.size (.slice (some ⟨gx, 0, none⟩) 64 cx) (chaS k o (m + (((t + 1) / 64 : Nat) : Int)))) := ⟨fun h => by rw [show (t + 1) / 64 = q by have := HQ.out; omega, HSS.out]; exact HX5⟩
            have HN5 : Aside0 (∀ q, (Value.slice (some ⟨gx, 0, none⟩) 64 cx).ownBlock = some q → v5.ownBlock ≠ some q) := ⟨fun q hq => by
              have hq' : gx = q := by simpa [Value.ownBlock] using hq
              subst hq'
              rcases ha5 with e | ⟨q', e, hq'⟩
              · rw [e]; exact hNE.out gx rfl
              · rw [e]; intro e'; injection e' with e'; simp at hq'; omega⟩
            clear ho5 hg5 ha5
            go_wp2_with fail
            go_roundw
            case rel => exact ⟨t + 1, v5, _, by omega, by go_num, rfl, rfl, HO5, HX6, HN5, hb5⟩
            case measure => simp [intOf]; omega
      · have hge : ¬ (t : Int) < (n : Int) := by omega
        have HFIN : Aside0 (Ow wr w.heap.size v (mixT F b n)) := ⟨by have h9 := hO.out; rw [show t = n by omega] at h9; have h8 := mixR_eq F b; rw [HBL.out] at h8; rw [← h8]; exact h9⟩
        clear hO hX hNE
        go_wp2_with fail
        go_ret2
        rw [HFF.out]
        exact ⟨_, rfl, HFIN.out, hBl⟩
end Go.Proofs.Ytkjmjgiklelpiaa.MxB
