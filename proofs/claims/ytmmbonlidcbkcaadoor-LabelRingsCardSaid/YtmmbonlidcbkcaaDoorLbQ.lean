/- label: the document's ring. -/
import Derived.Test.YtmmbonlidcbkcaaDoorMacA
import Derived.Deep.RegionHeld3
import Derived.Deep.MidRow
import Derived.Deep.Cut
import Derived.Test.YtmmbonlidcbkcaaDoorLbA
namespace Go.Proofs.YtmmbonlidcbkcaaDoor.LbQ
open Go.RowKit Go.Proofs.YtmmbonlidcbkcaaDoorW.PrintWords Go.Proofs.YtmmbonlidcbkcaaDoor.Num Go.Proofs.YtmmbonlidcbkcaaDoor.Sha Go.Proofs.YtmmbonlidcbkcaaDoor.Hmac Go.Proofs.YtmmbonlidcbkcaaDoor.WordC Go.Proofs.YtmmbonlidcbkcaaDoor.Arr Go.Proofs.YtmmbonlidcbkcaaDoor.App Go.Proofs.YtmmbonlidcbkcaaDoor.DgC Go.Proofs.YtmmbonlidcbkcaaDoor.DgBlock Go.Proofs.YtmmbonlidcbkcaaDoor.DgState Go.Proofs.YtmmbonlidcbkcaaDoor.DgAdd Go.Proofs.YtmmbonlidcbkcaaDoor.DgSum Go.Proofs.YtmmbonlidcbkcaaDoor.DgOf Go.Proofs.YtmmbonlidcbkcaaDoor.DgCopy Go.Proofs.YtmmbonlidcbkcaaDoor.DgLaw Go.Proofs.YtmmbonlidcbkcaaDoor.DgWords Go.Proofs.YtmmbonlidcbkcaaDoor.DgParts Go.Proofs.YtmmbonlidcbkcaaDoor.RefOf Go.Proofs.YtmmbonlidcbkcaaDoor.MacC Go.Proofs.YtmmbonlidcbkcaaDoor.MacTag Go.Proofs.YtmmbonlidcbkcaaDoor.MacLaw Go.Proofs.YtmmbonlidcbkcaaDoor.MacAwake Go.Proofs.YtmmbonlidcbkcaaDoor.MacHold Go.Proofs.YtmmbonlidcbkcaaDoor.MacNew Go.Proofs.YtmmbonlidcbkcaaDoor.MacRef Go.Proofs.YtmmbonlidcbkcaaDoor.MacNil Go.Proofs.YtmmbonlidcbkcaaDoor.MacMany Go.Proofs.YtmmbonlidcbkcaaDoor.LbC Go.Proofs.YtmmbonlidcbkcaaDoor.LbR Go.Proofs.YtmmbonlidcbkcaaDoor.LbA
set_option linter.unusedVariables false
set_option linter.unusedSimpArgs false

open Go.Proofs.YtmmbonlidcbkcaaDoor.PLabelRings (S107 z107)
/-- Masters, as the document's ring has them: each key lies where it lay in w0. -/
def kq (w0 : World) : Kd S107 where
  sz := 2
  E := []
  K _ x cs := ∃ B c, cs = [.int .i64 x.f0, .slice B 32 c] ∧ Rd w0 B 32 c x.f1
  M _ _ _ x cs := ∃ B c, cs = [.int .i64 x.f0, .slice B 32 c] ∧ Rd w0 B 32 c x.f1
  K_len := by rintro w x cs ⟨B, c, rfl, _⟩; rfl
  K_one := by
    rintro w x cs ⟨B, c, rfl, _⟩ u hu
    simp only [List.mem_cons, List.not_mem_nil, or_false] at hu
    rcases hu with rfl | rfl <;> rfl
  K_below := fun _ h => h
  K_of_M := fun h => h
  M_mono := fun _ h => h
  M_bound := fun h => h
  M_move := fun _ h => h
  M_lower := fun _ h => h
theorem mq_at {w0 W : World} {A : Option Addr} {n : Nat} {M : List S107} (h : Kd.C (kq w0) W A n M) (i : Nat) (hi : i < n) : ∃ ad B c, A = some ad ∧ W.cell? (ad.add (i * 2)) = some (.int .i64 (M.getD i z107).f0) ∧
    W.cell? ⟨(ad.add (i * 2)).block, (ad.add (i * 2)).off + 1, none⟩ = some (.slice B 32 c) ∧ Rd w0 B 32 c (M.getD i z107).f1 := by
  obtain ⟨ad, c, e, _, hK, hc0⟩ := Kd.C_get h z107 i (by omega) (by omega)
  have hc : ∀ j u, c[j]? = some u → W.cell? (ad.add (i * 2 + j)) = some u := hc0
  obtain ⟨B, c1, rfl, hr⟩ := hK
  exact ⟨ad, B, c1, e, hc 0 _ rfl, by rw [← add_field _ _ 1 (by omega)]; exact hc 1 _ rfl, hr⟩
theorem findM_cons (x : S107) (L : List S107) (e : Int) : findM (x :: L) e = if x.f0 = e then some x.f1 else findM L e := by
  unfold findM
  by_cases h : x.f0 = e
  · rw [List.find?_cons_of_pos (by simpa using h), if_pos h]; rfl
  · rw [List.find?_cons_of_neg (by simpa using h), if_neg h]
theorem findM_drop {M : List S107} {T : Nat} (hT : T < M.length) (e : Int) : findM (M.drop T) e = if (M.getD T z107).f0 = e then some (M.getD T z107).f1 else findM (M.drop (T + 1)) e := by
  have h : M.drop T = M.getD T z107 :: M.drop (T + 1) := by
    rw [List.getD_eq_getElem?_getD, List.getElem?_eq_getElem hT]; exact (List.drop_eq_getElem_cons hT)
  rw [h, findM_cons]
/-- What is found: a key, or nothing. -/
def fndV (w0 : World) (o : Option (List Int)) (v : Value) : Prop :=
  match o with
  | some key => ∃ B c, v = .tuple #[.slice B 32 c, .bool true] ∧ Rd w0 B 32 c key
  | none => v = .tuple #[.slice none 0 0, .bool false]
set_option maxHeartbeats 4000000 in
set_option maxRecDepth 100000 in
theorem find79_c {w0 : World} {A : Option Addr} {c n : Nat} {M : List S107} {e : Int} {w : World} (hC : Kd.C (kq w0) w A n M) :
    Calls Tryd.prog 79 #[.agg #[.slice A n c], .int .i64 e] w fun x w' => ∃ v, x = .returned v ∧ fndV w0 (findM M e) v ∧ Below w.heap.size w w' := by
  have hl : M.length = n := Kd.C_len hC
  obtain ⟨R, HR⟩ : ∃ R, Aside0 (findM M e = R) := ⟨_, ⟨rfl⟩⟩
  rw [HR.out]
  have hB0 : Below w.heap.size w (w.alloc (.cells #[.slice A n c] 70)) := (Below.refl _ w).alloc (Nat.le_refl _) _
  have hX0 : Blk (w.alloc (.cells #[.slice A n c] 70)) w.heap.size 70 [.slice A n c] := heap_alloc_new _ _
  have HC := Aside0.mk (Kd.C_below hC hB0)
  have hmax : n ≤ 9223372036854775807 := Kd.C_max hC
  have HL := Aside0.mk hl
  clear hl hC
  go_enter Tryd.func79, Tryd.ntmps79
  go_upto_region 1 with (fail)
  generalize hW : w.alloc _ = W0
  rw [hW] at HC hB0 hX0
  clear hW
  have cb : W0.cell? ⟨w.heap.size, 0, none⟩ = some (.slice A n c) := Blk.cell hX0 0
  clear hX0
  have HB := Aside0.mk hB0
  clear hB0
  go_wp2_with fail
  go_loopw [6] (fun v wr => ∃ T : Nat, T ≤ n ∧ v = .int .i64 T ∧ wr = W0 ∧ Aside0 (findM (M.drop T) e = R)) (fun v _ => n - (intOf v).toNat)
  case atStart => exact ⟨0, by omega, rfl, rfl, ⟨by simpa using HR.out⟩⟩
  case round =>
    obtain ⟨T, hT, rfl, rfl, hF⟩ := hrel
    by_cases hlt : T < n
    · have hlt' : (T : Int) < (n : Int) := by omega
      obtain ⟨ad, B, c1, rfl, k0, k1, hr⟩ := mq_at HC.out T hlt
      have hD := findM_drop (M := M) (T := T) (by rw [HL.out]; exact hlt) e
      generalize hz : M.getD T z107 = z at k0 k1 hr hD
      obtain ⟨f, key⟩ := z
      by_cases hfe : f = e
      · have hq : (f == e) = true := beq_iff_eq.2 hfe
        rw [if_pos hfe, hF.out] at hD
        have HD := Aside0.mk hD
        have HRR := Aside0.mk hr
        clear hfe hD hr hz hF
        go_wp2_with fail
        go_ret2
        rw [HD.out]
        exact ⟨_, rfl, ⟨B, c1, rfl, HRR.out⟩, HB.out⟩
      · have hq : (f == e) = false := beq_eq_false_iff_ne.2 hfe
        rw [if_neg hfe, hF.out] at hD
        have HD := Aside0.mk hD.symm
        clear hfe hD hr hz hF
        go_wp2_with fail
        go_roundw
        case rel => exact ⟨T + 1, by omega, by go_num, (by first | rfl | trivial), HD⟩
        case measure => simp [intOf]; omega
    · have hge : ¬ (T : Int) < (n : Int) := by omega
      obtain rfl : T = n := by omega
      have hnil : M.drop T = [] := List.drop_eq_nil_of_le (by rw [HL.out]; exact Nat.le_refl _)
      have hR : R = none := by rw [← hF.out, hnil]; rfl
      have HRN := Aside0.mk hR
      clear hnil hR hF
      go_wp2_with fail
      go_ret2
      rw [HRN.out]
      exact ⟨_, rfl, rfl, HB.out⟩
theorem info107 : (Tryd.prog.info? 107).map (fun i => (i.zero, i.size, i.bytes)) = some (some (.agg #[.int .i64 0, .slice none 0 0]), 2, 32) := by kernel_rfl
/-- A row of masters of the call's own. -/
abbrev Mo (w0 W : World) (base : Nat) (v : Value) (M : List S107) : Prop := Kd.R (kq w0) 107 W base (fun _ => True) v M
theorem mo_empty (w0 W : World) (base : Nat) (hb : base ≤ W.heap.size) : Mo w0 (W.alloc (.cells #[] 107)) base (.slice (some ⟨W.heap.size, 0, none⟩) 0 0) [] := by
  have h : (W.alloc (.cells #[] 107)).ownsRow base 107 2 (.slice (some ⟨W.heap.size, 0, none⟩) 0 0) 0 [] := by simpa using World.ownsRow_lit (base := base) (e := 107) (size := 2) W #[] 0 hb (by simp [maxLen]) (by simp)
  exact ⟨fun _ _ => trivial, [], h, rfl, fun j p hj => by simp at hj⟩
theorem mo_one (w0 W : World) (e : Int) (l : List Int) {B : Option Addr} {c : Nat} (hr : Rd w0 B 32 c l) : Mo w0 (W.alloc (.cells #[.int .i64 e, .slice B 32 c] 107)) W.heap.size (.slice (some ⟨W.heap.size, 0, none⟩) 1 1) [⟨e, l⟩] := by
  have h : (W.alloc (.cells #[.int .i64 e, .slice B 32 c] 107)).ownsRow W.heap.size 107 2 (.slice (some ⟨W.heap.size, 0, none⟩) 1 1) 1 [.int .i64 e, .slice B 32 c] := by
    simpa using World.ownsRow_lit (base := W.heap.size) (e := 107) (size := 2) W #[.int .i64 e, .slice B 32 c] 1 (Nat.le_refl _) (by simp [maxLen]) (by simp)
  refine ⟨fun _ _ => trivial, [.int .i64 e, .slice B 32 c], h, rfl, fun j p hj => ?_⟩
  obtain ⟨hj1, hp⟩ := List.getElem?_eq_some_iff.1 hj
  have hj0 : j = 0 := by simp at hj1; omega
  subst hj0
  simp at hp
  subst hp
  exact ⟨B, c, rfl, hr⟩
theorem mo_one_C (w0 W : World) (e : Int) (l : List Int) {B : Option Addr} {c : Nat} (hr : Rd w0 B 32 c l) : Kd.C (kq w0) (W.alloc (.cells #[.int .i64 e, .slice B 32 c] 107)) (some ⟨W.heap.size, 0, none⟩) 1 [⟨e, l⟩] :=
  (Kd.R_reads' (mo_one w0 W e l hr)).2.2
theorem mo_far {w0 W : World} {base g : Nat} {v u : Value} {M : List S107} (h : Mo w0 W base v M) (hg : g < base) : Mo w0 (W.setCell ⟨g, 0, none⟩ u) base v M :=
  Kd.R_mono (Kd.R_far (p := ⟨g, 0, none⟩) (Kd.R_bound h) (fun k hk => by have := hk.2.1; show k ≠ g; omega) u) (fun _ _ => trivial)
theorem append_mq {ops : Array Oper} {rest : List Oper} {o : Oper} {a : Act} {Q : Exit → Act → World → Prop} {w0 u0 W : World} (base : Nat) (hgd : o.guard = none) (s x : Operand)
    (ho : o.op = .call { callee := .builtin .append, args := #[s, x], argTypes := #[68, 68] })
    (v : Value) (xs ys : List S107) (A : Option Addr) (m c : Nat) (hs : a.eval s = v) (hx : a.eval x = .slice A m c)
    (HO : Mo w0 W base v xs) (HR : Kd.C (kq w0) W A m ys) (HB : Below base u0 W) (hbase : base ≤ W.heap.size) (hl : xs.length + m ≤ 1000000)
    (h : ∀ v1 w1, Mo w0 w1 base v1 (xs ++ ys) → Below base u0 w1 → wpList Tryd.prog ops Q rest (a.put o.dst v1) w1) :
    wpList Tryd.prog ops Q (o :: rest) a W :=
  Kd.R_append_rows (kq w0) (w0 := u0) base hgd s x 68 107 _ 32 ho Tryd.underlying68 info107 rfl (by show 0 < 2; decide) (by omega) v xs ys A m c (fun _ => True) (fun _ => False) hs hx HO HR (fun _ _ h => h) (fun _ h => h.elim) (fun _ _ => trivial) HB hbase (by omega) (fun v1 w1 h1 h2 _ _ => h v1 w1 h1 h2)
theorem mo_form {w0 W : World} {base : Nat} {v : Value} {M : List S107} (h : Mo w0 W base v M) : ∃ A c, v = .slice A M.length c ∧ Kd.C (kq w0) W A M.length M := by
  obtain ⟨A, c, hv, _, hC⟩ := Kd.R_reads h
  exact ⟨A, c, hv, hC⟩
theorem results_ring {P : Program} {fn : Func} {p q : Tmp} (h : fn.results = #[.cell p 70, .tmp q]) (tmps : Array Value) (w : World) (g : Nat) (v u : Value)
    (hp : tmps.getD p undef = .pointer (some ⟨g, 0, none⟩)) (hq : tmps.getD q undef = u) (hg : Blk w g 70 [v]) (hP : P = Tryd.prog) :
    (results fn tmps).run P w = .ok (.tuple #[.agg #[v], u]) w := by
  subst hP
  have hp' : tmps[p]?.getD undef = .pointer (some ⟨g, 0, none⟩) := by simpa using hp
  have hq' : tmps[q]?.getD undef = u := by simpa using hq
  have c0 : w.cell? ⟨g, 0, none⟩ = some v := Blk.cell hg 0
  simp [results, h, hp', hq', asAddr]
  go_simp
set_option maxHeartbeats 4000000 in
set_option maxRecDepth 100000 in
theorem Put58_bad {w0 : World} {A B : Option Addr} {c d n m : Nat} {e : Int} {w : World} (h : e < 1 ∨ 64 < e ∨ m ≠ 32) :
    Calls Tryd.prog 58 #[.agg #[.slice A n c], .int .i64 e, .slice B m d] w fun x w' => x = .returned (.tuple #[.agg #[.slice A n c], .int .i64 1]) ∧ Below w.heap.size w w' := by
  have hB0 : ∀ v : Value, Below w.heap.size w ((w.alloc (.cells #[.slice A n c] 70)).alloc (.cells #[v] 70)) := fun v => ((Below.refl _ w).alloc (Nat.le_refl _) _).alloc (by simp) _
  have hX1 : ∀ v : Value, Blk ((w.alloc (.cells #[.slice A n c] 70)).alloc (.cells #[v] 70)) (w.heap.size + 1) 70 [v] := fun v => by have h := heap_alloc_new (w.alloc (.cells #[.slice A n c] 70)) (.cells #[v] 70); rwa [World.size_alloc] at h
  have hlast : ∀ (a0 : Act), True := fun _ => trivial
  by_cases h1 : e < 1
  · clear h
    go_enter Tryd.func58, Tryd.ntmps58
    go_wp2
    exact bodyPost_ret (v := .tuple #[.agg #[.slice A n c], .int .i64 1]) (results_ring (p := 6) (q := 7) rfl _ _ _ _ _ rfl rfl (hX1 _) rfl) rfl ⟨rfl, hB0 _⟩
  · by_cases h2 : 64 < e
    · clear h
      go_enter Tryd.func58, Tryd.ntmps58
      go_wp2
      exact bodyPost_ret (v := .tuple #[.agg #[.slice A n c], .int .i64 1]) (results_ring (p := 6) (q := 7) rfl _ _ _ _ _ rfl rfl (hX1 _) rfl) rfl ⟨rfl, hB0 _⟩
    · have hn : m ≠ 32 := by omega
      have hq : ((m : Int) == 32) = false := by simp; omega
      have hq2 : ((m : Int) != 32) = true := by simp; omega
      have hne : ¬ (m : Int) = 32 := by omega
      clear h hn
      go_enter Tryd.func58, Tryd.ntmps58
      go_wp2
      exact bodyPost_ret (v := .tuple #[.agg #[.slice A n c], .int .i64 1]) (results_ring (p := 6) (q := 7) rfl _ _ _ _ _ rfl rfl (hX1 _) rfl) rfl ⟨rfl, hB0 _⟩
set_option maxHeartbeats 4000000 in
set_option maxRecDepth 100000 in
theorem Put58_there {w0 : World} {A B : Option Addr} {c d n : Nat} {M : List S107} {e : Int} {key : List Int} {w : World} (hC : Kd.C (kq w0) w A n M) (h1 : 1 ≤ e) (h2 : e ≤ 64) (hf : findM M e = some key) :
    Calls Tryd.prog 58 #[.agg #[.slice A n c], .int .i64 e, .slice B 32 d] w fun x w' => x = .returned (.tuple #[.agg #[.slice A n c], .int .i64 19]) ∧ Below w.heap.size w w' := by
  have hB0 : Below w.heap.size w ((w.alloc (.cells #[.slice A n c] 70)).alloc (.cells #[.slice none 0 0] 70)) := ((Below.refl _ w).alloc (Nat.le_refl _) _).alloc (by simp) _
  have hX0 : Blk ((w.alloc (.cells #[.slice A n c] 70)).alloc (.cells #[.slice none 0 0] 70)) w.heap.size 70 [.slice A n c] := Blk.alloc (heap_alloc_new _ _) _
  have hX1 : Blk ((w.alloc (.cells #[.slice A n c] 70)).alloc (.cells #[.slice none 0 0] 70)) (w.heap.size + 1) 70 [.slice none 0 0] := by have h := heap_alloc_new (w.alloc (.cells #[.slice A n c] 70)) (.cells #[.slice none 0 0] 70); rwa [World.size_alloc] at h
  have HC := Aside0.mk (Kd.C_below hC hB0)
  have HF := Aside0.mk hf
  clear hC hf
  go_enter Tryd.func58, Tryd.ntmps58
  go_upto_region 3 with (fail)
  generalize hW : (w.alloc _).alloc _ = W0
  rw [hW] at HC hX0 hX1 hB0
  clear hW
  have cb : W0.cell? ⟨w.heap.size, 0, none⟩ = some (.slice A n c) := Blk.cell hX0 0
  have HX0 := Aside0.mk hX0
  have HX1 := Aside0.mk hX1
  have HB := Aside0.mk hB0
  clear hX0 hX1 hB0
  go_wp2_with fail
  refine (find79_c HC.out).mono ?_
  rintro x w1 ⟨v, rfl, hv, hb1⟩
  have hB1 := below_next HB.out hb1
  rw [HF.out] at hv
  obtain ⟨B1, d1, rfl, _⟩ := hv
  have hX := Blk.below HX0.out hb1
  have hY := Blk.below HX1.out hb1
  have c1 : w1.cell? ⟨w.heap.size, 0, none⟩ = some (.slice A n c) := Blk.cell hX 0
  have c2 : w1.cell? ⟨w.heap.size + 1, 0, none⟩ = some (.slice none 0 0) := Blk.cell hY 0
  have f2 := Blk.frozen hY 0
  have HY := Aside0.mk (show Blk (w1.setCell ⟨w.heap.size + 1, 0, none⟩ (.slice A n c)) (w.heap.size + 1) 70 [.slice A n c] from Blk.set_ hY 0 _)
  clear hX hY
  go_wp2_with fail
  exact bodyPost_ret (v := .tuple #[.agg #[.slice A n c], .int .i64 19]) (results_ring (p := 6) (q := 7) rfl _ _ _ _ _ rfl rfl HY.out rfl) rfl ⟨rfl, hB1.setCell (p := ⟨w.heap.size + 1, 0, none⟩) (by simp) _⟩
set_option maxHeartbeats 4000000 in
set_option maxRecDepth 100000 in
theorem Put58_new {w0 : World} {A B : Option Addr} {c d n : Nat} {M : List S107} {e : Int} {l : List Int} {w : World} (hC : Kd.C (kq w0) w A n M) (h1 : 1 ≤ e) (h2 : e ≤ 64) (hf : findM M e = none) (hr : Rd w0 B 32 d l) (hn : n ≤ 1000) :
    Calls Tryd.prog 58 #[.agg #[.slice A n c], .int .i64 e, .slice B 32 d] w fun x w' => ∃ A' c', x = .returned (.tuple #[.agg #[.slice A' (n + 1) c'], .int .i64 0]) ∧ Mo w0 w' w.heap.size (.slice A' (n + 1) c') (M ++ [⟨e, l⟩]) ∧ Below w.heap.size w w' := by
  have hl : M.length = n := Kd.C_len hC
  have hB0 : Below w.heap.size w ((w.alloc (.cells #[.slice A n c] 70)).alloc (.cells #[.slice none 0 0] 70)) := ((Below.refl _ w).alloc (Nat.le_refl _) _).alloc (by simp) _
  have hX0 : Blk ((w.alloc (.cells #[.slice A n c] 70)).alloc (.cells #[.slice none 0 0] 70)) w.heap.size 70 [.slice A n c] := Blk.alloc (heap_alloc_new _ _) _
  have hX1 : Blk ((w.alloc (.cells #[.slice A n c] 70)).alloc (.cells #[.slice none 0 0] 70)) (w.heap.size + 1) 70 [.slice none 0 0] := by have h := heap_alloc_new (w.alloc (.cells #[.slice A n c] 70)) (.cells #[.slice none 0 0] 70); rwa [World.size_alloc] at h
  have HC := Aside0.mk (Kd.C_below hC hB0)
  have HF := Aside0.mk hf
  have HRD := Aside0.mk hr
  have HL := Aside0.mk hl
  clear hC hf hr hl
  go_enter Tryd.func58, Tryd.ntmps58
  go_upto_region 3 with (fail)
  generalize hW : (w.alloc _).alloc _ = W0
  rw [hW] at HC hX0 hX1 hB0
  clear hW
  have cb : W0.cell? ⟨w.heap.size, 0, none⟩ = some (.slice A n c) := Blk.cell hX0 0
  have HX0 := Aside0.mk hX0
  have HX1 := Aside0.mk hX1
  have HB := Aside0.mk hB0
  have hlt1 := Blk.lt hX1
  clear hX0 hX1 hB0
  go_wp2_with fail
  refine (find79_c HC.out).mono ?_
  rintro x w1 ⟨v, rfl, hv, hb1⟩
  have hB1 := below_next HB.out hb1
  rw [HF.out] at hv
  obtain rfl : v = .tuple #[.slice none 0 0, .bool false] := hv
  have hlt2 : w.heap.size + 1 < w1.heap.size := Nat.lt_of_lt_of_le hlt1 hb1.size
  have hX := Blk.below HX0.out hb1
  have hY := Blk.below HX1.out hb1
  have hE : Below w1.heap.size w1 (w1.alloc (.cells #[] 107)) := (Below.refl _ w1).alloc (Nat.le_refl _) _
  have c1 : (w1.alloc (.cells #[] 107)).cell? ⟨w.heap.size, 0, none⟩ = some (.slice A n c) := Blk.cell (Blk.below hX hE) 0
  have HY := Aside0.mk hY
  have HC1 := Aside0.mk (Kd.C_below (Kd.C_below HC.out hb1) hE)
  have HM := Aside0.mk (mo_empty w0 w1 w1.heap.size (Nat.le_refl _))
  clear hX hY
  go_wp2_with (first
    | (at_builtin; refine append_mq (w0 := w0) (u0 := w1) w1.heap.size rfl (.tmp 30) (.tmp 32) rfl _ [] M A n c rfl rfl HM.out HC1.out hE (by simp) (by simp; omega) ?_; intro v2 w2 hm2 hb2; rw [List.nil_append] at hm2; obtain ⟨A2, c2, rfl, _⟩ := mo_form hm2; rw [HL.out] at hm2 ⊢; have HM2 := Aside0.mk hm2; clear hm2 c1)
    | (at_builtin; refine append_mq (w0 := w0) (u0 := w1) w1.heap.size rfl (.tmp 33) (.tmp 37) rfl _ M [⟨e, l⟩] (some ⟨w2.heap.size, 0, none⟩) 1 1 rfl rfl (Kd.R_alloc HM2.out _) (mo_one_C w0 w2 e l HRD.out) (hb2.alloc hb2.size _) (Nat.le_trans hb2.size (by simp)) (by have := HL.out; omega) ?_; intro v3 w3 hm3 hb3; obtain ⟨A3, c3, rfl, _⟩ := mo_form hm3; rw [List.length_append, HL.out, List.length_singleton] at hm3 ⊢; have HM3 := Aside0.mk hm3; have hY3 := Blk.below HY.out hb3; have c4 : w3.cell? ⟨w.heap.size + 1, 0, none⟩ = some (.slice none 0 0) := Blk.cell hY3 0; have f4 := Blk.frozen hY3 0; have HY3 := Aside0.mk hY3; clear hm3 hY3))
  have HY4 : Blk (w3.setCell ⟨w.heap.size + 1, 0, none⟩ (.slice A3 (n + 1) c3)) (w.heap.size + 1) 70 [.slice A3 (n + 1) c3] := Blk.set_ HY3.out 0 _
  have hB3 := below_next hB1 hb3
  exact bodyPost_ret (v := .tuple #[.agg #[.slice A3 (n + 1) c3], .int .i64 0]) (results_ring (p := 6) (q := 7) rfl _ _ _ _ _ rfl rfl HY4 rfl) rfl ⟨A3, c3, rfl, Kd.R_lower (mo_far HM3.out (by show w.heap.size + 1 < w1.heap.size; exact hlt2)) hB1.size, hB3.setCell (p := ⟨w.heap.size + 1, 0, none⟩) (by simp) _⟩
/-- A master that is told, or nothing. -/
def mstV (w0 : World) (o : Option (List Int)) (v : Value) : Prop :=
  match o with
  | some key => ∃ B d, v = .slice B 32 d ∧ Rd w0 B 32 d key
  | none => v = .slice none 0 0
/-- A key for a purpose, or why there is none. -/
def keyV (w' : World) (b : Bool) (o : Option (List Int)) (t : List Int) (v : Value) : Prop :=
  match b, o with
  | false, _ => v = .tuple #[.slice none 0 0, .int .i64 1]
  | true, some key => ∃ B d, v = .tuple #[.slice B 32 d, .int .i64 0] ∧ Rd w' B 32 d (tagS key t)
  | true, none => v = .tuple #[.slice none 0 0, .int .i64 24]
set_option maxHeartbeats 2000000 in
set_option maxRecDepth 100000 in
theorem Master64_c {w0 : World} {A : Option Addr} {c n : Nat} {M : List S107} {e : Int} {w : World} (hC : Kd.C (kq w0) w A n M) :
    Calls Tryd.prog 64 #[.agg #[.slice A n c], .int .i64 e] w fun x w' => ∃ v, x = .returned v ∧ mstV w0 (findM M e) v ∧ Below w.heap.size w w' := by
  have hB0 : Below w.heap.size w (w.alloc (.cells #[.slice A n c] 70)) := (Below.refl _ w).alloc (Nat.le_refl _) _
  have hX0 : Blk (w.alloc (.cells #[.slice A n c] 70)) w.heap.size 70 [.slice A n c] := heap_alloc_new _ _
  have HC := Aside0.mk (Kd.C_below hC hB0)
  clear hC
  go_enter Tryd.func64, Tryd.ntmps64
  go_upto_region 1 with (fail)
  generalize hW : w.alloc _ = W0
  rw [hW] at HC hB0 hX0
  clear hW
  have cb : W0.cell? ⟨w.heap.size, 0, none⟩ = some (.slice A n c) := Blk.cell hX0 0
  clear hX0
  have HB := Aside0.mk hB0
  clear hB0
  go_wp2_with fail
  refine (find79_c HC.out).mono ?_
  rintro x w1 ⟨v, rfl, hv, hb1⟩
  have hB1 := below_next HB.out hb1
  cases hf : findM M e with
  | some key =>
    rw [hf] at hv
    obtain ⟨B, d, rfl, hr⟩ := hv
    have HR := Aside0.mk hr
    have HFM := Aside0.mk hf
    clear hr hf
    go_wp2_with fail
    go_ret
    rw [HFM.out]
    exact ⟨_, rfl, ⟨B, d, rfl, HR.out⟩, hB1⟩
  | none =>
    rw [hf] at hv
    obtain rfl : v = .tuple #[.slice none 0 0, .bool false] := hv
    have HFM := Aside0.mk hf
    clear hf
    go_wp2_with fail
    go_ret
    rw [HFM.out]
    exact ⟨_, rfl, rfl, hB1⟩
set_option maxHeartbeats 4000000 in
set_option maxRecDepth 100000 in
theorem Key56_c {w0 : World} {A : Option Addr} {c n : Nat} {M : List S107} {s : ByteArray} {e : Int} {w : World} (hC : Kd.C (kq w0) w A n M) (hb : Below w0.heap.size w0 w) (hs : s.size ≤ maxLen) (hI : ∀ x ∈ M, IsB x.f1) :
    Calls Tryd.prog 56 #[.agg #[.slice A n c], .string s, .int .i64 e] w fun x w' => ∃ v, x = .returned v ∧ keyV w' (rightL s e) (findM M e) (textS s e) v ∧ Below w.heap.size w w' := by
  have hB0 : Below w.heap.size w (w.alloc (.cells #[.slice A n c] 70)) := (Below.refl _ w).alloc (Nat.le_refl _) _
  have hX0 : Blk (w.alloc (.cells #[.slice A n c] 70)) w.heap.size 70 [.slice A n c] := heap_alloc_new _ _
  have HC := Aside0.mk (Kd.C_below hC hB0)
  have HBW := Aside0.mk (below_next hb hB0)
  have HI := Aside0.mk hI
  have HS := Aside0.mk hs
  clear hC hI hs hb
  go_enter Tryd.func56, Tryd.ntmps56
  go_upto_region 1 with (fail)
  generalize hW : w.alloc _ = W0
  rw [hW] at HC hB0 hX0 HBW
  clear hW
  have cb : W0.cell? ⟨w.heap.size, 0, none⟩ = some (.slice A n c) := Blk.cell hX0 0
  clear hX0
  have HB := Aside0.mk hB0
  clear hB0
  go_wp2_with fail
  refine (refRight65_c HS.out).mono ?_
  rintro x w1 ⟨rfl, rfl⟩
  cases hf : rightL s e with
  | false =>
    have HF := Aside0.mk hf
    clear hf
    go_wp2_with fail
    go_ret2
    rw [HF.out]
    exact ⟨_, rfl, rfl, HB.out⟩
  | true =>
    have HF := Aside0.mk hf
    clear hf
    go_wp2_with fail
    refine (find79_c HC.out).mono ?_
    rintro x w1 ⟨v, rfl, hv, hb1⟩
    have hB1 := below_next HB.out hb1
    cases hm : findM M e with
    | some key =>
      rw [hm] at hv
      obtain ⟨B, d, rfl, hr⟩ := hv
      have hIk : IsB key := by
        obtain ⟨x, hx, rfl, _⟩ := findM_mem hm
        exact HI.out x hx
      have HR := Aside0.mk (hr.below (below_next HBW.out hb1))
      have HIK := Aside0.mk hIk
      have HFM := Aside0.mk hm
      clear hr hm hIk
      go_wp2_with fail
      refine (refKey50_yes HR.out HIK.out HF.out).mono ?_
      rintro x w2 ⟨A2, c2, rfl, r2, hb2⟩
      have R2 := Aside0.mk r2
      clear r2
      go_wp2_with fail
      go_ret2
      rw [HF.out, HFM.out]
      exact ⟨_, rfl, ⟨A2, c2, rfl, R2.out⟩, below_next hB1 hb2⟩
    | none =>
      rw [hm] at hv
      obtain rfl : v = .tuple #[.slice none 0 0, .bool false] := hv
      have HFM := Aside0.mk hm
      clear hm
      go_wp2_with fail
      go_ret2
      rw [HF.out, HFM.out]
      exact ⟨_, rfl, rfl, hB1⟩
set_option maxHeartbeats 4000000 in
set_option maxRecDepth 100000 in
theorem Epochs60_c {w0 : World} {A : Option Addr} {c n : Nat} {M : List S107} {w : World} (hC : Kd.C (kq w0) w A n M) (h0 : findM M 0 = none) :
    Calls Tryd.prog 60 #[.agg #[.slice A n c]] w fun e w' => ∃ v, e = .returned v ∧ OwI w' w.heap.size v (epochsS M) ∧ Below w.heap.size w w' := by
  have hB0 : Below w.heap.size w (w.alloc (.cells #[.slice A n c] 70)) := (Below.refl _ w).alloc (Nat.le_refl _) _
  have hX0 : Blk (w.alloc (.cells #[.slice A n c] 70)) w.heap.size 70 [.slice A n c] := heap_alloc_new _ _
  have HC := Aside0.mk (Kd.C_below hC hB0)
  have hE1 : epochsTo M 1 = [] := by
    have h := epochsTo_none (M := M) (j := 0) (by rw [show ((0 : Nat) : Int) = 0 from rfl, h0]; rfl)
    rw [h]; rfl
  have HE1 := Aside0.mk hE1
  clear hC hE1 h0
  go_enter Tryd.func60, Tryd.ntmps60
  go_upto_region 1 with (fail)
  generalize hW : w.alloc _ = W0
  rw [hW] at HC hB0 hX0
  clear hW
  have HX := Aside0.mk hX0
  have HB := Aside0.mk hB0
  clear hX0 hB0
  have HO : Aside0 (OwI W0 W0.heap.size (.slice none 0 0) (epochsTo M 1)) := ⟨by rw [HE1.out]; exact Kd.R_nil _ _ _ _ _⟩
  clear HE1
  go_wp2_with fail
  go_loopw [4, 3] (fun i v wr => ∃ (j : Nat) (u : Value), 1 ≤ j ∧ j ≤ 65 ∧ i = .int .i64 j ∧ u = v ∧ Aside0 (OwI wr W0.heap.size u (epochsTo M j)) ∧ Below W0.heap.size W0 wr) (fun i _ _ => 65 - (intOf i).toNat)
  case atStart => exact ⟨1, _, by omega, by omega, rfl, rfl, HO, Below.refl _ _⟩
  case round =>
    clear HO
    obtain ⟨j, u, hj1, hj, rfl, rfl, hV, hb⟩ := hrel
    by_cases hlt : j ≤ 64
    · have hlt' : (j : Int) ≤ 64 := by omega
      have hlt2 : decide ((j : Int) ≤ 64) = true := decide_eq_true hlt'
      have hle := epochsTo_le M j
      have cb : wr.cell? ⟨w.heap.size, 0, none⟩ = some (.slice A n c) := Blk.cell (Blk.below HX.out hb) 0
      go_wp2_with fail
      refine (find79_c (Kd.C_below HC.out hb)).mono ?_
      rintro x w1 ⟨v1, rfl, hv, hb1⟩
      have hB1 := below_next hb hb1
      have hV1 := Kd.R_below hV.out hb1
      cases hf : findM M (j : Int) with
      | some key =>
        have HN := Aside0.mk (epochsTo_some (M := M) (j := j) (by rw [hf]; rfl))
        rw [hf] at hv
        obtain ⟨B, d, rfl, _⟩ := hv
        have HV1 := Aside0.mk hV1
        clear hf hV1
        go_wp2_with (first
          | (at_builtin; refine append_owI (w0 := W0) W0.heap.size rfl (.tmp 18) (.tmp 20) rfl u (epochsTo M j) [(j : Int)] (some ⟨w1.heap.size, 0, none⟩) 1 1 rfl rfl (Kd.R_alloc HV1.out _) (one_int w1 j) (hB1.alloc hB1.size _) (Nat.le_trans hB1.size (by simp)) (by omega) ?_; intro v7 w7 ho7 hb7; rw [← HN.out] at ho7; have HO7 := Aside0.mk ho7; clear ho7))
        go_roundw
        case rel => exact ⟨j + 1, v7, by omega, by omega, by go_num, rfl, HO7, hb7⟩
        case measure => simp [intOf]; omega
      | none =>
        have HN := Aside0.mk (epochsTo_none (M := M) (j := j) (by rw [hf]; rfl))
        rw [hf] at hv
        obtain rfl : v1 = .tuple #[.slice none 0 0, .bool false] := hv
        have HV1 := Aside0.mk hV1
        clear hf hV1
        go_wp2_with fail
        go_roundw
        case rel => exact ⟨j + 1, u, by omega, by omega, by go_num, rfl, ⟨by rw [HN.out]; exact HV1.out⟩, hB1⟩
        case measure => simp [intOf]; omega
    · have hge : ¬ (j : Int) ≤ 64 := by omega
      have hge2 : decide ((j : Int) ≤ 64) = false := decide_eq_false hge
      obtain rfl : j = 65 := by omega
      have hV' : Aside0 (OwI wr W0.heap.size u (epochsS M)) := ⟨hV.out⟩
      clear hV
      go_wp2_with fail
      go_ret
      exact ⟨_, rfl, Kd.R_lower hV'.out HB.out.size, below_next HB.out hb⟩
/-- The greatest epoch among the first. -/
def maxTo (M : List S107) (T : Nat) : Int := (M.take T).foldl (fun n x => if n < x.f0 then x.f0 else n) 0
theorem maxTo_succ {M : List S107} {T : Nat} (h : T < M.length) : maxTo M (T + 1) = if maxTo M T < (M.getD T z107).f0 then (M.getD T z107).f0 else maxTo M T := by
  unfold maxTo
  rw [List.take_add_one, List.getElem?_eq_getElem h, List.foldl_append, List.getD_eq_getElem?_getD, List.getElem?_eq_getElem h]
  rfl
set_option maxHeartbeats 2000000 in
set_option maxRecDepth 100000 in
theorem Last62_c {w0 : World} {A : Option Addr} {c n : Nat} {M : List S107} {w : World} (hC : Kd.C (kq w0) w A n M) :
    Calls Tryd.prog 62 #[.agg #[.slice A n c]] w fun e w' => e = .returned (.int .i64 (maxTo M M.length)) ∧ Below w.heap.size w w' := by
  have hl : M.length = n := Kd.C_len hC
  have hB0 : Below w.heap.size w (w.alloc (.cells #[.slice A n c] 70)) := (Below.refl _ w).alloc (Nat.le_refl _) _
  have hX0 : Blk (w.alloc (.cells #[.slice A n c] 70)) w.heap.size 70 [.slice A n c] := heap_alloc_new _ _
  have HC := Aside0.mk (Kd.C_below hC hB0)
  have hmax : n ≤ 9223372036854775807 := Kd.C_max hC
  have HL := Aside0.mk hl
  rw [hl]
  clear hC hl
  go_enter Tryd.func62, Tryd.ntmps62
  go_upto_region 1 with (fail)
  generalize hW : w.alloc _ = W0
  rw [hW] at HC hB0 hX0
  clear hW
  have cb : W0.cell? ⟨w.heap.size, 0, none⟩ = some (.slice A n c) := Blk.cell hX0 0
  have HB := Aside0.mk hB0
  clear hX0 hB0
  go_wp2_with fail
  go_loopw [4, 3] (fun i v wr => ∃ (T : Nat) (z : Int), T ≤ n ∧ i = .int .i64 T ∧ v = .int .i64 z ∧ wr = W0 ∧ Aside0 (maxTo M T = z)) (fun i _ _ => n - (intOf i).toNat)
  case atStart => exact ⟨0, 0, by omega, rfl, rfl, rfl, ⟨rfl⟩⟩
  case round =>
    obtain ⟨T, z, hT, rfl, rfl, rfl, hZ⟩ := hrel
    by_cases hlt : T < n
    · have hlt' : (T : Int) < (n : Int) := by omega
      obtain ⟨ad, B, c1, rfl, k0, k1, _⟩ := mq_at HC.out T hlt
      have hS := maxTo_succ (M := M) (T := T) (by rw [HL.out]; exact hlt)
      rw [hZ.out] at hS
      generalize (M.getD T z107).f0 = f at k0 hS
      obtain ⟨z', hz'⟩ : ∃ z', (if z < f then f else z) = z' := ⟨_, rfl⟩
      rw [hz'] at hS
      have HS := Aside0.mk hS
      clear hS k1
      go_wp2_with fail
      go_roundw
      case rel => exact ⟨T + 1, z', by omega, by go_num, (by first | rfl | (simp; done) | (simp only [← hz'] <;> (first | rfl | simp))), (by first | rfl | trivial), HS⟩
      case measure => simp [intOf]; omega
    · have hge : ¬ (T : Int) < (n : Int) := by omega
      obtain rfl : T = n := by omega
      have HZ : Aside0 (z = maxTo M T) := ⟨hZ.out.symm⟩
      clear hZ
      go_wp2_with fail
      go_ret
      exact ⟨by rw [← HZ.out]; rfl, HB.out⟩
/-- The masters that may stand on a ring. -/
def OkM (M : List S107) : Prop := ∀ x ∈ M, x.f1.length = 32 ∧ IsB x.f1 ∧ 1 ≤ x.f0 ∧ x.f0 ≤ 64
theorem findM_out {M : List S107} (h : OkM M) {e : Int} (he : e < 1 ∨ 64 < e) : findM M e = none := by
  cases hf : findM M e with
  | none => rfl
  | some key =>
    obtain ⟨x, hx, _, rfl⟩ := findM_mem hf
    obtain ⟨_, _, h1, h2⟩ := h x hx
    omega
theorem maxTo_le {M : List S107} : ∀ T, T ≤ M.length → ∀ x ∈ M.take T, x.f0 ≤ maxTo M T
  | 0, _, x, hx => by simp at hx
  | T + 1, hT, x, hx => by
    rw [maxTo_succ (by omega)]
    rw [List.take_add_one, List.getElem?_eq_getElem (by omega)] at hx
    have hg : M.getD T z107 = M[T]'(by omega) := by rw [List.getD_eq_getElem?_getD, List.getElem?_eq_getElem (by omega)]; rfl
    rw [hg]
    rcases List.mem_append.1 hx with hx | hx
    · have := maxTo_le T (by omega) x hx
      split <;> omega
    · simp at hx
      subst hx
      split <;> omega
theorem maxTo_in {M : List S107} : ∀ T, T ≤ M.length → maxTo M T = 0 ∨ ∃ x ∈ M, x.f0 = maxTo M T
  | 0, _ => .inl rfl
  | T + 1, hT => by
    rw [maxTo_succ (by omega)]
    have hg : M.getD T z107 = M[T]'(by omega) := by rw [List.getD_eq_getElem?_getD, List.getElem?_eq_getElem (by omega)]; rfl
    rw [hg]
    split
    · exact .inr ⟨_, List.getElem_mem _, rfl⟩
    · exact maxTo_in T (by omega)
theorem findM_some {M : List S107} {x : S107} (hx : x ∈ M) : (findM M x.f0).isSome = true := by
  unfold findM
  rw [Option.isSome_map, List.find?_isSome]
  exact ⟨x, hx, by simp⟩
theorem epochsTo_from {M : List S107} {j : Nat} : ∀ k, (∀ i : Nat, j ≤ i → i < j + k → (findM M (i : Int)).isSome = false) → epochsTo M (j + k) = epochsTo M j
  | 0, _ => rfl
  | k + 1, h => by
    rw [← Nat.add_assoc, epochsTo_none (h (j + k) (by omega) (by omega))]
    exact epochsTo_from k (fun i h1 h2 => h i h1 (by omega))
theorem max_last {M : List S107} (h : OkM M) : maxTo M M.length = lastS M := by
  have hle : ∀ x ∈ M, x.f0 ≤ maxTo M M.length := fun x hx => maxTo_le _ (Nat.le_refl _) x (by rwa [List.take_length])
  have hnone : ∀ e : Int, maxTo M M.length < e → (findM M e).isSome = false := by
    intro e he
    cases hf : findM M e with
    | none => rfl
    | some key =>
      obtain ⟨x, hx, _, rfl⟩ := findM_mem hf
      have := hle x hx
      omega
  rcases maxTo_in (M := M) M.length (Nat.le_refl _) with h0 | ⟨x, hx, h0⟩
  · have h1 : epochsTo M 1 = [] := by
      have h := epochsTo_none (M := M) (j := 0) (by rw [show ((0 : Nat) : Int) = 0 from rfl, findM_out h (.inl (by omega))]; rfl)
      rw [h]; rfl
    have h2 : epochsTo M (1 + 64) = epochsTo M 1 := epochsTo_from 64 (fun i hi _ => hnone _ (by omega))
    have h3 : epochsS M = [] := by unfold epochsS; rw [show (65 : Nat) = 1 + 64 from rfl, h2, h1]
    rw [h0]; unfold lastS; rw [h3]; rfl
  · obtain ⟨_, _, h1, h2⟩ := h x hx
    obtain ⟨j, hj⟩ := Int.eq_ofNat_of_zero_le (a := x.f0) (by omega)
    have e1 : epochsTo M (j + 1) = epochsTo M j ++ [(j : Int)] := epochsTo_some (by rw [← hj]; exact findM_some hx)
    have e2 : epochsTo M (j + 1 + (64 - j)) = epochsTo M (j + 1) := epochsTo_from _ (fun i hi _ => hnone _ (by omega))
    have e3 : epochsS M = epochsTo M j ++ [(j : Int)] := by unfold epochsS; rw [show (65 : Nat) = j + 1 + (64 - j) by omega, e2, e1]
    rw [← h0, hj]; unfold lastS; rw [e3, List.getD_eq_getElem?_getD]
    simp
end Go.Proofs.YtmmbonlidcbkcaaDoor.LbQ
