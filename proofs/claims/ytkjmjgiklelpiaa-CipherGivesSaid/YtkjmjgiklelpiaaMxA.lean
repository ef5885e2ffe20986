/- cipher.Mix: regions within a round; the law of what is mixed. -/
import Derived.Test.YtkjmjgiklelpiaaApp
import Derived.Test.YtkjmjgiklelpiaaQuart
import Derived.Test.YtkjmjgiklelpiaaPlainCipherBlocks
import Derived.Deep.RegionHeld3
import Derived.Deep.Cut
import Derived.Deep.CutRange
import Derived.Test.YtkjmjgiklelpiaaItA
import Derived.Test.YtkjmjgiklelpiaaRz
import Derived.OpenShut
import Derived.RangeFuncBound
import Derived.Shelf.RegionOpen
import Derived.WalkKit
import Derived.OwnWalkIn
import Derived.TacticsInMore
import Derived.LoopNIn
import Derived.LoopIn
import Derived.Test.YtkjmjgiklelpiaaWMore
namespace Go.Proofs.Ytkjmjgiklelpiaa.MxA
open Go.RowKit Go.Proofs.YtkjmjgiklelpiaaW.PrintWords Go.Proofs.Ytkjmjgiklelpiaa.Num Go.Proofs.Ytkjmjgiklelpiaa.WordC Go.Proofs.Ytkjmjgiklelpiaa.Arr Go.Proofs.Ytkjmjgiklelpiaa.App Go.Proofs.Ytkjmjgiklelpiaa.CiC Go.Proofs.Ytkjmjgiklelpiaa.CiD Go.Proofs.Ytkjmjgiklelpiaa.CiB Go.Proofs.Ytkjmjgiklelpiaa.CiK Go.Proofs.Ytkjmjgiklelpiaa.CiL Go.Proofs.Ytkjmjgiklelpiaa.Rz Go.Proofs.Ytkjmjgiklelpiaa.ItA
set_option linter.unusedVariables false
set_option linter.unusedSimpArgs false

/-! ### regions that hold no defer, in a round -/
def plainOps (ops : Array Oper) : Bool := ops.all fun o => match o.op with | .defer _ => false | _ => true
theorem plainOps_spec {ops : Array Oper} (h : plainOps ops = true) {i : Nat} {o : Oper} (ho : ops[i]? = some o) : ∀ c, o.op ≠ .defer c := by
  intro c e
  have hm := Array.mem_of_getElem? ho
  have h2 := (Array.all_eq_true_iff_forall_mem.1 h) o hm
  simp [e] at h2
/-- The post, but False where the machine is outgrown. -/
def NoOut (Q : Exit → Act → World → Prop) : Exit → Act → World → Prop
  | .outgrown, _, _ => False
  | e, a, w => Q e a w
theorem noOut_lets {Q : Exit → Act → World → Prop} (h : LetsOut (NoOut Q)) : False := by obtain ⟨_, _, h⟩ := h; exact h
theorem oper_in {P : Program} {l n : Nat} {o : Oper} {a : Act} {w : World} {K : Act → World → Prop} {Q : Exit → Act → World → Prop} (hd : ∀ c, o.op ≠ .defer c) (h : o.wp P a w K (NoOut Q)) : o.wpIn (Fence.wide.inRound l) n P a w K Q := by
  refine ⟨fun _ _ => trivial, ?_⟩
  show o.uponIn (Fence.wide.inRound l) n P a K Q ((o.semAt (some l) a.eval).run P w)
  rw [Oper.semAt_some l _ _ hd]
  unfold Oper.wp at h
  generalize (execOp a.eval o).run P w = r at h ⊢
  cases r with
  | ok x w' =>
    cases x with
    | value v => exact h
    | skip => exact h
    | defer d => exact h
    | enter f args =>
      refine ⟨(fun hn => by cases hn), CallsIn.inRound l (callsIn_wide.2 (Calls.mono (R := _) h ?_))⟩
      rintro e w'' he
      cases e with
      | returned v => exact he
      | panicked c => exact he
      | outgrown => exact (noOut_lets he).elim
    | row r args => exact ⟨(fun hn => by cases hn), fun c cs _ => by
        obtain ⟨v, w'', hr, hs⟩ := h c cs
        exact ⟨v, w'', hr, stepsIn_wide.2 hs⟩⟩
    | round l' f t x y => exact h.elim
    | _ => exact h
  | halt x w' => cases x <;> exact h
theorem list_in {P : Program} {l n : Nat} {ops : Array Oper} {Q : Exit → Act → World → Prop} : ∀ (os : List Oper) (a : Act) (w : World), (∀ o ∈ os, ∀ c, o.op ≠ .defer c) → wpList P ops (NoOut Q) os a w → wpListIn (Fence.wide.inRound l) n P ops Q os a w
  | [], a, w, _, h => h
  | o :: os, a, w, hd, h => by
    unfold wpList at h
    unfold wpListIn
    by_cases hw : Region.wanted o (yielded ops a.tmps) = true
    · rw [if_pos hw] at h ⊢
      rcases h with h | ⟨_, h⟩
      · exact oper_in (hd o (List.mem_cons_self)) (Oper.wp_mono (fun a w h => list_in os a w (fun o ho => hd o (List.mem_cons_of_mem _ ho)) h) h)
      · exact (noOut_lets h).elim
    · rw [if_neg hw] at h ⊢
      exact ⟨fun _ _ => trivial, list_in os _ w (fun o ho => hd o (List.mem_cons_of_mem _ ho)) h⟩
theorem region_in {P : Program} {l n id : Nat} {os : List Oper} {Q : Exit → Act → World → Prop} {a : Act} {w : World} (hd : plainOps os.toArray = true) (h : wpList P os.toArray (NoOut Q) os a w) : (Code.region id os.toArray false).wpIn (Fence.wide.inRound l) n P Q a w :=
  wpIn_region_lit (list_in os a w (fun o ho c => by
    obtain ⟨i, hi, rfl⟩ := List.mem_iff_getElem.1 ho
    exact plainOps_spec hd (i := i) (by simp [hi]) c) h)
theorem ops_in {P : Program} {l n : Nat} {ops : Array Oper} {Q : Exit → Act → World → Prop} (hd : plainOps ops = true) : ∀ (is : List Nat) (a : Act) (w : World), wpOps P ops (NoOut Q) is a w → wpOpsIn (Fence.wide.inRound l) n P ops Q is a w
  | [], a, w, h => h
  | i :: is, a, w, h => by
    unfold wpOps at h
    unfold wpOpsIn
    cases ho : ops[i]? with
    | none => rw [ho] at h; exact ops_in hd is a w h
    | some o =>
      rw [ho] at h
      simp only [] at h ⊢
      by_cases hw : Region.wanted o (yielded ops a.tmps) = true
      · rw [if_pos hw] at h ⊢
        rcases h with h | ⟨_, h⟩
        · exact oper_in (plainOps_spec hd ho) (Oper.wp_mono (fun a w h => ops_in hd is a w h) h)
        · exact (noOut_lets h).elim
      · rw [if_neg hw] at h ⊢
        exact ⟨fun _ _ => trivial, ops_in hd is _ w h⟩
theorem region_any_in {P : Program} {l n id : Nat} {ops : Array Oper} {Q : Exit → Act → World → Prop} {a : Act} {w : World} (hm : P.follows .mixedOrders = true) (hd : plainOps ops = true) (h : wpAny P .any ops (NoOut Q) ops.size (Array.replicate ops.size false) a w.drew) : (Code.region id ops true).wpIn (Fence.wide.inRound l) n P Q a w :=
  wpIn_region_draw fun t => by
    simp only [Region.schedule, hm, Bool.true_or, if_true]
    exact ops_in hd _ _ _ (wpAny_sound ops.size t _ a _ h)
/-- The stream: byte i of the blocks from a counter on. -/
def ks (G : List Int) (m : Int) (i : Nat) : Int := (blkS (G.set 12 (m + ((i / 64 : Nat) : Int)))).getD (i % 64) 0
/-- Bytes mixed, in their place, up to the i-th. -/
def mixT (f : Nat → Int) (b : List Int) : Nat → List Int
  | 0 => b
  | i + 1 => (mixT f b i).set i (Go.bits .xor .u8 ((mixT f b i).getD i 0) (f i))
theorem mixT_length (f : Nat → Int) (b : List Int) (i : Nat) : (mixT f b i).length = b.length := by
  induction i with
  | zero => rfl
  | succ i ih => simp [mixT, ih]
theorem xor_u8 {x y : Int} (hx : 0 ≤ x ∧ x < 256) (hy : 0 ≤ y ∧ y < 256) : 0 ≤ Go.bits .xor .u8 x y ∧ Go.bits .xor .u8 x y < 256 := by
  have h := wf_bits .xor .u8 x y
  exact wf_u8 h
theorem getDB {l : List Int} (h : IsB l) (i : Nat) : 0 ≤ l.getD i 0 ∧ l.getD i 0 < 256 := by
  rw [List.getD_eq_getElem?_getD]
  by_cases hi : i < l.length
  · rw [List.getElem?_eq_getElem hi]; exact h _ (List.getElem_mem hi)
  · rw [List.getElem?_eq_none (by omega)]; exact ⟨Int.le_refl _, by decide⟩
theorem mixT_isB {f : Nat → Int} {b : List Int} (hb : IsB b) (hf : ∀ i, 0 ≤ f i ∧ f i < 256) (i : Nat) : IsB (mixT f b i) := by
  induction i with
  | zero => exact hb
  | succ i ih =>
    intro y hy
    rcases List.mem_or_eq_of_mem_set hy with hy | rfl
    · exact ih y hy
    · exact xor_u8 (getDB ih i) (hf i)
theorem ks_isB (G : List Int) (m : Int) (i : Nat) : 0 ≤ ks G m i ∧ ks G m i < 256 := getDB (blkS_isB _) _
set_option maxHeartbeats 8000000 in
set_option maxRecDepth 100000 in
theorem Blocks_c {A B : Option Addr} {c d : Nat} {k o : List Int} {m : Int} {w : World} (hk : Rd w A 32 c k) (ho : Rd w B 12 d o) (bk : IsB k) (bo : IsB o) :
    Calls Try.prog 21 #[.slice A 32 c, .slice B 12 d, .int .u32 m] w fun e w' => ∃ gw gf go, e = .returned (.func (.func 46) #[] #[.pointer (some ⟨gw, 0, none⟩), .pointer (some ⟨gf, 0, none⟩), .pointer (some ⟨go, 0, none⟩)]) ∧
      Blk w' gw 65 (nums .u32 (g0S k o)) ∧ Blk w' gf 23 [.int .u32 m] ∧ Blk w' go 4 [.bool true] ∧ w.heap.size ≤ gw ∧ w.heap.size ≤ gf ∧ w.heap.size ≤ go ∧ Below w.heap.size w w' := by
  have HF : Aside0 (Blk (w.alloc (.cells #[.int .u32 m] 23)) w.heap.size 23 [.int .u32 m]) := ⟨heap_alloc_new _ _⟩
  have HB := Aside0.mk ((Below.refl w.heap.size w).alloc (Nat.le_refl _) (.cells #[.int .u32 m] 23))
  have HK := Aside0.mk (hk.alloc (.cells #[.int .u32 m] 23))
  have HO := Aside0.mk (ho.alloc (.cells #[.int .u32 m] 23))
  have hl32 := hk.len
  have hl12 := ho.len
  have hGl : Aside0 ((g0S k o).length = 16) := ⟨by have := gS_length k o 0 hl32 hl12; exact this⟩
  clear hk ho hl32 hl12
  go_enter Try.func21, Try.ntmps21
  go_wp2_with fail
  refine (begun_yes HK.out HO.out bk bo).mono ?_
  rintro x w1 ⟨rfl, hb1⟩
  have HB1 := Aside0.mk (below_next HB.out hb1)
  have HF1 := Aside0.mk (Blk.below HF.out hb1)
  obtain ⟨G, HGG⟩ : ∃ z, Aside0 (g0S k o = z) := ⟨_, ⟨rfl⟩⟩
  rw [HGG.out] at hGl ⊢
  have hX : Aside0 (Blk ((w1.alloc (.cells (nums .u32 (List.replicate 16 0)).toArray 65)).alloc (.cells #[.bool false] 4)) w1.heap.size 65 (nums .u32 (List.replicate 16 0))) := ⟨heap_alloc2_old _ _ _⟩
  have hY : Aside0 (Blk ((w1.alloc (.cells (nums .u32 (List.replicate 16 0)).toArray 65)).alloc (.cells #[.bool false] 4)) (w1.heap.size + 1) 4 [.bool false]) := ⟨heap_alloc2_new _ _ _⟩
  have HB2 := Aside0.mk ((HB1.out.alloc HB1.out.size (.cells (nums .u32 (List.replicate 16 0)).toArray 65)).alloc (by simp; exact Nat.le_trans HB1.out.size (by omega)) (.cells #[.bool false] 4))
  have HF2 := Aside0.mk (Blk.below' HF1.out (((Below.refl w1.heap.size w1).alloc (Nat.le_refl _) (.cells (nums .u32 (List.replicate 16 0)).toArray 65)).alloc (by simp) (.cells #[.bool false] 4)) (Blk.lt HF1.out))
  have hs1 := HB1.out.size
  clear hb1
  go_wp2_with (first
    | (refine store_arr rfl 65 (.tmp 7) (.tmp 13) rfl w1.heap.size .u32 G rfl rfl 65 16 _ hX.out size65 hGl.out (by rw [nums_length]; rfl) ?_; intro w3 hV hg3
       have HV := Aside0.mk hV
       have HB3 := Aside0.mk (HB2.out.grown hg3 HB2.out.size (fun k hk => by cases hk; exact hs1))
       have HY3 := Aside0.mk ((hg3.block _ (Blk.lt hY.out) (by intro e; injection e with e; omega)).trans hY.out)
       have HF3 := Aside0.mk ((hg3.block _ (Blk.lt HF2.out) (by intro e; injection e with e; have := Blk.lt HF1.out; omega)).trans HF2.out)
       have k4 : w3.cell? ⟨w1.heap.size + 1, 0, none⟩ = some (.bool false) := Blk.cell HY3.out 0
       have f4 := Blk.frozen HY3.out 0
       clear hV hg3))
  go_ret
  have hlt1 := Blk.lt HF1.out
  refine ⟨_, _, _, rfl, ?_, ?_, ?_, hs1, Nat.le_refl _, by omega, ?_⟩
  · rw [HGG.out]; exact Blk.far HV.out (p := ⟨w1.heap.size + 1, 0, none⟩) (by simp) _
  · exact Blk.far HF3.out (p := ⟨w1.heap.size + 1, 0, none⟩) (by simp; omega) _
  · exact Blk.set_ HY3.out 0 (.bool true)
  · exact HB3.out.setCell (p := ⟨w1.heap.size + 1, 0, none⟩) (by simp; omega) _
theorem retM {P : Program} {n : Nat} {fn : Func} {R : Ending → World → Prop} {a : Act} {w : World} {v : Value} (hd : a.defers = []) (hres : (results fn a.tmps).run P w = .ok v w) (h : R (.returned v) w) : bodyPostM Fence.wide n P fn R .ret a w := by
  show LeavesInM Fence.wide n P fn a.tmps R a.defers .returning w
  rw [hd]
  exact ⟨v, hres, h⟩
theorem retD {P : Program} {n D : Nat} {fn : Func} {R : Ending → World → Prop} {a : Act} {w : World} {v : Value} (hd : a.defers = [{ target := .collected D, args := #[] }]) (hK : w.heap[D]? = some (.deferred (some []))) (hres : (results fn a.tmps).run P (w.putObj D (.deferred none)) = .ok v (w.putObj D (.deferred none))) (h : R (.returned v) (w.putObj D (.deferred none))) : bodyPostM Fence.wide n P fn R .ret a w := by
  show LeavesInM Fence.wide n P fn a.tmps R a.defers .returning w
  rw [hd]
  exact ⟨by simp, .inl ⟨_, _, rfl, run_takeDeferred hK, ⟨v, hres, h⟩⟩⟩
theorem wpList_min {ops : Array Oper} {rest : List Oper} {o : Oper} {a : Act} {w : World} {Q : Exit → Act → World → Prop} (hgd : o.guard = none) (x y : Operand)
    (ho : o.op = .call { callee := .builtin .min, args := #[x, y], argTypes := #[3, 3] }) (p q : Int) (hx : a.eval x = .int .i64 p) (hy : a.eval y = .int .i64 q) (m : Int) (hm : (if q < p then q else p) = m)
    (h : wpList Try.prog ops Q rest (a.put o.dst (.int .i64 m)) w) : wpList Try.prog ops Q (o :: rest) a w :=
  wpList_plain hgd fun _ hK => by
    subst hm
    unfold Oper.wp
    simp [execOp, ho, resolve, invoke, builtin, hx, hy, Go.Proofs.YtkjmjgiklelpiaaW.PrintMore.min_two, Go.Proofs.YtkjmjgiklelpiaaW.PrintMore.min2_int, Result.andThen]
    exact hK _ _ h
theorem ow_cellN {w : World} {base g n cap : Nat} {l : List Int} (h : Ow w base (.slice (some ⟨g, 0, none⟩) n cap) l) (i : Nat) (hi : i < n) : w.cell? ⟨g, i, none⟩ = some (.int .u8 (l.getD i 0)) ∧ w.frozen? ⟨g, i, none⟩ = false := Kd.R_celln (0 : Int) h (i : Int) (by omega) (by omega)
theorem ow_putN {w : World} {base g n cap : Nat} {l : List Int} (h : Ow w base (.slice (some ⟨g, 0, none⟩) n cap) l) (i : Nat) (x : Int) : Ow (w.setCell ⟨g, i, none⟩ (.int .u8 x)) base (.slice (some ⟨g, 0, none⟩) n cap) (l.set i x) := Kd.R_putn h (i : Int) x
theorem ow_below' {A B : World} {N base g n c : Nat} {xs : List Int} (h : Ow A base (.slice (some ⟨g, 0, none⟩) n c) xs) (hb : Below N A B) (hg : g < N) : Ow B base (.slice (some ⟨g, 0, none⟩) n c) xs :=
  Kd.R_mono (Kd.R_step (Kd.R_tight rfl h) (fun k hk _ => hb.block k (by
    have : k = g := by simpa [Value.ownBlock] using hk
    omega))) (fun _ _ => trivial)
attribute [local go_sem] Oper.semAt_some
set_option maxHeartbeats 8000000 in
set_option maxRecDepth 100000 in
theorem Mix_c {A B C : Option Addr} {c d e n : Nat} {k o b : List Int} {m : Int} {w : World} (hk : Rd w A 32 c k) (ho : Rd w B 12 d o) (hb : Rd w C n e b) (bk : IsB k) (bo : IsB o) (bb : IsB b) (h0 : 0 ≤ m) (h1 : m < 4294967296) (hn : n ≤ 1000000) (hcap : (n : Int) ≤ (4294967296 - m) * 64) :
    Calls Try.prog 23 #[.slice A 32 c, .slice B 12 d, .int .u32 m, .slice C n e] w fun x w' => ∃ v, x = .returned (.tuple #[v, .int .i64 0]) ∧ Ow w' w.heap.size v (mixT (ks (g0S k o) m) b n) ∧ Below w.heap.size w w' := by
  have HK := Aside0.mk hk
  have HO := Aside0.mk ho
  have HBB := Aside0.mk hb
  have HW := Aside0.mk (Below.refl w.heap.size w)
  have HN : Aside0 (Ow w w.heap.size (.slice none 0 0) []) := ⟨Kd.R_nil _ _ _ _ _⟩
  have e1 : ((4294967296 : Int) - m) % 18446744073709551616 = 4294967296 - m := by omega
  have e2 : ((4294967296 - m) * 64 : Int) % 18446744073709551616 = (4294967296 - m) * 64 := by omega
  have e3 : (n : Int) % 18446744073709551616 = n := by omega
  have e4 : m % 18446744073709551616 = m := by omega
  have hc1 : ¬ (4294967296 - m) * 64 < (n : Int) := by omega
  clear hk ho hb
  refine callsIn_wide.1 (callsIn_of_wp_marks (n := 2) Try.func23 rfl trivial ?_)
  refine wpIn_wide.2 ?_
  simp only [Try.ntmps23, List.size_toArray, List.length_cons, List.length_nil, Nat.reduceAdd, Nat.reduceSub, Array.replicate_succ, Array.replicate_zero, List.push_toArray, List.append_toArray, List.nil_append, List.cons_append]
  have HLIT : Aside0 (Ow (w.alloc (.cells (nums .u8 []).toArray 5)) w.heap.size (.slice (some ⟨w.heap.size, 0, none⟩) 0 0) []) := ⟨Kd.R_of_own (own_lit w w.heap.size 5 .u8 [] (Nat.le_refl _) (by simp)) (fun _ _ => trivial)⟩
  have HBA := Aside0.mk ((Below.refl w.heap.size w).alloc (Nat.le_refl _) (.cells (nums .u8 []).toArray 5))
  have HBBA := Aside0.mk (HBB.out.alloc (.cells (nums .u8 []).toArray 5))
  have HKW := Aside0.mk HK.out
  by_cases hz : n = 0
  · subst hz
    go_wp2_with (first
      | (at_builtin; refine append_ow (w0 := w) w.heap.size rfl (.tmp 32) (.tmp 33) rfl (.slice (some ⟨w.heap.size, 0, none⟩) 0 0) [] b C 0 e rfl rfl HLIT.out HBBA.out HBA.out HBA.out.size (by simp) ?_; intro v1 w1 ho1 hb1 hg1 ha1; rw [List.nil_append] at ho1; have hlen := HBB.out.len; obtain ⟨A1, c1, rfl, r1⟩ := rd_of_own ho1; rw [hlen] at ho1 r1 ⊢; have HO1 := Aside0.mk ho1; have HB1 := Aside0.mk hb1; clear ho1 hb1 hg1 ha1 r1 hlen))
    refine retM (v := .tuple #[.slice A1 0 c1, .int .i64 0]) rfl (by simp [results, Try.results23, go_sem]) ?_
    exact ⟨_, rfl, Kd.R_alloc HO1.out _, HB1.out.alloc HB1.out.size _⟩
  · have hn0 : 0 < n := by omega
    have hz' : ¬ ((n : Int) = 0) := by omega
    go_wp2_with (first
      | (at_builtin; refine append_ow (w0 := w) w.heap.size rfl (.tmp 32) (.tmp 33) rfl (.slice (some ⟨w.heap.size, 0, none⟩) 0 0) [] b C n e rfl rfl HLIT.out HBBA.out HBA.out HBA.out.size (by simp; omega) ?_; intro v1 w1 ho1 hb1 hg1 ha1; rw [List.nil_append] at ho1; have hlen := HBB.out.len; obtain ⟨A1, c1, rfl, r1⟩ := rd_of_own ho1; rw [hlen] at ho1 r1 ⊢; have HO1 := Aside0.mk ho1; have HB1 := Aside0.mk hb1; clear ho1 hb1 hg1 ha1 r1 hlen))
    obtain ⟨gb, cap, hv, hb0, hb1, -⟩ := Kd.R_form HO1.out (by rw [HBB.out.len]; exact hn0)
    injection hv with hv1 hv2 hv3
    subst hv1 hv3
    have HR2 : Aside0 (Blk (w1.alloc (.cells #[.slice (some ⟨gb, 0, none⟩) n c1] 22)) w1.heap.size 22 [.slice (some ⟨gb, 0, none⟩) n c1]) := ⟨heap_alloc_new _ _⟩
    have HB2 := Aside0.mk (HB1.out.alloc HB1.out.size (.cells #[.slice (some ⟨gb, 0, none⟩) n c1] 22))
    have HO2 := Aside0.mk (Kd.R_alloc HO1.out (.cells #[.slice (some ⟨gb, 0, none⟩) n c1] 22))
    have hs1 := HB1.out.size
    have HL12 := Aside0.mk (show k.length = 32 ∧ o.length = 12 from ⟨HK.out.len, HO.out.len⟩)
    have HBL := Aside0.mk HBB.out.len
    refine (Blocks_c (m := m) (HK.out.below HB2.out) (HO.out.below HB2.out) bk bo).mono ?_
    generalize hW2 : w1.alloc (.cells #[.slice (some ⟨gb, 0, none⟩) n c1] 22) = w2 at HR2 HB2 HO2 ⊢
    have hs2 : w2.heap.size = w1.heap.size + 1 := by rw [← hW2]; simp
    rintro x w3 ⟨gw, gf, go, rfl, hgw, hgf, hgo, l1, l2, l3, hb3⟩
    have HB3 := Aside0.mk (below_next HB2.out hb3)
    have HR3 := Aside0.mk (Blk.below HR2.out hb3)
    have HO3 := Aside0.mk (Kd.R_below HO2.out hb3)
    have hs3 := hb3.size
    clear hb3 hW2
    go_wp2_with fail
    generalize hact : ({ tmps := _, defers := [] } : Act) = act
    obtain ⟨L, HL⟩ : ∃ L : Nat, Aside0 (b.length = L) := ⟨_, ⟨rfl⟩⟩
    have hbl := HBL.out
    subst hbl
    rw [HL.out] at hact hn0 hcap hn HO3 HR3
    clear hc1 e3
    obtain ⟨F, HF⟩ : ∃ F : Nat → Int, Aside0 (ks (g0S k o) m = F) := ⟨_, ⟨rfl⟩⟩
    have HACT := Aside0.mk hact
    have hfun : act.eval (.tmp 43) = .func (.func 46) #[] #[.pointer (some ⟨gw, 0, none⟩), .pointer (some ⟨gf, 0, none⟩), .pointer (some ⟨go, 0, none⟩)] := by rw [← hact]; rfl
    have hG16 : (g0S k o).length = 16 := by have := gS_length k o 0 HL12.out.1 HL12.out.2; exact this
    have hGW : IsW (g0S k o) := gS_isW HL12.out.1 HL12.out.2 bk bo (Int.le_refl 0) (by decide)
    have hseq := blocks_seq (n := 2 - 1) (ok := true) hgw hgf hgo hG16 hGW h0 h1
    rw [if_pos rfl] at hseq
    have hw3 : w2.heap.size ≤ w3.heap.size := hs3
    clear hact
    refine (wpIn_wide (n := 2)).1 ?_
    refine range_z (lb := #[.pointer (some ⟨gw, 0, none⟩), .pointer (some ⟨gf, 0, none⟩), .pointer (some ⟨go, 0, none⟩)]) hfun (enters_of Try.func46 (by kernel_rfl) rfl) (Blk.lt hgo) hseq (fun _ => rfl)
      (fun j W => 64 * j < L ∧ Aside0 (Ow W w.heap.size (.slice (some ⟨gb, 0, none⟩) L c1) (mixT F b (64 * j))) ∧ Aside0 (Blk W w1.heap.size 22 [.slice (some ⟨gb, 64 * j, none⟩) (L - 64 * j) (c1 - 64 * j)]) ∧ Below w.heap.size w W)
      (fun c j W => c = .exit 0 ∧ Aside0 (Ow W w.heap.size (.slice (some ⟨gb, 0, none⟩) L c1) (mixT F b L)) ∧ Below w.heap.size w W)
      ?hI ?hIx ?h0
      (fun j a' W => ∃ Bx, Aside0 (Blk W Bx 25 (nums .u8 (blkS ((g0S k o).set 12 (m + (j : Nat)))))) ∧ w3.heap.size ≤ Bx ∧ a' = { tmps := ((act.tmps.setIfInBounds 44 (.int .u32 (m + (j : Nat)))).setIfInBounds 45 (.agg (nums .u8 (blkS ((g0S k o).set 12 (m + (j : Nat))))).toArray)).setIfInBounds 13 (.pointer (some ⟨Bx, 0, none⟩)), defers := [] })
      ?hAx ?hassign ?hbody ?hdone ?hstop
    case hI =>
      rintro j X Y ⟨i1, i2, i3, i4⟩ hxy
      exact ⟨i1, ⟨ow_below' i2.out hxy (by omega)⟩, ⟨Blk.below' i3.out hxy (by omega)⟩, i4.trans (hxy.mono (by have := HB3.out.size; omega))⟩
    case hIx =>
      rintro c' j X Y ⟨i1, i2, i4⟩ hxy
      exact ⟨i1, ⟨ow_below' i2.out hxy (by omega)⟩, i4.trans (hxy.mono (by have := HB3.out.size; omega))⟩
    case h0 => exact ⟨by omega, HO3, HR3, HB3.out⟩
    case hAx =>
      rintro x a' W l r o' ⟨Bx, hB, hge, rfl⟩ hl
      refine ⟨Bx, ⟨(World.putObj_heap_other (fun e => ?_)).trans hB.out⟩, hge, rfl⟩
      subst e
      have h9 := hl.symm.trans (show W.heap[Bx]? = some (Obj.cells _ 25 (0, 0)) from hB.out)
      cases h9
    case hassign =>
      intro l j W K hi hle hK
      have hs64 : Aside0 ((blkS ((g0S k o).set 12 (m + (j : Nat)))).length = 64) := ⟨blkS_length _⟩
      have hzip : (#[44, 45].zip (encB (g0S k o) m j)).foldl (fun t x => match x with | (p, v) => t.setIfInBounds p v) act.tmps = (act.tmps.setIfInBounds 44 (.int .u32 (m + (j : Nat)))).setIfInBounds 45 (.agg (nums .u8 (blkS ((g0S k o).set 12 (m + (j : Nat))))).toArray) := by simp [encB]
      rw [hzip]
      obtain ⟨S, HS⟩ : ∃ z, Aside0 (blkS ((g0S k o).set 12 (m + (j : Nat))) = z) := ⟨_, ⟨rfl⟩⟩
      rw [HS.out] at hs64 hK ⊢
      have HX0 : Aside0 (Blk (W.alloc (.cells (nums .u8 (List.replicate 64 0)).toArray 25)) W.heap.size 25 (nums .u8 (List.replicate 64 0))) := ⟨heap_alloc_new _ _⟩
      have HBW := Aside0.mk ((Below.refl W.heap.size W).alloc (Nat.le_refl _) (.cells (nums .u8 (List.replicate 64 0)).toArray 25))
      have hK' := Aside0.mk hK
      have hi' := Aside0.mk hi
      clear hK hi hzip
      obtain rfl := HACT.out
      clear HACT
      simp only [List.setIfInBounds_toArray, List.set_cons_zero, List.set_cons_succ]
      refine region_in (by kernel_rfl) ?_
      go_wp2_with (first
        | (refine store_arr rfl 25 (.tmp 13) (.tmp 45) rfl W.heap.size .u8 S rfl rfl 25 64 _ HX0.out size25 hs64.out (by rw [nums_length]; rfl) ?_; intro w4 hV hg4
           have HV := Aside0.mk hV
           have HB4 := Aside0.mk (HBW.out.grown hg4 HBW.out.size (fun k hk => by cases hk; exact Nat.le_refl _))
           clear hV hg4))
      have hbw : Below w3.heap.size W w4 := HB4.out.mono hle
      obtain ⟨i1, i2, i3, i4⟩ := hi'.out
      refine hK'.out _ _ ((KZ.refl _ _ _).next HB4.out) ⟨i1, ⟨ow_below' i2.out hbw (by omega)⟩, ⟨Blk.below' i3.out hbw (by omega)⟩, i4.trans (hbw.mono (by have := HB3.out.size; omega))⟩ ⟨W.heap.size, HV, hle, ?_⟩
      simp only [List.setIfInBounds_toArray, List.set_cons_zero, List.set_cons_succ]
    case hbody =>
      rintro l j a' W ⟨i1, i2, i3, i4⟩ ⟨Bx, hX, hge, rfl⟩ hj hle
      obtain rfl := HACT.out
      clear HACT
      simp only [List.setIfInBounds_toArray, List.set_cons_zero, List.set_cons_succ]
      obtain ⟨T, hT⟩ : ∃ T : Nat, T = min 64 (L - 64 * j) := ⟨_, rfl⟩
      have hmin : (if ((L - 64 * j : Nat) : Int) < 64 then ((L - 64 * j : Nat) : Int) else 64) = (T : Int) := by split <;> omega
      have kr : W.cell? ⟨w1.heap.size, 0, none⟩ = some (.slice (some ⟨gb, 64 * j, none⟩) (L - 64 * j) (c1 - 64 * j)) := Blk.cell i3.out 0
      have HT : Aside0 (T = min 64 (L - 64 * j)) := ⟨hT⟩
      clear hT
      refine wpIn_block ?_
      refine wpIn_seq ?_
      refine region_in (by kernel_rfl) ?_
      go_wp2_with (first
        | (at_builtin; refine wpList_min rfl (.const (.int .i64 64)) (.tmp 47) rfl 64 ((L - 64 * j : Nat) : Int) rfl rfl (T : Int) hmin ?_))
      simp only [NoOut, Exit.then]
      gi_wp2
      gi_loopw [50] (fun i wr => ∃ t : Nat, t ≤ T ∧ i = .int .i64 t ∧ Aside0 (Ow wr w.heap.size (.slice (some ⟨gb, 0, none⟩) L c1) (mixT F b (64 * j + t))) ∧ Aside0 (Blk wr Bx 25 (nums .u8 (blkS ((g0S k o).set 12 (m + (j : Nat)))))) ∧ KZ w3.heap.size go W wr ∧ Aside0 (Blk wr w1.heap.size 22 [.slice (some ⟨gb, 64 * j, none⟩) (L - 64 * j) (c1 - 64 * j)]) ∧ Below w.heap.size w wr) (fun i _ => T - (intOf i).toNat)
      case atStart => exact ⟨0, by omega, rfl, i2, hX, KZ.refl _ _ _, i3, i4⟩
      case round =>
        obtain ⟨t, ht, rfl, q2, qX, qK, q3, q4⟩ := hrel
        have hTv := HT.out
        by_cases hlt : t < T
        · have hlt' : (t : Int) < (T : Int) := by omega
          have hb1' : (t : Int) < ((L - 64 * j : Nat) : Int) := by omega
          have hb2' : (t : Int) < 64 := by omega
          have kr2 : wr.cell? ⟨w1.heap.size, 0, none⟩ = some (.slice (some ⟨gb, 64 * j, none⟩) (L - 64 * j) (c1 - 64 * j)) := Blk.cell q3.out 0
          obtain ⟨kx, fx⟩ := ow_cellN q2.out (64 * j + t) (by omega)
          have ky : wr.cell? ⟨Bx, t, none⟩ = some (.int .u8 ((blkS ((g0S k o).set 12 (m + (j : Nat)))).getD t 0)) := blk_num qX.out t (by rw [blkS_length]; omega)
          have hnx : Aside0 (mixT F b (64 * j + (t + 1)) = (mixT F b (64 * j + t)).set (64 * j + t) (Go.bits .xor .u8 ((mixT F b (64 * j + t)).getD (64 * j + t) 0) ((blkS ((g0S k o).set 12 (m + (j : Nat)))).getD t 0))) := ⟨by
            have hf : F (64 * j + t) = (blkS ((g0S k o).set 12 (m + (j : Nat)))).getD t 0 := by
              rw [← HF.out]; unfold ks
              rw [show (64 * j + t) / 64 = j by omega, show (64 * j + t) % 64 = t by omega]
            rw [← hf]; rfl⟩
          obtain ⟨x, HXX⟩ : ∃ z, Aside0 ((mixT F b (64 * j + t)).getD (64 * j + t) 0 = z) := ⟨_, ⟨rfl⟩⟩
          obtain ⟨y, HYY⟩ : ∃ z, Aside0 ((blkS ((g0S k o).set 12 (m + (j : Nat)))).getD t 0 = z) := ⟨_, ⟨rfl⟩⟩
          rw [HXX.out] at kx hnx
          rw [HYY.out] at ky hnx
          clear hTv
          gi_wp2
          have R1 : Aside0 (Ow (wr.setCell ⟨gb, 64 * j + t, none⟩ (.int .u8 (Go.bits .xor .u8 x y))).drew w.heap.size (.slice (some ⟨gb, 0, none⟩) L c1) (mixT F b (64 * j + (t + 1)))) := ⟨by rw [hnx.out]; exact Kd.R_drew (ow_putN q2.out (64 * j + t) _)⟩
          have R2 : Aside0 (Blk (wr.setCell ⟨gb, 64 * j + t, none⟩ (.int .u8 (Go.bits .xor .u8 x y))).drew Bx 25 (nums .u8 (blkS ((g0S k o).set 12 (m + (j : Nat)))))) := ⟨Blk.far qX.out (p := ⟨gb, 64 * j + t, none⟩) (by simp; omega) _⟩
          have R3 : KZ w3.heap.size go W (wr.setCell ⟨gb, 64 * j + t, none⟩ (.int .u8 (Go.bits .xor .u8 x y))).drew := (qK.setCell (g := gb) (by omega) (by omega) (64 * j + t) _).drew
          have R4 : Aside0 (Blk (wr.setCell ⟨gb, 64 * j + t, none⟩ (.int .u8 (Go.bits .xor .u8 x y))).drew w1.heap.size 22 [.slice (some ⟨gb, 64 * j, none⟩) (L - 64 * j) (c1 - 64 * j)]) := ⟨Blk.far q3.out (p := ⟨gb, 64 * j + t, none⟩) (by simp; omega) _⟩
          have R5 : Below w.heap.size w (wr.setCell ⟨gb, 64 * j + t, none⟩ (.int .u8 (Go.bits .xor .u8 x y))).drew := (q4.setCell (p := ⟨gb, 64 * j + t, none⟩) hb0 _).drew
          refine region_any_in (by kernel_rfl) (by kernel_rfl) ?_
          refine wpAny_take (i := 1) (v := ?_) (List.getElem?_toArray.trans rfl) (by kernel_rfl) (by kernel_rfl) (by kernel_rfl) (fun _ _ _ h => h) (Or.inl ⟨by rfl, ?_⟩) ?_
          rotate_left
          · (intro w; go_simp; try with_reducible rfl)
          (try simp only [Act.put, List.setIfInBounds_toArray, List.set_cons_zero, List.set_cons_succ])
          refine wpAny_take (i := 4) (v := ?_) (List.getElem?_toArray.trans rfl) (by kernel_rfl) (by kernel_rfl) (by kernel_rfl) (fun _ _ _ h => h) (Or.inl ⟨by rfl, ?_⟩) ?_
          rotate_left
          · (intro w; go_simp; try with_reducible rfl)
          (try simp only [Act.put, List.setIfInBounds_toArray, List.set_cons_zero, List.set_cons_succ])
          refine wpAny_take (i := 5) (v := ?_) (List.getElem?_toArray.trans rfl) (by kernel_rfl) (by kernel_rfl) (by kernel_rfl) (fun _ _ _ h => h) (Or.inl ⟨by rfl, ?_⟩) ?_
          rotate_left
          · (intro w; go_simp; try with_reducible rfl)
          (try simp only [Act.put, List.setIfInBounds_toArray, List.set_cons_zero, List.set_cons_succ])
          refine wpAny_ready (rs := [0, 6]) (by kernel_rfl) (by simp) (AllReady.cons (List.getElem?_toArray.trans rfl) (fun K hK => ?_) (AllReady.cons (List.getElem?_toArray.trans rfl) (fun K hK => ?_) AllReady.nil))
          · go_simp
            refine hK _ _ ?_
            clear hK K
            (try simp only [Act.put, List.setIfInBounds_toArray, List.set_cons_zero, List.set_cons_succ])
            refine wpAny_take (i := 2) (v := ?_) (List.getElem?_toArray.trans rfl) (by kernel_rfl) (by kernel_rfl) (by kernel_rfl) (fun _ _ _ h => h) (Or.inl ⟨by rfl, ?_⟩) ?_
            rotate_left
            · (intro w; go_simp; try with_reducible rfl)
            (try simp only [Act.put, List.setIfInBounds_toArray, List.set_cons_zero, List.set_cons_succ])
            refine wpAny_ready (rs := [3, 6]) (by kernel_rfl) (by simp) (AllReady.cons (List.getElem?_toArray.trans rfl) (fun K hK => ?_) (AllReady.cons (List.getElem?_toArray.trans rfl) (fun K hK => ?_) AllReady.nil))
            · go_simp
              refine hK _ _ ?_
              clear hK K
              (try simp only [Act.put, List.setIfInBounds_toArray, List.set_cons_zero, List.set_cons_succ])
              refine wpAny_ready (rs := [6]) (by kernel_rfl) (by simp) (AllReady.cons (List.getElem?_toArray.trans rfl) (fun K hK => ?_) AllReady.nil)
              go_simp
              refine hK _ _ ?_
              clear hK K
              (try simp only [Act.put, List.setIfInBounds_toArray, List.set_cons_zero, List.set_cons_succ])
              refine wpAny_take (i := 7) (v := ?_) (List.getElem?_toArray.trans rfl) (by kernel_rfl) (by kernel_rfl) (by kernel_rfl) (fun _ _ _ h => h) (Or.inl ⟨by rfl, ?_⟩) ?_
              rotate_left
              · (intro w; go_simp; try with_reducible rfl)
              (try simp only [Act.put, List.setIfInBounds_toArray, List.set_cons_zero, List.set_cons_succ])
              refine wpAny_take (i := 8) (v := ?_) (List.getElem?_toArray.trans rfl) (by kernel_rfl) (by kernel_rfl) (by kernel_rfl) (fun _ _ _ h => h) (Or.inl ⟨by rfl, ?_⟩) ?_
              rotate_left
              · (intro w; go_simp; try with_reducible rfl)
              (try simp only [Act.put, List.setIfInBounds_toArray, List.set_cons_zero, List.set_cons_succ])
              refine wpAny_ready (rs := [9]) (by kernel_rfl) (by simp) (AllReady.cons (List.getElem?_toArray.trans rfl) (fun K hK => ?_) AllReady.nil)
              go_simp
              refine hK _ _ ?_
              clear hK K
              (try simp only [Act.put, List.setIfInBounds_toArray, List.set_cons_zero, List.set_cons_succ])
              refine wpAny_done (by kernel_rfl) ?_ _
              (simp only [NoOut]; gi_wp2; go_roundw; (case rel => exact ⟨t + 1, by omega, by go_num, R1, R2, R3, R4, R5⟩); (case measure => simp [intOf]; omega))
            · go_simp
              refine hK _ _ ?_
              clear hK K
              (try simp only [Act.put, List.setIfInBounds_toArray, List.set_cons_zero, List.set_cons_succ])
              refine wpAny_ready (rs := [3]) (by kernel_rfl) (by simp) (AllReady.cons (List.getElem?_toArray.trans rfl) (fun K hK => ?_) AllReady.nil)
              go_simp
              refine hK _ _ ?_
              clear hK K
              (try simp only [Act.put, List.setIfInBounds_toArray, List.set_cons_zero, List.set_cons_succ])
              refine wpAny_take (i := 7) (v := ?_) (List.getElem?_toArray.trans rfl) (by kernel_rfl) (by kernel_rfl) (by kernel_rfl) (fun _ _ _ h => h) (Or.inl ⟨by rfl, ?_⟩) ?_
              rotate_left
              · (intro w; go_simp; try with_reducible rfl)
              (try simp only [Act.put, List.setIfInBounds_toArray, List.set_cons_zero, List.set_cons_succ])
              refine wpAny_take (i := 8) (v := ?_) (List.getElem?_toArray.trans rfl) (by kernel_rfl) (by kernel_rfl) (by kernel_rfl) (fun _ _ _ h => h) (Or.inl ⟨by rfl, ?_⟩) ?_
              rotate_left
              · (intro w; go_simp; try with_reducible rfl)
              (try simp only [Act.put, List.setIfInBounds_toArray, List.set_cons_zero, List.set_cons_succ])
              refine wpAny_ready (rs := [9]) (by kernel_rfl) (by simp) (AllReady.cons (List.getElem?_toArray.trans rfl) (fun K hK => ?_) AllReady.nil)
              go_simp
              refine hK _ _ ?_
              clear hK K
              (try simp only [Act.put, List.setIfInBounds_toArray, List.set_cons_zero, List.set_cons_succ])
              refine wpAny_done (by kernel_rfl) ?_ _
              (simp only [NoOut]; gi_wp2; go_roundw; (case rel => exact ⟨t + 1, by omega, by go_num, R1, R2, R3, R4, R5⟩); (case measure => simp [intOf]; omega))
          · go_simp
            refine hK _ _ ?_
            clear hK K
            (try simp only [Act.put, List.setIfInBounds_toArray, List.set_cons_zero, List.set_cons_succ])
            refine wpAny_ready (rs := [0]) (by kernel_rfl) (by simp) (AllReady.cons (List.getElem?_toArray.trans rfl) (fun K hK => ?_) AllReady.nil)
            go_simp
            refine hK _ _ ?_
            clear hK K
            (try simp only [Act.put, List.setIfInBounds_toArray, List.set_cons_zero, List.set_cons_succ])
            refine wpAny_take (i := 2) (v := ?_) (List.getElem?_toArray.trans rfl) (by kernel_rfl) (by kernel_rfl) (by kernel_rfl) (fun _ _ _ h => h) (Or.inl ⟨by rfl, ?_⟩) ?_
            rotate_left
            · (intro w; go_simp; try with_reducible rfl)
            (try simp only [Act.put, List.setIfInBounds_toArray, List.set_cons_zero, List.set_cons_succ])
            refine wpAny_ready (rs := [3]) (by kernel_rfl) (by simp) (AllReady.cons (List.getElem?_toArray.trans rfl) (fun K hK => ?_) AllReady.nil)
            go_simp
            refine hK _ _ ?_
            clear hK K
            (try simp only [Act.put, List.setIfInBounds_toArray, List.set_cons_zero, List.set_cons_succ])
            refine wpAny_take (i := 7) (v := ?_) (List.getElem?_toArray.trans rfl) (by kernel_rfl) (by kernel_rfl) (by kernel_rfl) (fun _ _ _ h => h) (Or.inl ⟨by rfl, ?_⟩) ?_
            rotate_left
            · (intro w; go_simp; try with_reducible rfl)
            (try simp only [Act.put, List.setIfInBounds_toArray, List.set_cons_zero, List.set_cons_succ])
            refine wpAny_take (i := 8) (v := ?_) (List.getElem?_toArray.trans rfl) (by kernel_rfl) (by kernel_rfl) (by kernel_rfl) (fun _ _ _ h => h) (Or.inl ⟨by rfl, ?_⟩) ?_
            rotate_left
            · (intro w; go_simp; try with_reducible rfl)
            (try simp only [Act.put, List.setIfInBounds_toArray, List.set_cons_zero, List.set_cons_succ])
            refine wpAny_ready (rs := [9]) (by kernel_rfl) (by simp) (AllReady.cons (List.getElem?_toArray.trans rfl) (fun K hK => ?_) AllReady.nil)
            go_simp
            refine hK _ _ ?_
            clear hK K
            (try simp only [Act.put, List.setIfInBounds_toArray, List.set_cons_zero, List.set_cons_succ])
            refine wpAny_done (by kernel_rfl) ?_ _
            (simp only [NoOut]; gi_wp2; go_roundw; (case rel => exact ⟨t + 1, by omega, by go_num, R1, R2, R3, R4, R5⟩); (case measure => simp [intOf]; omega))
        · have hge : ¬ (t : Int) < (T : Int) := by omega
          obtain rfl : t = T := by omega
          have kr2 : wr.cell? ⟨w1.heap.size, 0, none⟩ = some (.slice (some ⟨gb, 64 * j, none⟩) (L - 64 * j) (c1 - 64 * j)) := Blk.cell q3.out 0
          have fr2 := Blk.frozen q3.out 0
          have hc1L := (Kd.R_reads' q2.out).2.1
          obtain ⟨ix, hix, hsx⟩ := infoX
          have hcut := cut_from (P := Try.prog) 22 5 .i64 Try.underlying22 hix 1 hsx (some ⟨gb, 64 * j, none⟩) (L - 64 * j) (c1 - 64 * j) (t : Int) (by omega) (by omega)
          simp only [Int.toNat_natCast] at hcut
          obtain ⟨A9, HA9⟩ : ∃ z : Option Addr, Aside0 ((if c1 - 64 * j = t then some ⟨gb, 64 * j, none⟩ else Option.map (fun x : Addr => x.add (t * 1)) (some (⟨gb, 64 * j, none⟩ : Addr))) = z) := ⟨_, ⟨rfl⟩⟩
          rw [HA9.out] at hcut
          have B1 : Below w.heap.size w (wr.setCell ⟨w1.heap.size, 0, none⟩ (.slice A9 (L - 64 * j - t) (c1 - 64 * j - t))) := q4.setCell (p := ⟨w1.heap.size, 0, none⟩) hs1 _
          have K1 : KZ w3.heap.size go W (wr.setCell ⟨w1.heap.size, 0, none⟩ (.slice A9 (L - 64 * j - t) (c1 - 64 * j - t))) := qK.setCell (g := w1.heap.size) (by omega) (by omega) 0 _
          have O1 : Ow (wr.setCell ⟨w1.heap.size, 0, none⟩ (.slice A9 (L - 64 * j - t) (c1 - 64 * j - t))) w.heap.size (.slice (some ⟨gb, 0, none⟩) L c1) (mixT F b (64 * j + t)) := Kd.R_mono (Kd.R_step (Kd.R_tight rfl q2.out) (fun k hk _ => Below.heap_setCell wr _ _ k (by
            have : k = gb := by simpa [Value.ownBlock] using hk
            show k ≠ w1.heap.size
            omega))) (fun _ _ => trivial)
          have Z1 : Blk (wr.setCell ⟨w1.heap.size, 0, none⟩ (.slice A9 (L - 64 * j - t) (c1 - 64 * j - t))) w1.heap.size 22 [.slice A9 (L - 64 * j - t) (c1 - 64 * j - t)] := Blk.set_ q3.out 0 _
          have PB := Aside0.mk B1
          have PK := Aside0.mk K1
          have PO := Aside0.mk O1
          have PZ := Aside0.mk Z1
          clear B1 K1 O1 Z1 hTv
          by_cases hend : L - 64 * j ≤ 64
          · have ht' : t = L - 64 * j := by have := HT.out; omega
            have hz0 : L - 64 * j - t = 0 := by omega
            have hz1 : (((L - 64 * j - t : Nat) : Int) == 0) = true := by rw [hz0]; rfl
            have HFIN : Aside0 (64 * j + t = L) := ⟨by omega⟩
            rw [HFIN.out] at PO
            clear ht'
            gi_wp2
            rw [hz0] at PB PK PO
            exact ⟨PK.out, rfl, PO, PB.out⟩
          · have hz0 : ¬ (L - 64 * j - t = 0) := by have := HT.out; omega
            have hz1 : (((L - 64 * j - t : Nat) : Int) == 0) = false := by rw [beq_eq_false_iff_ne]; omega
            have HA9' : Aside0 (A9 = some ⟨gb, 64 * (j + 1), none⟩) := ⟨by
              rw [← HA9.out, if_neg (by have := HT.out; omega)]
              have e9 : 64 * j + t * 1 = 64 * (j + 1) := by have := HT.out; omega
              simp only [Option.map_some, Addr.add_mid]
              rw [e9]⟩
            have HT64 : Aside0 (t = 64) := ⟨by have := HT.out; omega⟩
            gi_wp2
            have ht64 := HT64.out
            have hA9' := HA9'.out
            refine ⟨PK.out, by omega, ⟨by rw [show 64 * (j + 1) = 64 * j + t by omega]; exact PO.out⟩, ⟨?_⟩, PB.out⟩
            have h9 := PZ.out
            rw [show L - 64 * (j + 1) = L - 64 * j - t by omega, show c1 - 64 * (j + 1) = c1 - 64 * j - t by omega, ← hA9']
            exact h9
    case hdone =>
      rintro D W hD ⟨i1, _⟩ _
      exfalso
      omega
    case hstop =>
      rintro D c' j W hD hj ⟨rfl, ho, hb⟩ hKD
      obtain rfl := HACT.out
      clear HACT
      refine wpIn_wide.2 ?_
      go_wp2_with fail
      refine retD (v := .tuple #[.slice (some ⟨gb, 0, none⟩) L c1, .int .i64 0]) rfl hKD (by simp [results, Try.results23, go_sem]) ?_
      rw [HF.out, HL.out]
      exact ⟨_, rfl, ow_below' ho.out (below_put _ hD) (by omega), hb.trans ((below_put _ hD).mono (by have := HB3.out.size; omega))⟩
end Go.Proofs.Ytkjmjgiklelpiaa.MxA
