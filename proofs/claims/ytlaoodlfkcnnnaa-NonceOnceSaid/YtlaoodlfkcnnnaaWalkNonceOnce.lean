/- NonceOnce, walked. -/
import Derived.Test.YtlaoodlfkcnnnaaNonceD
import Derived.Deep.RegionHeld3
import Derived.Deep.Cut
import Derived.Test.YtlaoodlfkcnnnaaWalkNonceTakes
import Derived.Test.YtlaoodlfkcnnnaaWalkNonceTurns
import Derived.WalkLawsBesides
namespace Go.Proofs.Ytlaoodlfkcnnnaa.WalkNonceOnce
open Go.RowKit Go.Proofs.YtlaoodlfkcnnnaaW.PrintWords Go.Proofs.Ytlaoodlfkcnnnaa.Num Go.Proofs.Ytlaoodlfkcnnnaa.WordC Go.Proofs.Ytlaoodlfkcnnnaa.FillC Go.Proofs.Ytlaoodlfkcnnnaa.Arr Go.Proofs.Ytlaoodlfkcnnnaa.NonceC Go.Proofs.Ytlaoodlfkcnnnaa.TakeC Go.Proofs.Ytlaoodlfkcnnnaa.NonceD Go.Proofs.Ytlaoodlfkcnnnaa.WalkNonceTakes Go.Proofs.Ytlaoodlfkcnnnaa.WalkNonceTurns
set_option linter.unusedVariables false
set_option linter.unusedSimpArgs false

theorem be_fold (l : List Int) : ∀ a : Int, l.foldl (fun a x => a * 256 + x) a = a * 256 ^ l.length + be l := by
  induction l with
  | nil => intro a; simp [be]
  | cons x l ih =>
    intro a
    simp only [List.foldl_cons, List.length_cons, be]
    rw [ih, ih]
    rw [Int.pow_succ]
    generalize (256 : Int) ^ l.length = p
    rw [Int.add_mul, Int.mul_assoc, Int.mul_comm 256 p, Int.zero_mul, Int.zero_add]
    omega
theorem be_app (x y : List Int) : be (x ++ y) = be x * 256 ^ y.length + be y := by
  have := be_fold y (be x)
  unfold be at this ⊢
  rw [List.foldl_append]; exact this
theorem be_cons (a : Int) (x : List Int) : be (a :: x) = a * 256 ^ x.length + be x := by
  have := be_app [a] x
  simpa [be] using this
def u8 (z : Int) : UInt8 := UInt8.ofNat z.toNat
theorem u8_lt {a b : Int} (ha : 0 ≤ a ∧ a < 256) (hb : 0 ≤ b ∧ b < 256) : u8 a < u8 b ↔ a < b := by
  unfold u8
  rw [UInt8.lt_iff_toNat_lt, UInt8.toNat_ofNat', UInt8.toNat_ofNat']
  omega
theorem less_be : ∀ (x y : List Int), IsB x → IsB y → x.length = y.length → be y < be x → Op.bytesLess (x.map u8) (y.map u8) = false
  | [], [], _, _, _, _ => rfl
  | [], _ :: _, _, _, h, _ => by simp at h
  | _ :: _, [], _, _, h, _ => by simp at h
  | a :: x, b :: y, hx, hy, hl, hlt => by
    have ha := hx a (by simp)
    have hb := hy b (by simp)
    have hx' : IsB x := fun z hz => hx z (by simp [hz])
    have hy' : IsB y := fun z hz => hy z (by simp [hz])
    have hl' : x.length = y.length := by simpa using hl
    rw [be_cons, be_cons, hl'] at hlt
    have rx := be_range x hx'
    have ry := be_range y hy'
    rw [hl'] at rx
    have hp : (0 : Int) < 256 ^ y.length := Int.pow_pos (by omega)
    generalize (256 : Int) ^ y.length = p at *
    have hnlt : ¬ a < b := by
      intro hab
      have h1 : (a + 1) * p ≤ b * p := Int.mul_le_mul_of_nonneg_right (by omega) (by omega)
      rw [Int.add_mul, Int.one_mul] at h1
      omega
    simp only [List.map_cons, Op.bytesLess, Bool.or_eq_false_iff, decide_eq_false_iff_not, Bool.and_eq_false_iff]
    refine ⟨fun h => hnlt ((u8_lt ha hb).1 h), ?_⟩
    by_cases hab : a = b
    · subst hab
      exact .inr (less_be x y hx' hy' hl' (by omega))
    · exact .inl (by rw [beq_eq_false_iff_ne]; exact fun h => hab (u8_inj ha hb h))
theorem be_nonce {e n : Int} (h : rightN e n = true) : be (nonceW e n) = e * 18446744073709551616 + n := by
  obtain ⟨h1, h2, h3, h4⟩ := rightN_iff.1 h
  unfold nonceW
  rw [be_app, told_length, be_told 4 e h1 (by omega), be_told 8 n h3 (by omega)]
  rfl
/-- The string that was last, and the counter: what is taken next comes behind it. -/
def Lst (s : ByteArray) (E L : Int) : Prop := s = ⟨#[]⟩ ∨ (rightN E L = true ∧ ∃ e n, s = strOfNums (nonceW e n) ∧ rightN e n = true ∧ e ≤ E ∧ n ≤ L)
theorem str_map (l : List Int) : (strOfNums l).toList = l.map u8 := by
  rw [ByteArray.toList_eq, strOfNums_data]; rfl
theorem lst_le {s : ByteArray} {E L N : Int} (h : Lst s E L) (hN : L < N) (hr : rightN E N = true) : Op.bytesLess (strOfNums (nonceW E N)).toList s.toList = false ∧ ((strOfNums (nonceW E N)).toList == s.toList) = false := by
  rcases h with rfl | ⟨hr0, e, n, rfl, hr1, he, hn⟩
  · rw [str_map]
    have hl := nonceW_length E N
    have e0 : (⟨#[]⟩ : ByteArray).toList = [] := by rw [ByteArray.toList_eq]
    rw [e0]
    refine ⟨by cases (nonceW E N).map u8 <;> rfl, ?_⟩
    rw [beq_eq_false_iff_ne]
    intro hx
    have := congrArg List.length hx
    rw [List.length_map, hl] at this
    simp at this
  · have hb := be_nonce hr
    have hb1 := be_nonce hr1
    obtain ⟨_, _, h3, h4⟩ := rightN_iff.1 hr1
    obtain ⟨_, _, h5, h6⟩ := rightN_iff.1 hr
    have hlt : be (nonceW e n) < be (nonceW E N) := by rw [hb, hb1]; omega
    rw [str_map, str_map]
    refine ⟨less_be _ _ (nonceW_isB _ _) (nonceW_isB _ _) (by rw [nonceW_length, nonceW_length]) hlt, ?_⟩
    rw [beq_eq_false_iff_ne, ← str_map, ← str_map]
    intro hx
    rw [str_inj (nonceW_isB _ _) (nonceW_isB _ _) hx] at hlt
    omega
theorem lst_next {E N : Int} (hr : rightN E N = true) : Lst (strOfNums (nonceW E N)) E N := .inr ⟨hr, E, N, rfl, hr, Int.le_refl _, Int.le_refl _⟩
theorem lst_turn {s : ByteArray} {E L z : Int} (h : Lst s E L) (hz : E < z) (hr : rightN z L = true) : Lst s z L := by
  rcases h with h | ⟨_, e, n, h1, h2, h3, h4⟩
  · exact .inl h
  · exact .inr ⟨hr, e, n, h1, h2, by omega, h4⟩
theorem ad_add (ad : Addr) {j : Nat} (h : 0 < j) : ad.add j = ⟨ad.block, ad.off + j, none⟩ := by
  unfold Addr.add; split
  · omega
  · rfl
/-- Steps that came in, as they lie. -/
structure Dos (w : World) (A : Option Addr) (n : Nat) : Prop where
  max : n ≤ 9223372036854775807
  at_ : ∀ i, i < n → ∃ ad b N, A = some ad ∧ w.cell? (ad.add (i * 2)) = some (.bool b) ∧ w.cell? ((ad.add (i * 2)).add 1) = some (.int .i64 N) ∧ -9223372036854775808 ≤ N ∧ N ≤ 9223372036854775807
theorem Dos.below {w w1 : World} {A : Option Addr} {n : Nat} (h : Dos w A n) (hb : Below w.heap.size w w1) : Dos w1 A n := ⟨h.max, fun i hi => by
  obtain ⟨ad, b, N, e, h1, h2, h3⟩ := h.at_ i hi
  exact ⟨ad, b, N, e, pw_cell_below hb h1, pw_cell_below hb h2, h3⟩⟩
set_option maxHeartbeats 8000000 in
set_option maxRecDepth 100000 in
theorem walk (E0 L0 : Int) (hE : (Lit.int .i64 E0).wf = true) (hL : (Lit.int .i64 L0).wf = true) (A : Option Addr) (n c : Nat) {w : World} (hd : Dos w A n) :
    Calls Try.prog 12 #[.agg #[.int .i64 E0, .int .i64 L0], .slice A n c] w fun e w' => e = .returned (.bool true) ∧ Below w.heap.size w w' := by
  have hmax := hd.max
  by_cases h30 : n ≤ 30
  · have b30 : ¬ (30 : Int) < (n : Int) := by omega
    have HD := Aside0.mk hd
    clear hd hE hL hmax
    go_enter Try.func12, Try.ntmps12
    go_wp2_with fail
    have hb0 : Below w.heap.size w (w.alloc (.cells #[.int .i64 E0, .int .i64 L0] 42)) := (Below.refl _ w).alloc (Nat.le_refl _) _
    have hX0 : Aside0 (Blk (w.alloc (.cells #[.int .i64 E0, .int .i64 L0] 42)) w.heap.size 42 [.int .i64 E0, .int .i64 L0]) := ⟨heap_alloc_new _ _⟩
    have hS0 : Aside0 (Lst ⟨#[]⟩ E0 L0) := ⟨.inl rfl⟩
    go_loopw [21, 5] (fun i v wr => ∃ (j : Nat) (E L : Int) (s : ByteArray), j ≤ n ∧ i = .int .i64 j ∧ v = .string s ∧ Aside0 (Blk wr w.heap.size 42 [.int .i64 E, .int .i64 L]) ∧ Aside0 (Lst s E L) ∧ Below w.heap.size w wr) (fun i _ _ => n - (intOf i).toNat)
    case atStart => exact ⟨0, E0, L0, _, by omega, rfl, rfl, hX0, hS0, hb0⟩
    case round =>
      clear hX0 hS0 hb0
      obtain ⟨j, E, L, s, hj, rfl, rfl, hX, hS, hb⟩ := hrel
      by_cases hlt : j < n
      · have hlt' : (j : Int) < (n : Int) := by omega
        obtain ⟨ad, b, N, rfl, k0, k1, hN0, hN1⟩ := (HD.out.below hb).at_ j hlt
        rw [ad_add (ad.add (j * 2)) (by omega)] at k1
        have hba : Below wr.heap.size wr (wr.alloc (.cells #[.bool b, .int .i64 N] 59)) := (Below.refl _ wr).alloc (Nat.le_refl _) _
        have hBa := below_next hb hba
        have hXa := Blk.below hX.out hba
        have x0 : (wr.alloc (.cells #[.bool b, .int .i64 N] 59)).cell? ⟨w.heap.size, 0, none⟩ = some (.int .i64 E) := Blk.cell hXa 0
        have x1 : (wr.alloc (.cells #[.bool b, .int .i64 N] 59)).cell? ⟨w.heap.size, 1, none⟩ = some (.int .i64 L) := Blk.cell hXa 1
        have HXA := Aside0.mk hXa
        clear hXa
        cases b with
        | true =>
          by_cases hT : rightN E L = true ∧ E < N ∧ N ≤ 64
          · obtain ⟨hr, h1, h2⟩ := hT
            have hz : rightN N L = true := by
              have := rightN_iff.1 hr
              exact rightN_iff.2 ⟨by omega, h2, this.2.2⟩
            have HLS := Aside0.mk (lst_turn hS.out h1 hz)
            have HR := Aside0.mk hr
            have HZ := Aside0.mk hz
            clear hr hz
            go_wp2_with fail
            refine (Turn_yes HR.out HZ.out h1).mono ?_
            rintro x w1 ⟨rfl, hb1⟩
            have hB1 := below_next hBa hb1
            have hX1 := Blk.below HXA.out hb1
            have hbx : Below w1.heap.size w1 (w1.alloc (.cells #[.int .i64 N, .int .i64 L] 42)) := (Below.refl _ w1).alloc (Nat.le_refl _) _
            have hXx := Blk.below hX1 hbx
            have y0 : (w1.alloc (.cells #[.int .i64 N, .int .i64 L] 42)).cell? ⟨w.heap.size, 0, none⟩ = some (.int .i64 E) := Blk.cell hXx 0
            have y1 : (w1.alloc (.cells #[.int .i64 N, .int .i64 L] 42)).cell? ⟨w.heap.size, 1, none⟩ = some (.int .i64 L) := Blk.cell hXx 1
            have f0 := Blk.frozen hXx 0
            have f1 := Blk.frozen hXx 1
            have HX' : Aside0 (Blk (((w1.alloc (.cells #[.int .i64 N, .int .i64 L] 42)).setCell ⟨w.heap.size, 0, none⟩ (.int .i64 N)).setCell ⟨w.heap.size, 1, none⟩ (.int .i64 L)) w.heap.size 42 [.int .i64 N, .int .i64 L]) := ⟨Blk.set_ (Blk.set_ hXx 0 (.int .i64 N)) 1 (.int .i64 L)⟩
            have hB' : Below w.heap.size w (((w1.alloc (.cells #[.int .i64 N, .int .i64 L] 42)).setCell ⟨w.heap.size, 0, none⟩ (.int .i64 N)).setCell ⟨w.heap.size, 1, none⟩ (.int .i64 L)) := ((below_next hB1 hbx).setCell (p := ⟨w.heap.size, 0, none⟩) (Nat.le_refl _) _).setCell (p := ⟨w.heap.size, 1, none⟩) (Nat.le_refl _) _
            clear hX1 hXx k0 k1 x0 x1
            go_wp2_with fail
            go_roundw
            case rel => exact ⟨j + 1, N, L, s, by omega, by go_num, rfl, HX', HLS, hB'⟩
            case measure => simp [intOf]; omega
          · have HNO := Aside0.mk (fun W : World => Turn_no (w := W) hT)
            clear hT
            go_wp2_with fail
            refine (HNO.out _).mono ?_
            rintro x w1 ⟨rfl, hb1⟩
            have hB1 := below_next hBa hb1
            have hX1 := Blk.below HXA.out hb1
            have hbx : Below w1.heap.size w1 (w1.alloc (.cells #[.int .i64 0, .int .i64 0] 42)) := (Below.refl _ w1).alloc (Nat.le_refl _) _
            have HX' := Aside0.mk (Blk.below hX1 hbx)
            have hB' := below_next hB1 hbx
            clear hX1 k0 k1 x0 x1
            go_wp2_with fail
            go_roundw
            case rel => exact ⟨j + 1, E, L, s, by omega, by go_num, rfl, HX', hS, hB'⟩
            case measure => simp [intOf]; omega
        | false =>
          by_cases hT : rightN E L = true ∧ 0 ≤ N ∧ N ≤ 4096 ∧ L + N ≤ 1099511627776
          · obtain ⟨hr, h0, hm, hlm⟩ := hT
            obtain ⟨m, rfl⟩ := Int.eq_ofNat_of_zero_le h0
            obtain ⟨he, he', hl, _⟩ := rightN_iff.1 hr
            have HLT := Aside0.mk (takeW_length E L m)
            clear hr
            go_wp2_with fail
            refine (Take_yes_nat m he he' hl (by omega) hlm).mono ?_
            rintro x w1 ⟨v1, rfl, hN, hb1⟩
            have hB1 := below_next hBa hb1
            have hX1 := Blk.below HXA.out hb1
            have hbx : Below w1.heap.size w1 (w1.alloc (.cells #[.int .i64 E, .int .i64 (L + m)] 42)) := (Below.refl _ w1).alloc (Nat.le_refl _) _
            have hXx := Blk.below hX1 hbx
            have hBx := below_next hB1 hbx
            have hDx : Blk (w1.alloc (.cells #[.int .i64 E, .int .i64 (L + m)] 42)) w1.heap.size 42 [.int .i64 E, .int .i64 (L + m)] := heap_alloc_new _ _
            have hNx := hN.below hbx
            have hsz1 : w.heap.size < w1.heap.size := Blk.lt hX1
            obtain ⟨A1, q1, rfl⟩ := Nn.value hN
            rw [HLT.out] at hNx ⊢
            have HNX := Aside0.mk hNx
            have HXX := Aside0.mk hXx
            have HDX := Aside0.mk hDx
            have HSS : Aside0 (Lst s E (L + (0 : Nat))) := ⟨by simpa using hS.out⟩
            clear hN hX1 hNx hXx hDx k0 k1 x0 x1
            go_wp2_with fail
            generalize hW2 : w1.alloc _ = w2 at *
            clear hW2
            go_loop [49, 5] (fun i v => ∃ (p : Nat) (s' : ByteArray), p ≤ m ∧ i = .int .i64 p ∧ v = .string s' ∧ Aside0 (Lst s' E (L + p))) (fun i _ => m - (intOf i).toNat)
            case atStart => exact ⟨0, s, by omega, rfl, rfl, HSS⟩
            case round =>
              clear HSS
              obtain ⟨p, s', hp, rfl, rfl, hS'⟩ := hrel
              by_cases hlp : p < m
              · have hlp' : (p : Int) < (m : Int) := by omega
                obtain ⟨g0, cap, e1, hcells⟩ := Nn.form HNX.out (by rw [HLT.out]; omega)
                injection e1 with e1 e2 e3
                subst e1
                have hxj : (takeW E L m)[p]? = some (nonceW E (L + 1 + (p : Nat))) := by
                  have h1 := takeW_getD E L m p hlp
                  rw [List.getD_eq_getElem?_getD, List.getElem?_eq_getElem (by rw [HLT.out]; exact hlp)] at h1
                  rw [List.getElem?_eq_getElem (by rw [HLT.out]; exact hlp)]
                  exact congrArg some h1
                obtain ⟨g, hcg, hbg⟩ := hcells p _ hxj
                have hrN : rightN E (L + 1 + (p : Nat)) = true := rightN_iff.2 ⟨he, he', by omega, by omega⟩
                obtain ⟨ql1, ql2⟩ := lst_le hS'.out (N := L + 1 + (p : Nat)) (by omega) hrN
                have HNL : Aside0 (Lst (strOfNums (nonceW E (L + 1 + (p : Nat)))) E (L + ((p + 1 : Nat) : Int))) := ⟨by
                  have := lst_next hrN
                  rw [show L + ((p + 1 : Nat) : Int) = L + 1 + (p : Nat) by omega]; exact this⟩
                have hl12 := nonceW_length E (L + 1 + (p : Nat))
                generalize nonceW E (L + 1 + (p : Nat)) = X at hbg ql1 ql2 HNL hl12
                have s1 := rd_string (rd_nonce hbg hl12)
                clear hcells hxj hbg hrN hl12 e2 e3
                go_wp2_with fail
                go_round
                case rel => exact ⟨p + 1, strOfNums X, by omega, by go_num, rfl, HNL⟩
                case measure => simp [intOf]; omega
              · have hge : ¬ (p : Int) < (m : Int) := by omega
                obtain rfl : m = p := by omega
                have y0 : w2.cell? ⟨w.heap.size, 0, none⟩ = some (.int .i64 E) := Blk.cell HXX.out 0
                have y1 : w2.cell? ⟨w.heap.size, 1, none⟩ = some (.int .i64 L) := Blk.cell HXX.out 1
                have z0 : w2.cell? ⟨w1.heap.size, 0, none⟩ = some (.int .i64 E) := Blk.cell HDX.out 0
                have z1 : w2.cell? ⟨w1.heap.size, 1, none⟩ = some (.int .i64 (L + m)) := Blk.cell HDX.out 1
                have f0 := Blk.frozen HXX.out 0
                have f1 := Blk.frozen HXX.out 1
                have t1 : ((L + (m : Int)) != (L + (m : Int))) = false := by simp
                have t2 : (E != E) = false := by simp
                have t3 : 0 ≤ L + (m : Int) := by omega
                have HX' : Aside0 (Blk ((w2.setCell ⟨w.heap.size, 0, none⟩ (.int .i64 E)).setCell ⟨w.heap.size, 1, none⟩ (.int .i64 (L + m))) w.heap.size 42 [.int .i64 E, .int .i64 (L + m)]) := ⟨Blk.set_ (Blk.set_ HXX.out 0 (.int .i64 E)) 1 (.int .i64 (L + m))⟩
                have hB' : Below w.heap.size w ((w2.setCell ⟨w.heap.size, 0, none⟩ (.int .i64 E)).setCell ⟨w.heap.size, 1, none⟩ (.int .i64 (L + m))) := (hBx.setCell (p := ⟨w.heap.size, 0, none⟩) (Nat.le_refl _) _).setCell (p := ⟨w.heap.size, 1, none⟩) (Nat.le_refl _) _
                go_wp2_with fail
                go_roundw
                case rel => exact ⟨j + 1, E, L + m, s', by omega, by go_num, rfl, HX', hS', hB'⟩
                case measure => simp [intOf]; omega
          · have hno : ∃ code : Int, (code == 0) = false ∧ (code != 0) = true ∧ ∀ W : World, Calls Try.prog 28 #[.agg #[.int .i64 E, .int .i64 L], .int .i64 N] W fun x w' => x = .returned (.tuple #[.slice none 0 0, .agg #[.int .i64 0, .int .i64 0], .int .i64 code]) ∧ Below W.heap.size W w' := by
              cases hr : rightN E L with
              | false => exact ⟨1, by decide, by decide, fun W => Take_no1 hr⟩
              | true =>
                by_cases h1 : N < 0
                · exact ⟨1, by decide, by decide, fun W => Take_no2 hr h1⟩
                · by_cases h2 : 4096 < N
                  · exact ⟨1, by decide, by decide, fun W => Take_no3 hr h1 h2⟩
                  · exact ⟨10, by decide, by decide, fun W => Take_no4 hr h1 h2 (by
                      have := rightN_iff.1 hr
                      rcases Int.lt_or_le (1099511627776 - L) N with h | h
                      · exact h
                      · exact absurd ⟨hr, by omega, by omega, by omega⟩ hT)⟩
            obtain ⟨code, hc1, hc2, hcall⟩ := hno
            have HNO := Aside0.mk hcall
            clear hT hcall
            go_wp2_with fail
            refine (HNO.out _).mono ?_
            rintro x w1 ⟨rfl, hb1⟩
            have hB1 := below_next hBa hb1
            have hX1 := Blk.below HXA.out hb1
            have hbx : Below w1.heap.size w1 (w1.alloc (.cells #[.int .i64 0, .int .i64 0] 42)) := (Below.refl _ w1).alloc (Nat.le_refl _) _
            have HX' := Aside0.mk (Blk.below hX1 hbx)
            have hB' := below_next hB1 hbx
            clear hX1 k0 k1 x0 x1
            go_wp2_with fail
            go_roundw
            case rel => exact ⟨j + 1, E, L, s, by omega, by go_num, rfl, HX', hS, hB'⟩
            case measure => simp [intOf]; omega
      · have hge : ¬ (j : Int) < (n : Int) := by omega
        go_wp2_with fail
        refine awake10_c.mono ?_
        rintro x w3 ⟨rfl, hb3⟩
        go_wp2_with fail
        go_ret
        exact ⟨rfl, below_next hb hb3⟩
  · have b30 : (30 : Int) < (n : Int) := by omega
    clear hd hE hL
    have hb0 : Below w.heap.size w (w.alloc (.cells #[.int .i64 E0, .int .i64 L0] 42)) := (Below.refl _ w).alloc (Nat.le_refl _) _
    go_enter Try.func12, Try.ntmps12
    go_wp2_with fail
    refine awake10_c.mono ?_
    rintro x w3 ⟨rfl, hb3⟩
    go_wp2_with fail
    go_ret
    exact ⟨rfl, below_next hb0 hb3⟩
end Go.Proofs.Ytlaoodlfkcnnnaa.WalkNonceOnce
