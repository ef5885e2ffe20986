/- WordStores, walked: both stores' bytes are the same, and both tellings'. -/
import Derived.Test.YtlaoodlfkcnnnaaWordC
import Derived.Deep.RegionHeld3
import Derived.Deep.RegionWith
namespace Go.Proofs.Ytlaoodlfkcnnnaa.WalkWordStores
open Go.RowKit Go.Proofs.YtlaoodlfkcnnnaaW.PrintWords Go.Proofs.Ytlaoodlfkcnnnaa.Num Go.Proofs.Ytlaoodlfkcnnnaa.WordC
set_option linter.unusedVariables false

set_option maxHeartbeats 4000000 in
set_option maxRecDepth 100000 in
theorem walk (a : Int) (ha : (Lit.int .u32 a).wf = true) (b : Int) (hb : (Lit.int .u64 b).wf = true) (low : Bool) {w : World} :
    Calls Try.prog 9 #[.int .u32 a, .int .u64 b, .bool low] w fun e w' => e = .returned (.bool true) ∧ Below w.heap.size w w' := by
  have ha' := wf_u32 ha
  have hb' := wf_u64 hb
  have g1 : ((strOfNums (storeW a low)).toList == (strOfNums (storeW a low)).toList) = true := str_self _
  have g2 : ((strOfNums (told 8 b)).toList == (strOfNums (told 8 b)).toList) = true := str_self _
  have HB0 : Below w.heap.size w w.drew := (Below.refl _ w).drew
  clear ha hb
  go_enter Try.func9, Try.ntmps9
  go_wp2_with fail
  go_region_with
    (first
     | (go_at_call 33; (with_reducible refine (Store_c ha'.1 ha'.2 low).mono ?_); rintro e w1 ⟨v1, rfl, ho1, hb1⟩; obtain ⟨A1, c1, rfl, hx1⟩ := rd_of_own ho1; have HB1 := below_next HB0 hb1; have S1 := rd_string hx1; clear HB0; have HB0 := HB1)
     | (go_at_call 34; (with_reducible refine (refStore_c ha'.1 ha'.2 low).mono ?_); rintro e w2 ⟨v2, rfl, ho2, hb2⟩; obtain ⟨A2, c2, rfl, hx2⟩ := rd_of_own ho2; have HB2 := below_next HB0 hb2; have S2 := rd_string hx2; have S1' := rd_string (hx1.below hb2); clear HB0; have HB0 := HB2)
     | (go_at_call 35; (with_reducible refine (Tell_c hb'.1 hb'.2).mono ?_); rintro e w3 ⟨v3, rfl, ho3, hb3⟩; obtain ⟨A3, c3, rfl, hx3⟩ := rd_of_own ho3; have HB3 := below_next HB0 hb3; have S3 := rd_string hx3; clear HB0; have HB0 := HB3)
     | (go_at_call 36; (with_reducible refine (Told_c hb'.1 hb'.2 8 (by omega) (z := 8) rfl).mono ?_); rintro e w4 ⟨v4, rfl, ho4, hb4⟩; obtain ⟨A4, c4, rfl, hx4⟩ := rd_of_own ho4; have HB4 := below_next HB0 hb4; have S4 := rd_string hx4; have S3' := rd_string (hx3.below hb4); clear HB0; have HB0 := HB4)
     | (go_at_call 20; (with_reducible refine awake01_c.mono ?_); rintro e w5 ⟨rfl, hb5⟩; have HB5 := below_next HB0 hb5; clear HB0; have HB0 := HB5))
  all_goals (go_wp2; go_ret; exact ⟨rfl, HB0⟩)
end Go.Proofs.Ytlaoodlfkcnnnaa.WalkWordStores
