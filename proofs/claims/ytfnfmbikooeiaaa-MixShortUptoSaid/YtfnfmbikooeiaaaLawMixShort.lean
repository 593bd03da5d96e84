/- The law MixShort answers true for every number and all bytes, of inputs up to the bound of the second form. -/
import Derived.Test.YtfnfmbikooeiaaaMe
import Derived.Test.YtfnfmbikooeiaaaRows
import Derived.WalkKit
import Derived.ProofKit
set_option linter.unusedSimpArgs false
set_option linter.unusedVariables false
set_option maxHeartbeats 4000000
set_option maxRecDepth 100000
namespace Go.Proofs.Ytfnfmbikooeiaaa
open Go.Ax
theorem out64_part (all : List Int) : ∀ R i, i < R → ((out64 all R).drop (32 * i)).take 32 = (b64 all (i + 1)).take 32
  | 0, i, h => by omega
  | R + 1, i, h => by
    have hl := out64_len all R
    have hb : ((b64 all (R + 1)).take 32).length = 32 := by simp [b64, blakeL_len]
    simp only [out64]
    by_cases hi : i = R
    · subst hi
      rw [List.drop_append, List.drop_eq_nil_of_le (by omega), hl, Nat.sub_self, List.drop_zero, List.nil_append, List.take_of_length_le (by omega)]
    · rw [List.drop_append_of_le_length (by omega), List.take_append_of_le_length (by rw [List.length_drop, hl]; omega)]
      exact out64_part all R i (by omega)
theorem long_part (n : Nat) (all : List Int) (hn : 64 < n) (i : Nat) (h : i < (n - 33) / 32) : ((longL n all).drop (32 * i)).take 32 = (vAt n all i).take 32 := by
  have hl := out64_len all ((n - 33) / 32)
  unfold longL vAt
  rw [if_neg (by omega), if_pos h, List.drop_append_of_le_length (by omega), List.take_append_of_le_length (by rw [List.length_drop, hl]; omega)]
  exact out64_part all _ i h
theorem long_last (n : Nat) (all : List Int) (hn : 64 < n) : (longL n all).drop (32 * ((n - 33) / 32)) = vAt n all ((n - 33) / 32) := by
  have hl := out64_len all ((n - 33) / 32)
  unfold longL vAt
  rw [if_neg (by omega), if_neg (by omega), List.drop_append, List.drop_eq_nil_of_le (by omega), hl, Nat.sub_self, List.drop_zero, List.nil_append]
theorem short_big (n : Nat) (b : List Int) (h64 : 64 < n) (hn : n ≤ 65536) (hl : b.length ≤ 1048576) : ACall Try.prog 13 [.v (.int .i64 n), .roI .u8 b] [] fun r _ => r = .v (.bool true) := by
  have hll := longL_len n (le4 n ++ b)
  have hlt := longL_take n (le4 n ++ b)
  refine acall_run (good18 0) Try.func13 rfl ⟨by kernel_rfl, by show 2 ≤ _; decide, by kernel_rfl, by kernel_rfl⟩ rfl ?_; have hr : Try.f13.results.toList = [.tmp 4] := rfl
  repeat (first | simp only [c18_P, c18_odd, Nat.reduceBEq, layInts, layOnes, beq_self_eq_true, bne_self_eq_false, addPure, reduceIte, Nat.reduceEqDiff, reduceCtorEq, ne_eq, not_false_eq_true, not_true_eq_false, and_true, true_and, and_self, if_true, if_false, decide_true, decide_false, decide_eq_true_eq, exA, exA, tabs, exB, buildA, layA, rowPut, rowOr, rowSetAt, rowSet, rowTake, rowDrop, rowCell, rowAgg, mkAgg, AV.size, AV.isAggV, AV.parts, AV.one, AV.solid, headSize, psize, indexAddrA, indexA, fieldAddrA, fieldA, sliceA, boundsA, bndA, lenA, arrayAtA, rowOf, makeSliceA, intsOf, copyA, Nat.reduceAdd, Nat.reduceSub, Nat.reduceMul, Nat.reduceLeDiff, Nat.reduceLT, Nat.reduceGT, Int.reduceToNat, Int.reduceLE, Int.reduceLT, Int.reduceEq, Int.reduceNe, Int.reduceAdd, Int.reduceSub, Int.reduceMul, Int.reduceNeg, ge_iff_le, gt_iff_lt, or_true, true_or, or_false, false_or, not_true, not_false_iff, ite_true, ite_false, dite_true, take_app, take_blakeL, blakeL_len, run_range, c18_pure, c18_news, p12, F33_eq, p11, F40_eq, F41_eq, n11, N36_eq, N37_eq, pageO, p10, F42_eq, F43_eq, n10, N32_eq, n9, N31_eq, N58_eq, p9, F61_eq, fourL_len, p8, F74_eq, F75_32, F75_24, F75_16, F75_63, p7, F82_eq, p6, F34_eq, p5, F22_eq, p4, p3, p2, p1, F80_eq, F70_eq, F53_eq, F55_eq, F25_eq, F56_eq, F23_eq, n8, N30_nil, N30_ptr, N28_nil, N28_ptr, hashK_eq, hashR_eq, n7, n6, n5, N57_eq, N27_eq, N20_eq, N21_eq, addNews, allOf, hr, hll] | simp (maxSteps := 1000000) (disch := omega) only [ar_nat, ar_u64, ar_add, ar_sub, ar_mul, ar_div, ar_mod, ar_dec_t, ar_dec_f, ar_beq_t, ar_beq_f, ar_bne_t, ar_bne_f, ar_guard, or_guard, ar_take, ar_take_drop, ar_drop, Int.toNat_natCast, Int.reduceToNat])
  intro c0 _
  repeat (first | simp only [c18_P, c18_odd, Nat.reduceBEq, layInts, layOnes, beq_self_eq_true, bne_self_eq_false, addPure, reduceIte, Nat.reduceEqDiff, reduceCtorEq, ne_eq, not_false_eq_true, not_true_eq_false, and_true, true_and, and_self, if_true, if_false, decide_true, decide_false, decide_eq_true_eq, exA, exA, tabs, exB, buildA, layA, rowPut, rowOr, rowSetAt, rowSet, rowTake, rowDrop, rowCell, rowAgg, mkAgg, AV.size, AV.isAggV, AV.parts, AV.one, AV.solid, headSize, psize, indexAddrA, indexA, fieldAddrA, fieldA, sliceA, boundsA, bndA, lenA, arrayAtA, rowOf, makeSliceA, intsOf, copyA, Nat.reduceAdd, Nat.reduceSub, Nat.reduceMul, Nat.reduceLeDiff, Nat.reduceLT, Nat.reduceGT, Int.reduceToNat, Int.reduceLE, Int.reduceLT, Int.reduceEq, Int.reduceNe, Int.reduceAdd, Int.reduceSub, Int.reduceMul, Int.reduceNeg, ge_iff_le, gt_iff_lt, or_true, true_or, or_false, false_or, not_true, not_false_iff, ite_true, ite_false, dite_true, take_app, take_blakeL, blakeL_len, run_range, c18_pure, c18_news, p12, F33_eq, p11, F40_eq, F41_eq, n11, N36_eq, N37_eq, pageO, p10, F42_eq, F43_eq, n10, N32_eq, n9, N31_eq, N58_eq, p9, F61_eq, fourL_len, p8, F74_eq, F75_32, F75_24, F75_16, F75_63, p7, F82_eq, p6, F34_eq, p5, F22_eq, p4, p3, p2, p1, F80_eq, F70_eq, F53_eq, F55_eq, F25_eq, F56_eq, F23_eq, n8, N30_nil, N30_ptr, N28_nil, N28_ptr, hashK_eq, hashR_eq, n7, n6, n5, N57_eq, N27_eq, N20_eq, N21_eq, addNews, allOf, hr, hll] | simp (maxSteps := 1000000) (disch := omega) only [ar_nat, ar_u64, ar_add, ar_sub, ar_mul, ar_div, ar_mod, ar_dec_t, ar_dec_f, ar_beq_t, ar_beq_f, ar_bne_t, ar_bne_f, ar_guard, or_guard, ar_take, ar_take_drop, ar_drop, Int.toNat_natCast, Int.reduceToNat])
  repeat (with_reducible refine And.intro (by first | omega | assumption) ?_)
  refine loop_count (good18 0) (fun i => ⟨envL [(0, .v (.int .i64 n)), (8, .sl 0 0 1 0 n c0), (12, .sl 1 0 1 0 (vLen n i) (vLen n i)), (14, .v (.int .i64 (32 * i : Nat)))],
      [some [.arr n .u8 (longL n (le4 n ++ b))], some [.arr (vLen n i) .u8 (vAt n (le4 n ++ b) i)]]⟩) ((n - 33) / 32) (by kernel_rfl) ?_ ?_ ?_
  · have e0 : vLen n 0 = 64 := by unfold vLen; rw [if_pos (by omega)]
    have e2 : vAt n (le4 n ++ b) 0 = blakeL 64 [] (IntKind.u8.wrap n :: IntKind.u8.wrap (shr IntKind.i64 n 8) :: IntKind.u8.wrap (shr IntKind.i64 n 16) :: IntKind.u8.wrap (shr IntKind.i64 n 24) :: b) := by
      unfold vAt; rw [if_pos (by omega)]; rfl
    rw [e0, e2]
    (refine weak_gc' [2, 4] (by decide) (by simp) (by rfl) ?_ ?_; (focus (first | with_reducible rfl | (simp only [List.map_cons, List.map_nil, List.cons_append, List.nil_append, List.getElem?_cons_zero, List.getElem?_cons_succ, renB, renL, Option.map_some, Option.map_none, AV.ren, gcMap, List.getD_cons_zero, List.getD_cons_succ, Nat.mul_zero] <;> with_reducible rfl))); simp only [List.map_cons, List.map_nil, List.length_cons, List.length_nil, Nat.reduceAdd, AV.ren, renL, gcMap, envAll_cons, envAll_nil, get_put, get_envOf, get_envL_cons, get_envL_nil, Nat.reduceEqDiff, if_true, if_false, reduceIte, Option.some.injEq, and_self, reduceCtorEq, List.getD_cons_zero, List.getD_cons_succ, Int.cast_ofNat_Int, and_true, true_and, Nat.mul_zero])
  · intro i hi
    have v1 : vLen n i = 64 := by unfold vLen; rw [if_pos hi]
    have hvl := vAt_len n (le4 n ++ b) i
    rw [v1] at hvl
    have hpart : ((longL n (le4 n ++ b)).drop (32 * i)).take (32 * i + 32 - 32 * i) = (vAt n (le4 n ++ b) i).take 32 := by
      rw [Nat.add_sub_cancel_left]; exact long_part n (le4 n ++ b) h64 i hi
    have hsucc := vAt_succ n (le4 n ++ b) i hi
    have hvt : (vAt n (le4 n ++ b) i).take 64 = vAt n (le4 n ++ b) i := List.take_of_length_le (by omega)
    have hvb : 33 ≤ vLen n (i + 1) ∧ vLen n (i + 1) ≤ 64 := by unfold vLen; split <;> omega
    by_cases hlast : i + 1 < (n - 33) / 32
    · have v2 : vLen n (i + 1) = 64 := by unfold vLen; rw [if_pos hlast]
      rw [v2] at hsucc
      repeat (first | simp only [c18_P, c18_odd, Nat.reduceBEq, layInts, layOnes, beq_self_eq_true, bne_self_eq_false, addPure, reduceIte, Nat.reduceEqDiff, reduceCtorEq, ne_eq, not_false_eq_true, not_true_eq_false, and_true, true_and, and_self, if_true, if_false, decide_true, decide_false, decide_eq_true_eq, exA, exA, tabs, exB, buildA, layA, rowPut, rowOr, rowSetAt, rowSet, rowTake, rowDrop, rowCell, rowAgg, mkAgg, AV.size, AV.isAggV, AV.parts, AV.one, AV.solid, headSize, psize, indexAddrA, indexA, fieldAddrA, fieldA, sliceA, boundsA, bndA, lenA, arrayAtA, rowOf, makeSliceA, intsOf, copyA, Nat.reduceAdd, Nat.reduceSub, Nat.reduceMul, Nat.reduceLeDiff, Nat.reduceLT, Nat.reduceGT, Int.reduceToNat, Int.reduceLE, Int.reduceLT, Int.reduceEq, Int.reduceNe, Int.reduceAdd, Int.reduceSub, Int.reduceMul, Int.reduceNeg, ge_iff_le, gt_iff_lt, or_true, true_or, or_false, false_or, not_true, not_false_iff, ite_true, ite_false, dite_true, take_app, take_blakeL, blakeL_len, run_range, c18_pure, c18_news, p12, F33_eq, p11, F40_eq, F41_eq, n11, N36_eq, N37_eq, pageO, p10, F42_eq, F43_eq, n10, N32_eq, n9, N31_eq, N58_eq, p9, F61_eq, fourL_len, p8, F74_eq, F75_32, F75_24, F75_16, F75_63, p7, F82_eq, p6, F34_eq, p5, F22_eq, p4, p3, p2, p1, F80_eq, F70_eq, F53_eq, F55_eq, F25_eq, F56_eq, F23_eq, n8, N30_nil, N30_ptr, N28_nil, N28_ptr, hashK_eq, hashR_eq, n7, n6, n5, N57_eq, N27_eq, N20_eq, N21_eq, addNews, allOf, hr, v1, hvl, hll, hpart, hvt] | simp (maxSteps := 1000000) (disch := omega) only [ar_nat, ar_u64, ar_add, ar_sub, ar_mul, ar_div, ar_mod, ar_dec_t, ar_dec_f, ar_beq_t, ar_beq_f, ar_bne_t, ar_bne_f, ar_guard, or_guard, ar_take, ar_take_drop, ar_drop, Int.toNat_natCast, Int.reduceToNat])
      repeat (with_reducible refine And.intro (by first | omega | assumption) ?_)
      rw [v2, hsucc, show 32 * (i + 1) = 32 * i + 32 by omega]
      (refine weak_gc' [0, 3] (by decide) (by simp) (by rfl) ?_ ?_; (focus (first | with_reducible rfl | (simp only [List.map_cons, List.map_nil, List.cons_append, List.nil_append, List.getElem?_cons_zero, List.getElem?_cons_succ, renB, renL, Option.map_some, Option.map_none, AV.ren, gcMap, List.getD_cons_zero, List.getD_cons_succ, hsucc] <;> with_reducible rfl))); simp only [List.map_cons, List.map_nil, List.length_cons, List.length_nil, Nat.reduceAdd, AV.ren, renL, gcMap, envAll_cons, envAll_nil, get_put, get_envOf, get_envL_cons, get_envL_nil, Nat.reduceEqDiff, if_true, if_false, reduceIte, Option.some.injEq, and_self, reduceCtorEq, List.getD_cons_zero, List.getD_cons_succ, Int.cast_ofNat_Int, and_true, true_and, hsucc])
    · have v2 : vLen n (i + 1) = n - 32 * (i + 1) := by unfold vLen; rw [if_neg hlast]; omega
      repeat (first | simp only [c18_P, c18_odd, Nat.reduceBEq, layInts, layOnes, beq_self_eq_true, bne_self_eq_false, addPure, reduceIte, Nat.reduceEqDiff, reduceCtorEq, ne_eq, not_false_eq_true, not_true_eq_false, and_true, true_and, and_self, if_true, if_false, decide_true, decide_false, decide_eq_true_eq, exA, exA, tabs, exB, buildA, layA, rowPut, rowOr, rowSetAt, rowSet, rowTake, rowDrop, rowCell, rowAgg, mkAgg, AV.size, AV.isAggV, AV.parts, AV.one, AV.solid, headSize, psize, indexAddrA, indexA, fieldAddrA, fieldA, sliceA, boundsA, bndA, lenA, arrayAtA, rowOf, makeSliceA, intsOf, copyA, Nat.reduceAdd, Nat.reduceSub, Nat.reduceMul, Nat.reduceLeDiff, Nat.reduceLT, Nat.reduceGT, Int.reduceToNat, Int.reduceLE, Int.reduceLT, Int.reduceEq, Int.reduceNe, Int.reduceAdd, Int.reduceSub, Int.reduceMul, Int.reduceNeg, ge_iff_le, gt_iff_lt, or_true, true_or, or_false, false_or, not_true, not_false_iff, ite_true, ite_false, dite_true, take_app, take_blakeL, blakeL_len, run_range, c18_pure, c18_news, p12, F33_eq, p11, F40_eq, F41_eq, n11, N36_eq, N37_eq, pageO, p10, F42_eq, F43_eq, n10, N32_eq, n9, N31_eq, N58_eq, p9, F61_eq, fourL_len, p8, F74_eq, F75_32, F75_24, F75_16, F75_63, p7, F82_eq, p6, F34_eq, p5, F22_eq, p4, p3, p2, p1, F80_eq, F70_eq, F53_eq, F55_eq, F25_eq, F56_eq, F23_eq, n8, N30_nil, N30_ptr, N28_nil, N28_ptr, hashK_eq, hashR_eq, n7, n6, n5, N57_eq, N27_eq, N20_eq, N21_eq, addNews, allOf, hr, v1, hvl, hll, hpart, hvt] | simp (maxSteps := 1000000) (disch := omega) only [ar_nat, ar_u64, ar_add, ar_sub, ar_mul, ar_div, ar_mod, ar_dec_t, ar_dec_f, ar_beq_t, ar_beq_f, ar_bne_t, ar_bne_f, ar_guard, or_guard, ar_take, ar_take_drop, ar_drop, Int.toNat_natCast, Int.reduceToNat])
      repeat (with_reducible refine And.intro (by first | omega | assumption) ?_)
      rw [hsucc, v2, show 32 * (i + 1) = 32 * i + 32 by omega]
      (refine weak_gc' [0, 3] (by decide) (by simp) (by rfl) ?_ ?_; (focus (first | with_reducible rfl | (simp only [List.map_cons, List.map_nil, List.cons_append, List.nil_append, List.getElem?_cons_zero, List.getElem?_cons_succ, renB, renL, Option.map_some, Option.map_none, AV.ren, gcMap, List.getD_cons_zero, List.getD_cons_succ, hsucc] <;> with_reducible rfl))); simp only [List.map_cons, List.map_nil, List.length_cons, List.length_nil, Nat.reduceAdd, AV.ren, renL, gcMap, envAll_cons, envAll_nil, get_put, get_envOf, get_envL_cons, get_envL_nil, Nat.reduceEqDiff, if_true, if_false, reduceIte, Option.some.injEq, and_self, reduceCtorEq, List.getD_cons_zero, List.getD_cons_succ, Int.cast_ofNat_Int, and_true, true_and, hsucc])
  · have vR : vLen n ((n - 33) / 32) = n - 32 * ((n - 33) / 32) := by unfold vLen; rw [if_neg (by omega)]
    have hvl := vAt_len n (le4 n ++ b) ((n - 33) / 32)
    have hlast := long_last n (le4 n ++ b) h64
    have hvt : (vAt n (le4 n ++ b) ((n - 33) / 32)).take (n - 32 * ((n - 33) / 32)) = vAt n (le4 n ++ b) ((n - 33) / 32) := List.take_of_length_le (by omega)
    repeat (first | simp only [c18_P, c18_odd, Nat.reduceBEq, layInts, layOnes, beq_self_eq_true, bne_self_eq_false, addPure, reduceIte, Nat.reduceEqDiff, reduceCtorEq, ne_eq, not_false_eq_true, not_true_eq_false, and_true, true_and, and_self, if_true, if_false, decide_true, decide_false, decide_eq_true_eq, exA, exA, tabs, exB, buildA, layA, rowPut, rowOr, rowSetAt, rowSet, rowTake, rowDrop, rowCell, rowAgg, mkAgg, AV.size, AV.isAggV, AV.parts, AV.one, AV.solid, headSize, psize, indexAddrA, indexA, fieldAddrA, fieldA, sliceA, boundsA, bndA, lenA, arrayAtA, rowOf, makeSliceA, intsOf, copyA, Nat.reduceAdd, Nat.reduceSub, Nat.reduceMul, Nat.reduceLeDiff, Nat.reduceLT, Nat.reduceGT, Int.reduceToNat, Int.reduceLE, Int.reduceLT, Int.reduceEq, Int.reduceNe, Int.reduceAdd, Int.reduceSub, Int.reduceMul, Int.reduceNeg, ge_iff_le, gt_iff_lt, or_true, true_or, or_false, false_or, not_true, not_false_iff, ite_true, ite_false, dite_true, take_app, take_blakeL, blakeL_len, run_range, c18_pure, c18_news, p12, F33_eq, p11, F40_eq, F41_eq, n11, N36_eq, N37_eq, pageO, p10, F42_eq, F43_eq, n10, N32_eq, n9, N31_eq, N58_eq, p9, F61_eq, fourL_len, p8, F74_eq, F75_32, F75_24, F75_16, F75_63, p7, F82_eq, p6, F34_eq, p5, F22_eq, p4, p3, p2, p1, F80_eq, F70_eq, F53_eq, F55_eq, F25_eq, F56_eq, F23_eq, n8, N30_nil, N30_ptr, N28_nil, N28_ptr, hashK_eq, hashR_eq, n7, n6, n5, N57_eq, N27_eq, N20_eq, N21_eq, addNews, allOf, hr, vR, hvl, hll, hlast, hvt] | simp (maxSteps := 1000000) (disch := omega) only [ar_nat, ar_u64, ar_add, ar_sub, ar_mul, ar_div, ar_mod, ar_dec_t, ar_dec_f, ar_beq_t, ar_beq_f, ar_bne_t, ar_bne_f, ar_guard, or_guard, ar_take, ar_take_drop, ar_drop, Int.toNat_natCast, Int.reduceToNat])
    repeat (with_reducible refine And.intro (by first | omega | assumption) ?_)
    omega
theorem law_short (n : Int) (b : List Int) (hl : b.length ≤ 1048576) : ACall Try.prog 13 [.v (.int .i64 n), .roI .u8 b] [] fun r _ => r = .v (.bool true) := by
  by_cases h1 : n < 1
  · refine acall_run (good18 0) Try.func13 rfl ⟨by kernel_rfl, by show 2 ≤ _; decide, by kernel_rfl, by kernel_rfl⟩ rfl ?_; have hr : Try.f13.results.toList = [.tmp 4] := rfl
    repeat (first | simp only [c18_P, c18_odd, Nat.reduceBEq, layInts, layOnes, beq_self_eq_true, bne_self_eq_false, addPure, reduceIte, Nat.reduceEqDiff, reduceCtorEq, ne_eq, not_false_eq_true, not_true_eq_false, and_true, true_and, and_self, if_true, if_false, decide_true, decide_false, decide_eq_true_eq, exA, exA, tabs, exB, buildA, layA, rowPut, rowOr, rowSetAt, rowSet, rowTake, rowDrop, rowCell, rowAgg, mkAgg, AV.size, AV.isAggV, AV.parts, AV.one, AV.solid, headSize, psize, indexAddrA, indexA, fieldAddrA, fieldA, sliceA, boundsA, bndA, lenA, arrayAtA, rowOf, makeSliceA, intsOf, copyA, Nat.reduceAdd, Nat.reduceSub, Nat.reduceMul, Nat.reduceLeDiff, Nat.reduceLT, Nat.reduceGT, Int.reduceToNat, Int.reduceLE, Int.reduceLT, Int.reduceEq, Int.reduceNe, Int.reduceAdd, Int.reduceSub, Int.reduceMul, Int.reduceNeg, ge_iff_le, gt_iff_lt, or_true, true_or, or_false, false_or, not_true, not_false_iff, ite_true, ite_false, dite_true, take_app, take_blakeL, blakeL_len, run_range, c18_pure, c18_news, p12, F33_eq, p11, F40_eq, F41_eq, n11, N36_eq, N37_eq, pageO, p10, F42_eq, F43_eq, n10, N32_eq, n9, N31_eq, N58_eq, p9, F61_eq, fourL_len, p8, F74_eq, F75_32, F75_24, F75_16, F75_63, p7, F82_eq, p6, F34_eq, p5, F22_eq, p4, p3, p2, p1, F80_eq, F70_eq, F53_eq, F55_eq, F25_eq, F56_eq, F23_eq, n8, N30_nil, N30_ptr, N28_nil, N28_ptr, hashK_eq, hashR_eq, n7, n6, n5, N57_eq, N27_eq, N20_eq, N21_eq, addNews, allOf, hr, h1] | simp (maxSteps := 1000000) (disch := omega) only [ar_nat, ar_u64, ar_add, ar_sub, ar_mul, ar_div, ar_mod, ar_dec_t, ar_dec_f, ar_beq_t, ar_beq_f, ar_bne_t, ar_bne_f, ar_guard, or_guard, ar_take, ar_take_drop, ar_drop, Int.toNat_natCast, Int.reduceToNat])
    repeat' (first | omega | exact trivial | intro _ | refine And.intro ?_ ?_)
  by_cases h2 : 65536 < n
  · refine acall_run (good18 0) Try.func13 rfl ⟨by kernel_rfl, by show 2 ≤ _; decide, by kernel_rfl, by kernel_rfl⟩ rfl ?_; have hr : Try.f13.results.toList = [.tmp 4] := rfl
    repeat (first | simp only [c18_P, c18_odd, Nat.reduceBEq, layInts, layOnes, beq_self_eq_true, bne_self_eq_false, addPure, reduceIte, Nat.reduceEqDiff, reduceCtorEq, ne_eq, not_false_eq_true, not_true_eq_false, and_true, true_and, and_self, if_true, if_false, decide_true, decide_false, decide_eq_true_eq, exA, exA, tabs, exB, buildA, layA, rowPut, rowOr, rowSetAt, rowSet, rowTake, rowDrop, rowCell, rowAgg, mkAgg, AV.size, AV.isAggV, AV.parts, AV.one, AV.solid, headSize, psize, indexAddrA, indexA, fieldAddrA, fieldA, sliceA, boundsA, bndA, lenA, arrayAtA, rowOf, makeSliceA, intsOf, copyA, Nat.reduceAdd, Nat.reduceSub, Nat.reduceMul, Nat.reduceLeDiff, Nat.reduceLT, Nat.reduceGT, Int.reduceToNat, Int.reduceLE, Int.reduceLT, Int.reduceEq, Int.reduceNe, Int.reduceAdd, Int.reduceSub, Int.reduceMul, Int.reduceNeg, ge_iff_le, gt_iff_lt, or_true, true_or, or_false, false_or, not_true, not_false_iff, ite_true, ite_false, dite_true, take_app, take_blakeL, blakeL_len, run_range, c18_pure, c18_news, p12, F33_eq, p11, F40_eq, F41_eq, n11, N36_eq, N37_eq, pageO, p10, F42_eq, F43_eq, n10, N32_eq, n9, N31_eq, N58_eq, p9, F61_eq, fourL_len, p8, F74_eq, F75_32, F75_24, F75_16, F75_63, p7, F82_eq, p6, F34_eq, p5, F22_eq, p4, p3, p2, p1, F80_eq, F70_eq, F53_eq, F55_eq, F25_eq, F56_eq, F23_eq, n8, N30_nil, N30_ptr, N28_nil, N28_ptr, hashK_eq, hashR_eq, n7, n6, n5, N57_eq, N27_eq, N20_eq, N21_eq, addNews, allOf, hr] | simp (maxSteps := 1000000) (disch := omega) only [ar_nat, ar_u64, ar_add, ar_sub, ar_mul, ar_div, ar_mod, ar_dec_t, ar_dec_f, ar_beq_t, ar_beq_f, ar_bne_t, ar_bne_f, ar_guard, or_guard, ar_take, ar_take_drop, ar_drop, Int.toNat_natCast, Int.reduceToNat])
    repeat' (first | omega | exact trivial | intro _ | refine And.intro ?_ ?_)
  obtain ⟨n, rfl⟩ := Int.eq_ofNat_of_zero_le (show 0 ≤ n by omega)
  by_cases h3 : n ≤ 64
  · have hL : longL n (le4 n ++ b) = blakeL n [] (le4 n ++ b) := by unfold longL; rw [if_pos h3]
    have hll := longL_len n (le4 n ++ b)
    refine acall_run (good18 0) Try.func13 rfl ⟨by kernel_rfl, by show 2 ≤ _; decide, by kernel_rfl, by kernel_rfl⟩ rfl ?_; have hr : Try.f13.results.toList = [.tmp 4] := rfl
    repeat (first | simp only [c18_P, c18_odd, Nat.reduceBEq, layInts, layOnes, beq_self_eq_true, bne_self_eq_false, addPure, reduceIte, Nat.reduceEqDiff, reduceCtorEq, ne_eq, not_false_eq_true, not_true_eq_false, and_true, true_and, and_self, if_true, if_false, decide_true, decide_false, decide_eq_true_eq, exA, exA, tabs, exB, buildA, layA, rowPut, rowOr, rowSetAt, rowSet, rowTake, rowDrop, rowCell, rowAgg, mkAgg, AV.size, AV.isAggV, AV.parts, AV.one, AV.solid, headSize, psize, indexAddrA, indexA, fieldAddrA, fieldA, sliceA, boundsA, bndA, lenA, arrayAtA, rowOf, makeSliceA, intsOf, copyA, Nat.reduceAdd, Nat.reduceSub, Nat.reduceMul, Nat.reduceLeDiff, Nat.reduceLT, Nat.reduceGT, Int.reduceToNat, Int.reduceLE, Int.reduceLT, Int.reduceEq, Int.reduceNe, Int.reduceAdd, Int.reduceSub, Int.reduceMul, Int.reduceNeg, ge_iff_le, gt_iff_lt, or_true, true_or, or_false, false_or, not_true, not_false_iff, ite_true, ite_false, dite_true, take_app, take_blakeL, blakeL_len, run_range, c18_pure, c18_news, p12, F33_eq, p11, F40_eq, F41_eq, n11, N36_eq, N37_eq, pageO, p10, F42_eq, F43_eq, n10, N32_eq, n9, N31_eq, N58_eq, p9, F61_eq, fourL_len, p8, F74_eq, F75_32, F75_24, F75_16, F75_63, p7, F82_eq, p6, F34_eq, p5, F22_eq, p4, p3, p2, p1, F80_eq, F70_eq, F53_eq, F55_eq, F25_eq, F56_eq, F23_eq, n8, N30_nil, N30_ptr, N28_nil, N28_ptr, hashK_eq, hashR_eq, n7, n6, n5, N57_eq, N27_eq, N20_eq, N21_eq, addNews, allOf, hr, hL, hll] | simp (maxSteps := 1000000) (disch := omega) only [ar_nat, ar_u64, ar_add, ar_sub, ar_mul, ar_div, ar_mod, ar_dec_t, ar_dec_f, ar_beq_t, ar_beq_f, ar_bne_t, ar_bne_f, ar_guard, or_guard, ar_take, ar_take_drop, ar_drop, Int.toNat_natCast, Int.reduceToNat])
    repeat' (first | omega | exact trivial | intro _ | refine And.intro ?_ ?_)
    show AV.v (.bool ((bytesOf (blakeL n [] (le4 n ++ b))).toList == (bytesOf (blakeL n [] (le4 n ++ b))).toList)) = _
    rw [beq_self_eq_true]
  · exact short_big n b (by omega) (by omega) hl
end Go.Proofs.Ytfnfmbikooeiaaa

namespace Go.Proofs.Ytfnfmbikooeiaaa
open Go.Ax
open Go.ChangeShapes Go.WideShapes Go.ChangeAt Go.RowKit
set_option maxRecDepth 100000 in
/-- MixShort: what the walk gives -/
theorem mixShort_contract (H : Type) (enc : TypeId × Value → H) (W : World) (base : Nat) (args : Array Value) (ds gs : List (DataW H)) (before : List MemPlace)
    (hval : ∀ (j : Nat) t v, Try.f13.params[j]? = some t → args[j]? = some v → Value.okWide Try.prog W .any base t v)
    (hW : DataW.Whole enc Try.prog Try.f13.params.toList Rows.mixShortSpec.vars false W args.toList ds gs before) (hk : Rows.uptoSmall H (ds ++ gs) = true) :
    Calls Try.prog 13 args W fun e W' => ∃ v, e = .returned v ∧ Rows.mixShortSpec.post enc Try.prog Try.f13 false true false false W args v W' := by
  have hW' := hW
  obtain ⟨p, q, hA0, hV, rfl, hfz, hnd⟩ := hW
  have hA : DataW.TrodAll enc Try.prog W 0 (fun _ => true) true Try.f13.params.toList args.toList ds p := hA0
  rw [Try.params13] at hA hval
  obtain ⟨v0, vs0, d0, ds0, p0, q0, hv0, rfl, rfl, h0, r0⟩ := trodAll_cons hA
  obtain ⟨v1, vs1, d1, ds1, p1, q1, hv1, rfl, rfl, h1, r1⟩ := trodAll_cons r0
  obtain ⟨hvn, rfl, rfl⟩ := trodAll_nil r1
  obtain rfl : args = #[v0, v1] := by
    apply Array.ext'
    rw [hv0, hv1, hvn]
  obtain ⟨rfl, rfl⟩ := trodVars_none hV
  have hX : ∀ r, ¬ XOf (fun _ => False) ([] : List (Option Nat)) [] r := by rintro r (h | ⟨b, hb, _⟩) <;> simp_all
  obtain ⟨n, rfl, rfl, rfl, w0⟩ := open_int Try.underlying3 (hval 0 3 v0 rfl rfl) h0
  obtain ⟨b, e1, b1, w1⟩ := open_ints' (X := XOf (fun _ => False) [] []) Try.underlying22 Try.underlying5 cel5 hX (hval 1 22 v1 rfl rfl) h1
  have hbulk := bulks.bound hk
  simp only [List.append_nil, Rows.uptoBulkAll] at hbulk
  have l1 := bulks.ints_len b1
  refine law_post (P := Try.prog) (L := [3, 4, 5, 22, 29, 49, 53, 60]) (by kernel_rfl) (by rw [Try.params13]; decide) rfl Try.underlying4 rfl rfl hW' (avs := _) ?_ (law_short n b (by omega))
  exact relVs_mk (v_rel rfl) (relVs_mk e1 (relVs_mk0))
set_option maxRecDepth 100000 in
theorem mixShort_lifted (os : Os) (started : os.Started) (H : Type) (enc : TypeId × Value → H) (F : Stop.Interp) :
    ReturnsInHanded {} Try.checked os 13 .any ((Rows.OpenSpec.upto Rows.mixShortSpec).pre6 enc Try.prog Try.f13 Rows.mixShortUptoRow.domain false) (((Rows.OpenSpec.upto Rows.mixShortSpec).at F).post enc Try.prog Try.f13 false true false false) := by
  refine returnsInHanded_of_cond (C := Try.checked) (s := Rows.OpenSpec.upto Rows.mixShortSpec) (k := Rows.uptoSmall) rfl own_none started (by kernel_rfl) Try.func13
    (OpenSpec.witness (enc := enc) (C := Try.checked) (s := Rows.OpenSpec.upto Rows.mixShortSpec) (k := Rows.uptoSmall) rfl false ⟨#[], #[.int .i64 0, .slice none 0 0], []⟩ 8 (by kernel_rfl) (by kernel_rfl) (by kernel_rfl)
      (x := ([.lit (.int .i64 0), .nil], [], [])) (by kernel_rfl) rfl (by kernel_rfl)) ?_
  intro W base args ds gs before hval hW _ hk _
  exact mixShort_contract H enc W base args ds gs before hval hW hk
theorem mixShort_over : Rows.mixShortUptoRow.holds Try.pinned (Rows.OpenSpec.upto Rows.mixShortSpec) :=
  OpenClaim.holds_of_cond 13 Try.f13 rfl rfl rfl rfl rfl rfl rfl ⟨rfl, rfl, rfl, rfl, rfl⟩ rfl rfl rfl rfl rfl (by kernel_rfl) Try.func13 (by kernel_rfl)
    (of_decide_eq_true (by kernel_rfl)) (by unfold Func.isWrapper; first | (rw [if_pos (by decide +kernel)]; kernel_rfl) | (rw [if_neg (by decide +kernel)]; exact ⟨rfl, rfl⟩))
    (fun os started H enc _ F => mixShort_lifted os started H enc F)
theorem mixShort_proved : Rows.MixShortUptoSaid := mixShort_over
end Go.Proofs.Ytfnfmbikooeiaaa
