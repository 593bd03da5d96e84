/- Part of the proof. -/
import Derived.Test.YtfnfmbikooeiaaaMd
import Derived.RangeFuncCalls
import Derived.RangeFuncLeaves
import Derived.Shelf.Abstract
import Derived.Shelf.RegionOpen
import Derived.WalkKit
import Derived.OwnWalkIn
import Derived.TacticsInMore
import Derived.LoopNIn
import Derived.LoopIn
import Derived.RangeFuncSeq
import Derived.Test.YtfnfmbikooeiaaaProg
import Derived.Test.YtfnfmbikooeiaaaRows
import Derived.ProofKit
set_option linter.unusedSimpArgs false
set_option linter.unusedVariables false
set_option maxHeartbeats 4000000
set_option maxRecDepth 100000
namespace Go.Proofs.Ytfnfmbikooeiaaa
open Go.Ax
theorem rstirL_len (v : List Int) : (rstirL v).length = v.length := by simp only [rstirL, fourL_len]
/-- mix.Stir -/
def F42 : List AV → Option AV
  | [.arr 16 .u64 v] => oguard (v.length = 16) (some (.arr 16 .u64 (allK v (fun j => j) 8)))
  | _ => none
theorem F42_eq (v : List Int) : F42 [.arr 16 .u64 v] = oguard (v.length = 16) (some (.arr 16 .u64 (allK v (fun j => j) 8))) := rfl
/-- casketref07.Stir -/
def F43 : List AV → Option AV
  | [.arr 16 .u64 v] => oguard (v.length = 16) (some (.arr 16 .u64 (rstirL v)))
  | _ => none
theorem F43_eq (v : List Int) : F43 [.arr 16 .u64 v] = oguard (v.length = 16) (some (.arr 16 .u64 (rstirL v))) := rfl
noncomputable def p10 : FuncId → Option (List AV → Option AV) := addPure (addPure p9 42 F42) 43 F43
noncomputable def c16 (k : Nat) : Cfg := ⟨Try.prog, k, p10, [], n10, none⟩
theorem c16_odd (k : Nat) : (c16 k).odd = [] := rfl
theorem c16_P (k : Nat) : (c16 k).P = Try.prog := rfl
theorem c16_pure (k : Nat) : (c16 k).pure = p10 := rfl
theorem c16_news (k : Nat) : (c16 k).news = n10 := rfl
theorem good16 (k : Nat) : (c16 k).Good := by
  refine Cfg.Good.add (Cfg.Good.add (good15 k) ?_ k) ?_ k
  · intro args v hF h κ hκ
    unfold F42 at hF
    split at hF
    · obtain ⟨h1, hF⟩ := oguard_some hF
      cases hF
      exact pure_call (Stir_spec _ h1) (fun g => rfl) (fun g => rfl) h κ hκ
    · cases hF
  · intro args v hF h κ hκ
    unfold F43 at hF
    split at hF
    · obtain ⟨h1, hF⟩ := oguard_some hF
      cases hF
      exact pure_call (rStir_spec _ h1) (fun g => rfl) (fun g => rfl) h κ hκ
    · cases hF
end Go.Proofs.Ytfnfmbikooeiaaa

namespace Go.Proofs.Ytfnfmbikooeiaaa
open Go.Ax
/-- a word with a byte more -/
def wordB (p : List Int) (j : Nat) (c : Int) (k : Nat) : List Int := p.set j (orU (p.getD j 0) (shl .u64 (IntKind.u64.wrap c) ((8 * k : Nat) : Int)))
theorem wordB_len (p : List Int) (j : Nat) (c : Int) (k : Nat) : (wordB p j c k).length = p.length := by simp [wordB]
def rpageK (b : List Int) : Nat → List Int
  | 0 => List.replicate 128 0
  | i + 1 => wordB (rpageK b i) (i / 8) (b.getD i 0) (i % 8)
theorem rpageK_len (b : List Int) : ∀ i, (rpageK b i).length = 128
  | 0 => by simp [rpageK]
  | i + 1 => by simp only [rpageK, wordB_len]; exact rpageK_len b i
theorem take128 {l : List Int} (h : l.length = 128) : l.take 128 = l := List.take_of_length_le (by omega)
theorem rpage_bad (b : List Int) (hb : b.length ≠ 1024) :
    ACall Try.prog 38 [.roI .u8 b] [] fun v _ => v = .tup [.arr 128 .u64 (List.replicate 128 0), .v (.int .i64 1)] := by
  have h1 : ((b.length : Int) != 1024) = true := by simp; omega
  refine acall_run (good15 0) Try.func38 rfl ⟨by kernel_rfl, by show 1 ≤ _; decide, by kernel_rfl, by kernel_rfl⟩ rfl ?_; have hr : Try.f38.results.toList = [.cell 2 53, .tmp 3] := rfl
  repeat (first | simp only [c15_P, c15_odd, Nat.reduceBEq, layInts, layOnes, beq_self_eq_true, bne_self_eq_false, addPure, reduceIte, Nat.reduceEqDiff, reduceCtorEq, ne_eq, not_false_eq_true, not_true_eq_false, and_true, true_and, and_self, if_true, if_false, decide_true, decide_false, decide_eq_true_eq, exA, exA, tabs, exB, buildA, layA, rowPut, rowOr, rowSetAt, rowSet, rowTake, rowDrop, rowCell, rowAgg, mkAgg, AV.size, AV.isAggV, AV.parts, AV.one, AV.solid, headSize, psize, indexAddrA, indexA, fieldAddrA, fieldA, sliceA, boundsA, bndA, lenA, arrayAtA, rowOf, makeSliceA, intsOf, copyA, Nat.reduceAdd, Nat.reduceSub, Nat.reduceMul, Nat.reduceLeDiff, Nat.reduceLT, Nat.reduceGT, Int.reduceToNat, Int.reduceLE, Int.reduceLT, Int.reduceEq, Int.reduceNe, Int.reduceAdd, Int.reduceSub, Int.reduceMul, Int.reduceNeg, ge_iff_le, gt_iff_lt, or_true, true_or, or_false, false_or, not_true, not_false_iff, ite_true, ite_false, dite_true, take_app, take_blakeL, blakeL_len, run_range, c15_pure, c15_news, n10, N32_eq, n9, N31_eq, N58_eq, p9, F61_eq, fourL_len, p8, F74_eq, F75_32, F75_24, F75_16, F75_63, p7, F82_eq, p6, F34_eq, p5, F22_eq, p4, p3, p2, p1, F80_eq, F70_eq, F53_eq, F55_eq, F25_eq, F56_eq, F23_eq, n8, N30_nil, N30_ptr, N28_nil, N28_ptr, hashK_eq, hashR_eq, n7, n6, n5, N57_eq, N27_eq, N20_eq, N21_eq, addNews, allOf, hr, h1] | simp (maxSteps := 1000000) (disch := omega) only [ar_nat, ar_u64, ar_add, ar_sub, ar_mul, ar_div, ar_mod, ar_dec_t, ar_dec_f, ar_beq_t, ar_beq_f, ar_bne_t, ar_bne_f, ar_guard, or_guard, ar_take, ar_take_drop, ar_drop, Int.toNat_natCast, Int.reduceToNat])
  rfl
theorem rpage_spec (b : List Int) (hb : b.length = 1024) :
    ACall Try.prog 38 [.roI .u8 b] [] fun v _ => v = .tup [.arr 128 .u64 (rpageK b 1024), .v (.int .i64 0)] := by
  have na : ∀ n : Nat, (0 : Int) ≤ n := fun n => Int.natCast_nonneg n
  refine acall_run (good15 0) Try.func38 rfl ⟨by kernel_rfl, by show 1 ≤ _; decide, by kernel_rfl, by kernel_rfl⟩ rfl ?_; have hr : Try.f38.results.toList = [.cell 2 53, .tmp 3] := rfl
  repeat (first | simp only [c15_P, c15_odd, Nat.reduceBEq, layInts, layOnes, beq_self_eq_true, bne_self_eq_false, addPure, reduceIte, Nat.reduceEqDiff, reduceCtorEq, ne_eq, not_false_eq_true, not_true_eq_false, and_true, true_and, and_self, if_true, if_false, decide_true, decide_false, decide_eq_true_eq, exA, exA, tabs, exB, buildA, layA, rowPut, rowOr, rowSetAt, rowSet, rowTake, rowDrop, rowCell, rowAgg, mkAgg, AV.size, AV.isAggV, AV.parts, AV.one, AV.solid, headSize, psize, indexAddrA, indexA, fieldAddrA, fieldA, sliceA, boundsA, bndA, lenA, arrayAtA, rowOf, makeSliceA, intsOf, copyA, Nat.reduceAdd, Nat.reduceSub, Nat.reduceMul, Nat.reduceLeDiff, Nat.reduceLT, Nat.reduceGT, Int.reduceToNat, Int.reduceLE, Int.reduceLT, Int.reduceEq, Int.reduceNe, Int.reduceAdd, Int.reduceSub, Int.reduceMul, Int.reduceNeg, ge_iff_le, gt_iff_lt, or_true, true_or, or_false, false_or, not_true, not_false_iff, ite_true, ite_false, dite_true, take_app, take_blakeL, blakeL_len, run_range, c15_pure, c15_news, n10, N32_eq, n9, N31_eq, N58_eq, p9, F61_eq, fourL_len, p8, F74_eq, F75_32, F75_24, F75_16, F75_63, p7, F82_eq, p6, F34_eq, p5, F22_eq, p4, p3, p2, p1, F80_eq, F70_eq, F53_eq, F55_eq, F25_eq, F56_eq, F23_eq, n8, N30_nil, N30_ptr, N28_nil, N28_ptr, hashK_eq, hashR_eq, n7, n6, n5, N57_eq, N27_eq, N20_eq, N21_eq, addNews, allOf, hr, hb] | simp (maxSteps := 1000000) (disch := omega) only [ar_nat, ar_u64, ar_add, ar_sub, ar_mul, ar_div, ar_mod, ar_dec_t, ar_dec_f, ar_beq_t, ar_beq_f, ar_bne_t, ar_bne_f, ar_guard, or_guard, ar_take, ar_take_drop, ar_drop, Int.toNat_natCast, Int.reduceToNat])
  refine loop_count (good15 0) (fun i => ⟨envL [(0, .roI .u8 b), (2, .ptr 0 0 0), (4, .ptr 1 0 0), (5, .v (.int .i64 i))], [some [.arr 128 .u64 (List.replicate 128 0)], some [.arr 128 .u64 (rpageK b i)]]⟩) 1024 (by kernel_rfl) ?_ ?_ ?_
  · (refine weak_of ?_ ?_; (focus (first | with_reducible rfl | (simp only [rpageK] <;> with_reducible rfl))); simp only [envAll_cons, envAll_nil, get_put, get_envOf, get_envL_cons, get_envL_nil, Nat.reduceEqDiff, if_true, if_false, reduceIte, Option.some.injEq, and_self, reduceCtorEq, List.getD_cons_zero, List.getD_cons_succ, Int.cast_ofNat_Int, and_true, true_and, rpageK])
  · intro i hi
    repeat (first | simp only [c15_P, c15_odd, Nat.reduceBEq, layInts, layOnes, beq_self_eq_true, bne_self_eq_false, addPure, reduceIte, Nat.reduceEqDiff, reduceCtorEq, ne_eq, not_false_eq_true, not_true_eq_false, and_true, true_and, and_self, if_true, if_false, decide_true, decide_false, decide_eq_true_eq, exA, exA, tabs, exB, buildA, layA, rowPut, rowOr, rowSetAt, rowSet, rowTake, rowDrop, rowCell, rowAgg, mkAgg, AV.size, AV.isAggV, AV.parts, AV.one, AV.solid, headSize, psize, indexAddrA, indexA, fieldAddrA, fieldA, sliceA, boundsA, bndA, lenA, arrayAtA, rowOf, makeSliceA, intsOf, copyA, Nat.reduceAdd, Nat.reduceSub, Nat.reduceMul, Nat.reduceLeDiff, Nat.reduceLT, Nat.reduceGT, Int.reduceToNat, Int.reduceLE, Int.reduceLT, Int.reduceEq, Int.reduceNe, Int.reduceAdd, Int.reduceSub, Int.reduceMul, Int.reduceNeg, ge_iff_le, gt_iff_lt, or_true, true_or, or_false, false_or, not_true, not_false_iff, ite_true, ite_false, dite_true, take_app, take_blakeL, blakeL_len, run_range, c15_pure, c15_news, n10, N32_eq, n9, N31_eq, N58_eq, p9, F61_eq, fourL_len, p8, F74_eq, F75_32, F75_24, F75_16, F75_63, p7, F82_eq, p6, F34_eq, p5, F22_eq, p4, p3, p2, p1, F80_eq, F70_eq, F53_eq, F55_eq, F25_eq, F56_eq, F23_eq, n8, N30_nil, N30_ptr, N28_nil, N28_ptr, hashK_eq, hashR_eq, n7, n6, n5, N57_eq, N27_eq, N20_eq, N21_eq, addNews, allOf, hr, hb, na] | simp (maxSteps := 1000000) (disch := omega) only [ar_nat, ar_u64, ar_add, ar_sub, ar_mul, ar_div, ar_mod, ar_dec_t, ar_dec_f, ar_beq_t, ar_beq_f, ar_bne_t, ar_bne_f, ar_guard, or_guard, ar_take, ar_take_drop, ar_drop, Int.toNat_natCast, Int.reduceToNat])
    repeat (with_reducible refine And.intro (by first | omega | assumption) ?_)
    (refine weak_of ?_ ?_; (focus (first | with_reducible rfl | (simp only [rpageK, wordB] <;> with_reducible rfl))); simp only [envAll_cons, envAll_nil, get_put, get_envOf, get_envL_cons, get_envL_nil, Nat.reduceEqDiff, if_true, if_false, reduceIte, Option.some.injEq, and_self, reduceCtorEq, List.getD_cons_zero, List.getD_cons_succ, Int.cast_ofNat_Int, and_true, true_and, rpageK, wordB])
  · repeat (first | simp only [c15_P, c15_odd, Nat.reduceBEq, layInts, layOnes, beq_self_eq_true, bne_self_eq_false, addPure, reduceIte, Nat.reduceEqDiff, reduceCtorEq, ne_eq, not_false_eq_true, not_true_eq_false, and_true, true_and, and_self, if_true, if_false, decide_true, decide_false, decide_eq_true_eq, exA, exA, tabs, exB, buildA, layA, rowPut, rowOr, rowSetAt, rowSet, rowTake, rowDrop, rowCell, rowAgg, mkAgg, AV.size, AV.isAggV, AV.parts, AV.one, AV.solid, headSize, psize, indexAddrA, indexA, fieldAddrA, fieldA, sliceA, boundsA, bndA, lenA, arrayAtA, rowOf, makeSliceA, intsOf, copyA, Nat.reduceAdd, Nat.reduceSub, Nat.reduceMul, Nat.reduceLeDiff, Nat.reduceLT, Nat.reduceGT, Int.reduceToNat, Int.reduceLE, Int.reduceLT, Int.reduceEq, Int.reduceNe, Int.reduceAdd, Int.reduceSub, Int.reduceMul, Int.reduceNeg, ge_iff_le, gt_iff_lt, or_true, true_or, or_false, false_or, not_true, not_false_iff, ite_true, ite_false, dite_true, take_app, take_blakeL, blakeL_len, run_range, c15_pure, c15_news, n10, N32_eq, n9, N31_eq, N58_eq, p9, F61_eq, fourL_len, p8, F74_eq, F75_32, F75_24, F75_16, F75_63, p7, F82_eq, p6, F34_eq, p5, F22_eq, p4, p3, p2, p1, F80_eq, F70_eq, F53_eq, F55_eq, F25_eq, F56_eq, F23_eq, n8, N30_nil, N30_ptr, N28_nil, N28_ptr, hashK_eq, hashR_eq, n7, n6, n5, N57_eq, N27_eq, N20_eq, N21_eq, addNews, allOf, hr, hb, na] | simp (maxSteps := 1000000) (disch := omega) only [ar_nat, ar_u64, ar_add, ar_sub, ar_mul, ar_div, ar_mod, ar_dec_t, ar_dec_f, ar_beq_t, ar_beq_f, ar_bne_t, ar_bne_f, ar_guard, or_guard, ar_take, ar_take_drop, ar_drop, Int.toNat_natCast, Int.reduceToNat])
    rw [take128 (rpageK_len b 1024), take128 (rpageK_len b 1024)]
/-- a page's bytes -/
def byteAt (p : List Int) (i : Nat) : Int := IntKind.u8.wrap (shr .u64 (p.getD (i / 8) 0) ((8 * (i % 8) : Nat) : Int))
def bytesP (p : List Int) (n : Nat) : List Int := (List.range n).map (byteAt p)
theorem bytesP_len (p : List Int) (n : Nat) : (bytesP p n).length = n := by simp [bytesP]
theorem bytesP_0 (p : List Int) : bytesP p 0 = [] := rfl
theorem bytesP_succ (p : List Int) (n : Nat) : bytesP p (n + 1) = bytesP p n ++ [byteAt p n] := by unfold bytesP; rw [range_snoc]
theorem bytesP_take (p : List Int) (n : Nat) : (bytesP p n).take n = bytesP p n := List.take_of_length_le (by rw [bytesP_len]; omega)
theorem rbytes_spec (p : List Int) (hp : p.length = 128) :
    ACall Try.prog 39 [.arr 128 .u64 p] [] fun v h' => ∃ c, v = .sl 0 0 1 0 1024 c ∧ h' = [some [.arr 1024 .u8 (bytesP p 1024)]] := by
  refine ACall.weak (C := c15 0) rfl (κ := fun v h' => ∃ c x, v = .sl 1 0 1 0 1024 c ∧ h' = [x, some [.arr 1024 .u8 (bytesP p 1024)]]) ?_ ?_
  · have na : ∀ n : Nat, (0 : Int) ≤ n := fun n => Int.natCast_nonneg n
    refine acall_run (good15 0) Try.func39 rfl ⟨by kernel_rfl, by show 1 ≤ _; decide, by kernel_rfl, by kernel_rfl⟩ rfl ?_; have hr : Try.f39.results.toList = [.tmp 2] := rfl
    repeat (first | simp only [c15_P, c15_odd, Nat.reduceBEq, layInts, layOnes, beq_self_eq_true, bne_self_eq_false, addPure, reduceIte, Nat.reduceEqDiff, reduceCtorEq, ne_eq, not_false_eq_true, not_true_eq_false, and_true, true_and, and_self, if_true, if_false, decide_true, decide_false, decide_eq_true_eq, exA, exA, tabs, exB, buildA, layA, rowPut, rowOr, rowSetAt, rowSet, rowTake, rowDrop, rowCell, rowAgg, mkAgg, AV.size, AV.isAggV, AV.parts, AV.one, AV.solid, headSize, psize, indexAddrA, indexA, fieldAddrA, fieldA, sliceA, boundsA, bndA, lenA, arrayAtA, rowOf, makeSliceA, intsOf, copyA, Nat.reduceAdd, Nat.reduceSub, Nat.reduceMul, Nat.reduceLeDiff, Nat.reduceLT, Nat.reduceGT, Int.reduceToNat, Int.reduceLE, Int.reduceLT, Int.reduceEq, Int.reduceNe, Int.reduceAdd, Int.reduceSub, Int.reduceMul, Int.reduceNeg, ge_iff_le, gt_iff_lt, or_true, true_or, or_false, false_or, not_true, not_false_iff, ite_true, ite_false, dite_true, take_app, take_blakeL, blakeL_len, run_range, c15_pure, c15_news, n10, N32_eq, n9, N31_eq, N58_eq, p9, F61_eq, fourL_len, p8, F74_eq, F75_32, F75_24, F75_16, F75_63, p7, F82_eq, p6, F34_eq, p5, F22_eq, p4, p3, p2, p1, F80_eq, F70_eq, F53_eq, F55_eq, F25_eq, F56_eq, F23_eq, n8, N30_nil, N30_ptr, N28_nil, N28_ptr, hashK_eq, hashR_eq, n7, n6, n5, N57_eq, N27_eq, N20_eq, N21_eq, addNews, allOf, hr] | simp (maxSteps := 1000000) (disch := omega) only [ar_nat, ar_u64, ar_add, ar_sub, ar_mul, ar_div, ar_mod, ar_dec_t, ar_dec_f, ar_beq_t, ar_beq_f, ar_bne_t, ar_bne_f, ar_guard, or_guard, ar_take, ar_take_drop, ar_drop, Int.toNat_natCast, Int.reduceToNat])
    refine loop_countE (good15 0) (fun i c => ⟨envL [(1, .ptr 0 0 0), (3, .sl 1 0 1 0 i c), (4, .v (.int .i64 i))], [some [.arr 128 .u64 p], some [.arr i .u8 (bytesP p i)]]⟩) 1024 (by kernel_rfl) ⟨0, ?_⟩ ?_ ?_
    · refine Weak.trans (weak_nil_slot 3 .u8 rfl (fun j => get_put _ _ _ _)) ?_
      (refine weak_gc' [0, 1] (by decide) (by simp) (by rfl) ?_ ?_; (focus (first | with_reducible rfl | (simp only [List.map_cons, List.map_nil, List.cons_append, List.nil_append, List.getElem?_cons_zero, List.getElem?_cons_succ, renB, renL, Option.map_some, Option.map_none, AV.ren, gcMap, List.getD_cons_zero, List.getD_cons_succ, bytesP_0] <;> with_reducible rfl))); simp only [List.map_cons, List.map_nil, List.length_cons, List.length_nil, Nat.reduceAdd, AV.ren, renL, gcMap, envAll_cons, envAll_nil, get_put, get_envOf, get_envL_cons, get_envL_nil, Nat.reduceEqDiff, if_true, if_false, reduceIte, Option.some.injEq, and_self, reduceCtorEq, List.getD_cons_zero, List.getD_cons_succ, Int.cast_ofNat_Int, and_true, true_and, bytesP_0])
    · intro i c hi
      have h1 := bytesP_take p i
      repeat (first | simp only [c15_P, c15_odd, Nat.reduceBEq, layInts, layOnes, beq_self_eq_true, bne_self_eq_false, addPure, reduceIte, Nat.reduceEqDiff, reduceCtorEq, ne_eq, not_false_eq_true, not_true_eq_false, and_true, true_and, and_self, if_true, if_false, decide_true, decide_false, decide_eq_true_eq, exA, exA, tabs, exB, buildA, layA, rowPut, rowOr, rowSetAt, rowSet, rowTake, rowDrop, rowCell, rowAgg, mkAgg, AV.size, AV.isAggV, AV.parts, AV.one, AV.solid, headSize, psize, indexAddrA, indexA, fieldAddrA, fieldA, sliceA, boundsA, bndA, lenA, arrayAtA, rowOf, makeSliceA, intsOf, copyA, Nat.reduceAdd, Nat.reduceSub, Nat.reduceMul, Nat.reduceLeDiff, Nat.reduceLT, Nat.reduceGT, Int.reduceToNat, Int.reduceLE, Int.reduceLT, Int.reduceEq, Int.reduceNe, Int.reduceAdd, Int.reduceSub, Int.reduceMul, Int.reduceNeg, ge_iff_le, gt_iff_lt, or_true, true_or, or_false, false_or, not_true, not_false_iff, ite_true, ite_false, dite_true, take_app, take_blakeL, blakeL_len, run_range, c15_pure, c15_news, n10, N32_eq, n9, N31_eq, N58_eq, p9, F61_eq, fourL_len, p8, F74_eq, F75_32, F75_24, F75_16, F75_63, p7, F82_eq, p6, F34_eq, p5, F22_eq, p4, p3, p2, p1, F80_eq, F70_eq, F53_eq, F55_eq, F25_eq, F56_eq, F23_eq, n8, N30_nil, N30_ptr, N28_nil, N28_ptr, hashK_eq, hashR_eq, n7, n6, n5, N57_eq, N27_eq, N20_eq, N21_eq, addNews, allOf, hr, na, h1] | simp (maxSteps := 1000000) (disch := omega) only [ar_nat, ar_u64, ar_add, ar_sub, ar_mul, ar_div, ar_mod, ar_dec_t, ar_dec_f, ar_beq_t, ar_beq_f, ar_bne_t, ar_bne_f, ar_guard, or_guard, ar_take, ar_take_drop, ar_drop, Int.toNat_natCast, Int.reduceToNat])
      repeat (with_reducible refine And.intro (by first | omega | assumption) ?_)
      intro c1 _
      refine ⟨c1, ?_⟩
      rw [bytesP_succ]
      (refine weak_gc' [0, 3] (by decide) (by simp) (by rfl) ?_ ?_; (focus (first | with_reducible rfl | (simp only [List.map_cons, List.map_nil, List.cons_append, List.nil_append, List.getElem?_cons_zero, List.getElem?_cons_succ, renB, renL, Option.map_some, Option.map_none, AV.ren, gcMap, List.getD_cons_zero, List.getD_cons_succ, byteAt] <;> with_reducible rfl))); simp only [List.map_cons, List.map_nil, List.length_cons, List.length_nil, Nat.reduceAdd, AV.ren, renL, gcMap, envAll_cons, envAll_nil, get_put, get_envOf, get_envL_cons, get_envL_nil, Nat.reduceEqDiff, if_true, if_false, reduceIte, Option.some.injEq, and_self, reduceCtorEq, List.getD_cons_zero, List.getD_cons_succ, Int.cast_ofNat_Int, and_true, true_and, byteAt])
    · intro c
      repeat (first | simp only [c15_P, c15_odd, Nat.reduceBEq, layInts, layOnes, beq_self_eq_true, bne_self_eq_false, addPure, reduceIte, Nat.reduceEqDiff, reduceCtorEq, ne_eq, not_false_eq_true, not_true_eq_false, and_true, true_and, and_self, if_true, if_false, decide_true, decide_false, decide_eq_true_eq, exA, exA, tabs, exB, buildA, layA, rowPut, rowOr, rowSetAt, rowSet, rowTake, rowDrop, rowCell, rowAgg, mkAgg, AV.size, AV.isAggV, AV.parts, AV.one, AV.solid, headSize, psize, indexAddrA, indexA, fieldAddrA, fieldA, sliceA, boundsA, bndA, lenA, arrayAtA, rowOf, makeSliceA, intsOf, copyA, Nat.reduceAdd, Nat.reduceSub, Nat.reduceMul, Nat.reduceLeDiff, Nat.reduceLT, Nat.reduceGT, Int.reduceToNat, Int.reduceLE, Int.reduceLT, Int.reduceEq, Int.reduceNe, Int.reduceAdd, Int.reduceSub, Int.reduceMul, Int.reduceNeg, ge_iff_le, gt_iff_lt, or_true, true_or, or_false, false_or, not_true, not_false_iff, ite_true, ite_false, dite_true, take_app, take_blakeL, blakeL_len, run_range, c15_pure, c15_news, n10, N32_eq, n9, N31_eq, N58_eq, p9, F61_eq, fourL_len, p8, F74_eq, F75_32, F75_24, F75_16, F75_63, p7, F82_eq, p6, F34_eq, p5, F22_eq, p4, p3, p2, p1, F80_eq, F70_eq, F53_eq, F55_eq, F25_eq, F56_eq, F23_eq, n8, N30_nil, N30_ptr, N28_nil, N28_ptr, hashK_eq, hashR_eq, n7, n6, n5, N57_eq, N27_eq, N20_eq, N21_eq, addNews, allOf, hr, na] | simp (maxSteps := 1000000) (disch := omega) only [ar_nat, ar_u64, ar_add, ar_sub, ar_mul, ar_div, ar_mod, ar_dec_t, ar_dec_f, ar_beq_t, ar_beq_f, ar_bne_t, ar_bne_f, ar_guard, or_guard, ar_take, ar_take_drop, ar_drop, Int.toNat_natCast, Int.reduceToNat])
      exact ⟨_, _, rfl, rfl⟩
  · rintro v h' ⟨c, x, rfl, rfl⟩
    exact ⟨_, _, weak_gc' [1] (by decide) (by simp) (by rfl) rfl ⟨rfl, trivial⟩, _, rfl, rfl⟩
end Go.Proofs.Ytfnfmbikooeiaaa

namespace Go.Proofs.Ytfnfmbikooeiaaa
open Go.Ax
/-- what has come out: at the first, room alone -/
def outP (p : List Int) (i : Nat) : List Int := if i = 0 then List.replicate 1024 0 else bytesP p i
theorem outP_take (p : List Int) (i : Nat) : (outP p i).take i = bytesP p i := by
  unfold outP
  split
  · subst i; rfl
  · exact bytesP_take p i
theorem outP_len (p : List Int) (i : Nat) : i ≤ (outP p i).length := by
  unfold outP
  split
  · subst i; simp
  · rw [bytesP_len]; omega
theorem outP_succ (p : List Int) (i : Nat) : outP p (i + 1) = bytesP p i ++ [byteAt p i] := by unfold outP; rw [if_neg (by omega), bytesP_succ]
theorem mbytes_spec (p : List Int) (hp : p.length = 128) :
    ACall Try.prog 36 [.arr 128 .u64 p] [] fun v h' => ∃ c, v = .sl 0 0 1 0 1024 c ∧ h' = [some [.arr 1024 .u8 (bytesP p 1024)]] := by
  refine ACall.weak (C := c15 0) rfl (κ := fun v h' => ∃ c, v = .sl 0 0 1 0 1024 c ∧ h' = [some [.arr (outP p 1024).length .u8 (outP p 1024)]]) ?_ ?_
  · have na : ∀ n : Nat, (0 : Int) ≤ n := fun n => Int.natCast_nonneg n
    have hpt : p.take 128 = p := List.take_of_length_le (by omega)
    refine acall_run (good15 0) Try.func36 rfl ⟨by kernel_rfl, by show 1 ≤ _; decide, by kernel_rfl, by kernel_rfl⟩ rfl ?_; have hr : Try.f36.results.toList = [.tmp 2] := rfl
    repeat (first | simp only [c15_P, c15_odd, Nat.reduceBEq, layInts, layOnes, beq_self_eq_true, bne_self_eq_false, addPure, reduceIte, Nat.reduceEqDiff, reduceCtorEq, ne_eq, not_false_eq_true, not_true_eq_false, and_true, true_and, and_self, if_true, if_false, decide_true, decide_false, decide_eq_true_eq, exA, exA, tabs, exB, buildA, layA, rowPut, rowOr, rowSetAt, rowSet, rowTake, rowDrop, rowCell, rowAgg, mkAgg, AV.size, AV.isAggV, AV.parts, AV.one, AV.solid, headSize, psize, indexAddrA, indexA, fieldAddrA, fieldA, sliceA, boundsA, bndA, lenA, arrayAtA, rowOf, makeSliceA, intsOf, copyA, Nat.reduceAdd, Nat.reduceSub, Nat.reduceMul, Nat.reduceLeDiff, Nat.reduceLT, Nat.reduceGT, Int.reduceToNat, Int.reduceLE, Int.reduceLT, Int.reduceEq, Int.reduceNe, Int.reduceAdd, Int.reduceSub, Int.reduceMul, Int.reduceNeg, ge_iff_le, gt_iff_lt, or_true, true_or, or_false, false_or, not_true, not_false_iff, ite_true, ite_false, dite_true, take_app, take_blakeL, blakeL_len, run_range, c15_pure, c15_news, n10, N32_eq, n9, N31_eq, N58_eq, p9, F61_eq, fourL_len, p8, F74_eq, F75_32, F75_24, F75_16, F75_63, p7, F82_eq, p6, F34_eq, p5, F22_eq, p4, p3, p2, p1, F80_eq, F70_eq, F53_eq, F55_eq, F25_eq, F56_eq, F23_eq, n8, N30_nil, N30_ptr, N28_nil, N28_ptr, hashK_eq, hashR_eq, n7, n6, n5, N57_eq, N27_eq, N20_eq, N21_eq, addNews, allOf, hr, hpt] | simp (maxSteps := 1000000) (disch := omega) only [ar_nat, ar_u64, ar_add, ar_sub, ar_mul, ar_div, ar_mod, ar_dec_t, ar_dec_f, ar_beq_t, ar_beq_f, ar_bne_t, ar_bne_f, ar_guard, or_guard, ar_take, ar_take_drop, ar_drop, Int.toNat_natCast, Int.reduceToNat])
    refine loop_countE (good15 0) (fun j c => ⟨envL [(3, .sl 0 0 1 0 (8 * j) c), (8, .arr 128 .u64 p), (9, .v (.int .i64 j))], [some [.arr (outP p (8 * j)).length .u8 (outP p (8 * j))]]⟩) 128 (by kernel_rfl) ⟨1024, ?_⟩ ?_ ?_
    · have e0 : outP p 0 = List.replicate 1024 0 := rfl
      rw [Nat.mul_zero, e0, List.length_replicate]
      (refine weak_gc' [1] (by decide) (by simp) (by rfl) ?_ ?_; (focus (first | with_reducible rfl | (simp only [List.map_cons, List.map_nil, List.cons_append, List.nil_append, List.getElem?_cons_zero, List.getElem?_cons_succ, renB, renL, Option.map_some, Option.map_none, AV.ren, gcMap, List.getD_cons_zero, List.getD_cons_succ, e0] <;> with_reducible rfl))); simp only [List.map_cons, List.map_nil, List.length_cons, List.length_nil, Nat.reduceAdd, AV.ren, renL, gcMap, envAll_cons, envAll_nil, get_put, get_envOf, get_envL_cons, get_envL_nil, Nat.reduceEqDiff, if_true, if_false, reduceIte, Option.some.injEq, and_self, reduceCtorEq, List.getD_cons_zero, List.getD_cons_succ, Int.cast_ofNat_Int, and_true, true_and, e0])
    · intro j c hj
      repeat (first | simp only [c15_P, c15_odd, Nat.reduceBEq, layInts, layOnes, beq_self_eq_true, bne_self_eq_false, addPure, reduceIte, Nat.reduceEqDiff, reduceCtorEq, ne_eq, not_false_eq_true, not_true_eq_false, and_true, true_and, and_self, if_true, if_false, decide_true, decide_false, decide_eq_true_eq, exA, exA, tabs, exB, buildA, layA, rowPut, rowOr, rowSetAt, rowSet, rowTake, rowDrop, rowCell, rowAgg, mkAgg, AV.size, AV.isAggV, AV.parts, AV.one, AV.solid, headSize, psize, indexAddrA, indexA, fieldAddrA, fieldA, sliceA, boundsA, bndA, lenA, arrayAtA, rowOf, makeSliceA, intsOf, copyA, Nat.reduceAdd, Nat.reduceSub, Nat.reduceMul, Nat.reduceLeDiff, Nat.reduceLT, Nat.reduceGT, Int.reduceToNat, Int.reduceLE, Int.reduceLT, Int.reduceEq, Int.reduceNe, Int.reduceAdd, Int.reduceSub, Int.reduceMul, Int.reduceNeg, ge_iff_le, gt_iff_lt, or_true, true_or, or_false, false_or, not_true, not_false_iff, ite_true, ite_false, dite_true, take_app, take_blakeL, blakeL_len, run_range, c15_pure, c15_news, n10, N32_eq, n9, N31_eq, N58_eq, p9, F61_eq, fourL_len, p8, F74_eq, F75_32, F75_24, F75_16, F75_63, p7, F82_eq, p6, F34_eq, p5, F22_eq, p4, p3, p2, p1, F80_eq, F70_eq, F53_eq, F55_eq, F25_eq, F56_eq, F23_eq, n8, N30_nil, N30_ptr, N28_nil, N28_ptr, hashK_eq, hashR_eq, n7, n6, n5, N57_eq, N27_eq, N20_eq, N21_eq, addNews, allOf, hr, na] | simp (maxSteps := 1000000) (disch := omega) only [ar_nat, ar_u64, ar_add, ar_sub, ar_mul, ar_div, ar_mod, ar_dec_t, ar_dec_f, ar_beq_t, ar_beq_f, ar_bne_t, ar_bne_f, ar_guard, or_guard, ar_take, ar_take_drop, ar_drop, Int.toNat_natCast, Int.reduceToNat])
      repeat (with_reducible refine And.intro (by first | omega | assumption) ?_)
      refine loop_countE (good15 0) (fun k c => ⟨envL [(3, .sl 0 0 1 0 (8 * j + k) c), (5, .v (.int .u64 (p.getD j 0))), (8, .arr 128 .u64 p), (9, .v (.int .i64 j)), (12, .v (.int .i64 k))], [some [.arr (outP p (8 * j + k)).length .u8 (outP p (8 * j + k))]]⟩) 8 (by kernel_rfl) ⟨c, ?_⟩ ?_ ?_
      · rw [Nat.add_zero]
        (refine weak_gc' [0] (by decide) (by simp) (by rfl) ?_ ?_; (focus (first | with_reducible rfl | (simp only [List.map_cons, List.map_nil, List.cons_append, List.nil_append, List.getElem?_cons_zero, List.getElem?_cons_succ, renB, renL, Option.map_some, Option.map_none, AV.ren, gcMap, List.getD_cons_zero, List.getD_cons_succ, Nat.add_zero] <;> with_reducible rfl))); simp only [List.map_cons, List.map_nil, List.length_cons, List.length_nil, Nat.reduceAdd, AV.ren, renL, gcMap, envAll_cons, envAll_nil, get_put, get_envOf, get_envL_cons, get_envL_nil, Nat.reduceEqDiff, if_true, if_false, reduceIte, Option.some.injEq, and_self, reduceCtorEq, List.getD_cons_zero, List.getD_cons_succ, Int.cast_ofNat_Int, and_true, true_and, Nat.add_zero])
      · intro k c1 hk
        have h1 := outP_take p (8 * j + k)
        have h2 := outP_len p (8 * j + k)
        repeat (first | simp only [c15_P, c15_odd, Nat.reduceBEq, layInts, layOnes, beq_self_eq_true, bne_self_eq_false, addPure, reduceIte, Nat.reduceEqDiff, reduceCtorEq, ne_eq, not_false_eq_true, not_true_eq_false, and_true, true_and, and_self, if_true, if_false, decide_true, decide_false, decide_eq_true_eq, exA, exA, tabs, exB, buildA, layA, rowPut, rowOr, rowSetAt, rowSet, rowTake, rowDrop, rowCell, rowAgg, mkAgg, AV.size, AV.isAggV, AV.parts, AV.one, AV.solid, headSize, psize, indexAddrA, indexA, fieldAddrA, fieldA, sliceA, boundsA, bndA, lenA, arrayAtA, rowOf, makeSliceA, intsOf, copyA, Nat.reduceAdd, Nat.reduceSub, Nat.reduceMul, Nat.reduceLeDiff, Nat.reduceLT, Nat.reduceGT, Int.reduceToNat, Int.reduceLE, Int.reduceLT, Int.reduceEq, Int.reduceNe, Int.reduceAdd, Int.reduceSub, Int.reduceMul, Int.reduceNeg, ge_iff_le, gt_iff_lt, or_true, true_or, or_false, false_or, not_true, not_false_iff, ite_true, ite_false, dite_true, take_app, take_blakeL, blakeL_len, run_range, c15_pure, c15_news, n10, N32_eq, n9, N31_eq, N58_eq, p9, F61_eq, fourL_len, p8, F74_eq, F75_32, F75_24, F75_16, F75_63, p7, F82_eq, p6, F34_eq, p5, F22_eq, p4, p3, p2, p1, F80_eq, F70_eq, F53_eq, F55_eq, F25_eq, F56_eq, F23_eq, n8, N30_nil, N30_ptr, N28_nil, N28_ptr, hashK_eq, hashR_eq, n7, n6, n5, N57_eq, N27_eq, N20_eq, N21_eq, addNews, allOf, hr, na, h1] | simp (maxSteps := 1000000) (disch := omega) only [ar_nat, ar_u64, ar_add, ar_sub, ar_mul, ar_div, ar_mod, ar_dec_t, ar_dec_f, ar_beq_t, ar_beq_f, ar_bne_t, ar_bne_f, ar_guard, or_guard, ar_take, ar_take_drop, ar_drop, Int.toNat_natCast, Int.reduceToNat])
        repeat (with_reducible refine And.intro (by first | omega | assumption) ?_)
        intro c2 _
        refine ⟨c2, ?_⟩
        have h3 : outP p (8 * j + (k + 1)) = bytesP p (8 * j + k) ++ [byteAt p (8 * j + k)] := outP_succ p (8 * j + k)
        have h4 : byteAt p (8 * j + k) = IntKind.u8.wrap (shr .u64 (p.getD j 0) ((8 * k : Nat) : Int)) := by
          unfold byteAt
          rw [show (8 * j + k) / 8 = j by omega, show (8 * j + k) % 8 = k by omega]
        have h5 : (outP p (8 * j + (k + 1))).length = 8 * j + k + 1 := by rw [h3]; simp [bytesP_len]
        rw [h5, h3, h4, show 8 * j + (k + 1) = 8 * j + k + 1 by omega]
        (refine weak_gc' [2] (by decide) (by simp) (by rfl) ?_ ?_; (focus (first | with_reducible rfl | (simp only [List.map_cons, List.map_nil, List.cons_append, List.nil_append, List.getElem?_cons_zero, List.getElem?_cons_succ, renB, renL, Option.map_some, Option.map_none, AV.ren, gcMap, List.getD_cons_zero, List.getD_cons_succ, h3] <;> with_reducible rfl))); simp only [List.map_cons, List.map_nil, List.length_cons, List.length_nil, Nat.reduceAdd, AV.ren, renL, gcMap, envAll_cons, envAll_nil, get_put, get_envOf, get_envL_cons, get_envL_nil, Nat.reduceEqDiff, if_true, if_false, reduceIte, Option.some.injEq, and_self, reduceCtorEq, List.getD_cons_zero, List.getD_cons_succ, Int.cast_ofNat_Int, and_true, true_and, h3])
      · intro c1
        repeat (first | simp only [c15_P, c15_odd, Nat.reduceBEq, layInts, layOnes, beq_self_eq_true, bne_self_eq_false, addPure, reduceIte, Nat.reduceEqDiff, reduceCtorEq, ne_eq, not_false_eq_true, not_true_eq_false, and_true, true_and, and_self, if_true, if_false, decide_true, decide_false, decide_eq_true_eq, exA, exA, tabs, exB, buildA, layA, rowPut, rowOr, rowSetAt, rowSet, rowTake, rowDrop, rowCell, rowAgg, mkAgg, AV.size, AV.isAggV, AV.parts, AV.one, AV.solid, headSize, psize, indexAddrA, indexA, fieldAddrA, fieldA, sliceA, boundsA, bndA, lenA, arrayAtA, rowOf, makeSliceA, intsOf, copyA, Nat.reduceAdd, Nat.reduceSub, Nat.reduceMul, Nat.reduceLeDiff, Nat.reduceLT, Nat.reduceGT, Int.reduceToNat, Int.reduceLE, Int.reduceLT, Int.reduceEq, Int.reduceNe, Int.reduceAdd, Int.reduceSub, Int.reduceMul, Int.reduceNeg, ge_iff_le, gt_iff_lt, or_true, true_or, or_false, false_or, not_true, not_false_iff, ite_true, ite_false, dite_true, take_app, take_blakeL, blakeL_len, run_range, c15_pure, c15_news, n10, N32_eq, n9, N31_eq, N58_eq, p9, F61_eq, fourL_len, p8, F74_eq, F75_32, F75_24, F75_16, F75_63, p7, F82_eq, p6, F34_eq, p5, F22_eq, p4, p3, p2, p1, F80_eq, F70_eq, F53_eq, F55_eq, F25_eq, F56_eq, F23_eq, n8, N30_nil, N30_ptr, N28_nil, N28_ptr, hashK_eq, hashR_eq, n7, n6, n5, N57_eq, N27_eq, N20_eq, N21_eq, addNews, allOf, hr, na] | simp (maxSteps := 1000000) (disch := omega) only [ar_nat, ar_u64, ar_add, ar_sub, ar_mul, ar_div, ar_mod, ar_dec_t, ar_dec_f, ar_beq_t, ar_beq_f, ar_bne_t, ar_bne_f, ar_guard, or_guard, ar_take, ar_take_drop, ar_drop, Int.toNat_natCast, Int.reduceToNat])
        refine ⟨c1, ?_⟩
        rw [show 8 * (j + 1) = 8 * j + 8 by omega]
        (refine weak_gc' [0] (by decide) (by simp) (by rfl) ?_ ?_; (focus (first | with_reducible rfl | (simp only [List.map_cons, List.map_nil, List.cons_append, List.nil_append, List.getElem?_cons_zero, List.getElem?_cons_succ, renB, renL, Option.map_some, Option.map_none, AV.ren, gcMap, List.getD_cons_zero, List.getD_cons_succ, Nat.add_zero] <;> with_reducible rfl))); simp only [List.map_cons, List.map_nil, List.length_cons, List.length_nil, Nat.reduceAdd, AV.ren, renL, gcMap, envAll_cons, envAll_nil, get_put, get_envOf, get_envL_cons, get_envL_nil, Nat.reduceEqDiff, if_true, if_false, reduceIte, Option.some.injEq, and_self, reduceCtorEq, List.getD_cons_zero, List.getD_cons_succ, Int.cast_ofNat_Int, and_true, true_and, Nat.add_zero])
    · intro c
      repeat (first | simp only [c15_P, c15_odd, Nat.reduceBEq, layInts, layOnes, beq_self_eq_true, bne_self_eq_false, addPure, reduceIte, Nat.reduceEqDiff, reduceCtorEq, ne_eq, not_false_eq_true, not_true_eq_false, and_true, true_and, and_self, if_true, if_false, decide_true, decide_false, decide_eq_true_eq, exA, exA, tabs, exB, buildA, layA, rowPut, rowOr, rowSetAt, rowSet, rowTake, rowDrop, rowCell, rowAgg, mkAgg, AV.size, AV.isAggV, AV.parts, AV.one, AV.solid, headSize, psize, indexAddrA, indexA, fieldAddrA, fieldA, sliceA, boundsA, bndA, lenA, arrayAtA, rowOf, makeSliceA, intsOf, copyA, Nat.reduceAdd, Nat.reduceSub, Nat.reduceMul, Nat.reduceLeDiff, Nat.reduceLT, Nat.reduceGT, Int.reduceToNat, Int.reduceLE, Int.reduceLT, Int.reduceEq, Int.reduceNe, Int.reduceAdd, Int.reduceSub, Int.reduceMul, Int.reduceNeg, ge_iff_le, gt_iff_lt, or_true, true_or, or_false, false_or, not_true, not_false_iff, ite_true, ite_false, dite_true, take_app, take_blakeL, blakeL_len, run_range, c15_pure, c15_news, n10, N32_eq, n9, N31_eq, N58_eq, p9, F61_eq, fourL_len, p8, F74_eq, F75_32, F75_24, F75_16, F75_63, p7, F82_eq, p6, F34_eq, p5, F22_eq, p4, p3, p2, p1, F80_eq, F70_eq, F53_eq, F55_eq, F25_eq, F56_eq, F23_eq, n8, N30_nil, N30_ptr, N28_nil, N28_ptr, hashK_eq, hashR_eq, n7, n6, n5, N57_eq, N27_eq, N20_eq, N21_eq, addNews, allOf, hr, na] | simp (maxSteps := 1000000) (disch := omega) only [ar_nat, ar_u64, ar_add, ar_sub, ar_mul, ar_div, ar_mod, ar_dec_t, ar_dec_f, ar_beq_t, ar_beq_f, ar_bne_t, ar_bne_f, ar_guard, or_guard, ar_take, ar_take_drop, ar_drop, Int.toNat_natCast, Int.reduceToNat])
      exact ⟨_, rfl⟩
  · rintro v h' ⟨c, rfl, rfl⟩
    refine ⟨_, _, Weak.refl _ _, c, rfl, ?_⟩
    have : outP p 1024 = bytesP p 1024 := rfl
    rw [this, bytesP_len]
end Go.Proofs.Ytfnfmbikooeiaaa

namespace Go.Proofs.Ytfnfmbikooeiaaa
open Go.RowKit Go.Shelf
attribute [local go_sem] Oper.semAt_some
set_option maxRecDepth 100000 in
set_option maxHeartbeats 2000000 in
theorem chunk_in (b off cap bs os bn on : Nat) (J : Nat → World → Prop) (l : Nat) (hcap : 1024 ≤ cap)
    (hBs : ∀ i W, J i W → W.cell? ⟨bs, os, none⟩ = some (.slice (some ⟨b, off, none⟩) 1024 cap) ∧ W.cell? ⟨bn, on, none⟩ = some (.int .i64 8))
    (hJd : ∀ i W, J i W → J i W.drew)
    (hY : ∀ i, i < 128 → ∀ W, J i W → YieldAt Fence.wide 0 Try.prog l #[.slice (some ⟨b, off + 8 * i, none⟩) 8 8] W fun e W' => e = .returned (.bool true) ∧ J (i + 1) W')
    (W : World) (h0 : J 0 W) :
    CallsIn Fence.wide 0 Try.prog 72 #[.func (.yield l) #[] #[], .pointer (some ⟨bs, os, none⟩), .pointer (some ⟨bn, on, none⟩)] W fun e W' => (∃ v, e = .returned v) ∧ J 128 W' := by
  refine callsIn_of_wp Try.func72 rfl trivial ?_ rfl
  simp only [Try.ntmps72, List.size_toArray, List.length_cons, List.length_nil, Nat.reduceAdd, Nat.reduceSub, Array.replicate_succ, Array.replicate_zero, List.push_toArray, List.append_toArray, List.nil_append, List.cons_append]
  gi_wp2
  gi_loopw [4] (fun i wr => ∃ k : Nat, k ≤ 128 ∧ i = .int .i64 ((8 * k : Nat) : Int) ∧ J k wr)
    (fun i _ => 1024 - (intOf i).toNat)
  case atStart => exact ⟨0, by omega, rfl, h0⟩
  case round =>
    obtain ⟨k, hk, rfl, hJs⟩ := hrel
    obtain ⟨hc1, hc2⟩ := hBs k wr hJs
    by_cases hlt : k < 128
    · have hJ2 := hJd k wr hJs
      obtain ⟨fn, tmps, assign, body, hy, hR⟩ := hY k hlt wr.drew hJ2
      gi_wp2
      have hmo : Try.prog.follows .mixedOrders = true := by kernel_rfl
      gi_region
      gi_wp2
      refine ⟨rfl, hR.mono ?_⟩
      rintro e W3 ⟨rfl, hJ3⟩
      obtain ⟨hd1, hd2⟩ := hBs (k + 1) W3 hJ3
      gi_wp2
      go_roundw
      case rel => exact ⟨k + 1, by omega, by simp; omega, hJ3⟩
      case measure => simp [intOf]; omega
    · obtain rfl : k = 128 := by omega
      gi_wp2
      go_end0
      exact ⟨⟨_, rfl⟩, hJs⟩
end Go.Proofs.Ytfnfmbikooeiaaa

namespace Go.Proofs.Ytfnfmbikooeiaaa
open Go.Ax
/-- eight bytes at a time -/
def chunks (l : List Int) : List (List AV) := (List.range 128).map fun i => [.roI .u8 ((l.drop (8 * i)).take 8)]
theorem chunks_len (l : List Int) : (chunks l).length = 128 := by simp [chunks]
theorem chunks_at (l : List Int) (i : Nat) (h : i < 128) : (chunks l).getD i [] = [.roI .u8 ((l.drop (8 * i)).take 8)] := by
  simp [chunks, List.getD_eq_getElem?_getD, h]
theorem chunks_ren (l : List Int) (i : Nat) (f : Nat → Nat) : renL f ((chunks l).getD i []) = (chunks l).getD i [] := by
  rcases Nat.lt_or_ge i 128 with h | h
  · rw [chunks_at l i h]; rfl
  · rw [List.getD_eq_getElem?_getD, List.getElem?_eq_none (by rw [chunks_len]; exact h)]; rfl
theorem chunk_seq (l : List Int) (hl : l.length = 1024) : SeqA Try.prog 72 [.rop (.roI .u8 l), .rop (.v (.int .i64 8))] (chunks l) := by
  refine ⟨by kernel_rfl, ?_⟩
  intro X w lb hv
  simp only [relVs, AV.relV, AV.rel, roAt] at hv
  obtain ⟨v1, _, hlb, ⟨a1, vs1, hv1, hs1, hx1, hr1, hc1⟩, v2, _, rfl, ⟨a2, vs2, hv2, hs2, hx2, hr2, hc2⟩, rfl⟩ := hv
  rcases hr1 with ⟨a, cap, rfl, hs, hx, hc, hcap⟩ | ⟨h0, _⟩
  rotate_left
  · omega
  obtain ⟨rfl, _⟩ := hr2
  have hv1 : v1 = .pointer (some a1) := by simpa using hv1
  have hv2 : v2 = .pointer (some a2) := by simpa using hv2
  subst hv1 hv2
  obtain ⟨b, off, s⟩ := a
  obtain ⟨bs, os, s1⟩ := a1
  obtain ⟨bn, on, s2⟩ := a2
  simp only at hs hs1 hs2
  subst hs hs1 hs2
  obtain rfl : lb = #[.pointer (some ⟨bs, os, none⟩), .pointer (some ⟨bn, on, none⟩)] := Array.toList_inj.1 (by rw [hlb])
  refine ⟨fun i => #[.slice (some ⟨b, off + 8 * i, none⟩) 8 8], ?_, ?_⟩
  · intro i hi
    rw [chunks_len] at hi
    rw [chunks_at l i hi]
    have h1 := roAt_sub (ρ := []) (lo := 8 * i) (hi := 8 * i + 8) (m := 8 * i + 8) rfl hx hc (by omega) (by omega) (by omega)
    rw [if_neg (by omega), Nat.add_sub_cancel_left] at h1
    simp only [relVs]
    refine ⟨_, _, rfl, ?_, rfl⟩
    have he : (⟨b, off, none⟩ : Addr).add (8 * i * 1) = ⟨b, off + 8 * i, none⟩ := by rw [addr_add, Nat.mul_one]
    rw [he] at h1
    exact h1
  · intro lp J W hJ hJd hY h0
    rw [chunks_len] at hY ⊢
    rw [hl] at hc1 hcap
    refine chunk_in b off cap bs os bn on J lp hcap ?_ hJd hY W h0
    intro i W' hj
    have k := hJ i W' hj
    have e1 := (k.cells _ _ hc1 hx1).1.cell rfl 0 _ rfl
    have e2 := (k.cells _ _ hc2 hx2).1.cell rfl 0 _ rfl
    rw [addr_add] at e1 e2
    exact ⟨e1, e2⟩
end Go.Proofs.Ytfnfmbikooeiaaa

namespace Go.Proofs.Ytfnfmbikooeiaaa
open Go.Ax
noncomputable def c15r (k l : Nat) : Cfg := (c15 0).inRd k l
theorem c15r_odd (k l : Nat) : (c15r k l).odd = [] := rfl
theorem c15r_P (k l : Nat) : (c15r k l).P = Try.prog := rfl
theorem c15r_pure (k l : Nat) : (c15r k l).pure = p9 := rfl
theorem c15r_news (k l : Nat) : (c15r k l).news = n10 := rfl
theorem good15r (k l : Nat) : (c15r k l).Good := good15 0
theorem chunk59 (b : List Int) : ACall Try.prog 59 [.roI .u8 b, .v (.int .i64 8)] [] fun v h' => v = .fn (.func 72) [] [.ptr 0 0 0, .ptr 1 0 0] ∧ h' = [some [.roI .u8 b], some [.v (.int .i64 8)]] := by
  refine acall_run (good15 0) Try.func59 rfl ⟨by kernel_rfl, by show 2 ≤ _; decide, by kernel_rfl, by kernel_rfl⟩ rfl ?_; have hr : Try.f59.results.toList = [.tmp 4] := rfl
  repeat (first | simp only [c15_P, c15_odd, Nat.reduceBEq, layInts, layOnes, beq_self_eq_true, bne_self_eq_false, addPure, reduceIte, Nat.reduceEqDiff, reduceCtorEq, ne_eq, not_false_eq_true, not_true_eq_false, and_true, true_and, and_self, if_true, if_false, decide_true, decide_false, decide_eq_true_eq, exA, exA, tabs, exB, buildA, layA, rowPut, rowOr, rowSetAt, rowSet, rowTake, rowDrop, rowCell, rowAgg, mkAgg, AV.size, AV.isAggV, AV.parts, AV.one, AV.solid, headSize, psize, indexAddrA, indexA, fieldAddrA, fieldA, sliceA, boundsA, bndA, lenA, arrayAtA, rowOf, makeSliceA, intsOf, copyA, Nat.reduceAdd, Nat.reduceSub, Nat.reduceMul, Nat.reduceLeDiff, Nat.reduceLT, Nat.reduceGT, Int.reduceToNat, Int.reduceLE, Int.reduceLT, Int.reduceEq, Int.reduceNe, Int.reduceAdd, Int.reduceSub, Int.reduceMul, Int.reduceNeg, ge_iff_le, gt_iff_lt, or_true, true_or, or_false, false_or, not_true, not_false_iff, ite_true, ite_false, dite_true, take_app, take_blakeL, blakeL_len, run_range, c15_pure, c15_news, n10, N32_eq, n9, N31_eq, N58_eq, p9, F61_eq, fourL_len, p8, F74_eq, F75_32, F75_24, F75_16, F75_63, p7, F82_eq, p6, F34_eq, p5, F22_eq, p4, p3, p2, p1, F80_eq, F70_eq, F53_eq, F55_eq, F25_eq, F56_eq, F23_eq, n8, N30_nil, N30_ptr, N28_nil, N28_ptr, hashK_eq, hashR_eq, n7, n6, n5, N57_eq, N27_eq, N20_eq, N21_eq, addNews, allOf, hr] | simp (maxSteps := 1000000) (disch := omega) only [ar_nat, ar_u64, ar_add, ar_sub, ar_mul, ar_div, ar_mod, ar_dec_t, ar_dec_f, ar_beq_t, ar_beq_f, ar_bne_t, ar_bne_f, ar_guard, or_guard, ar_take, ar_take_drop, ar_drop, Int.toNat_natCast, Int.reduceToNat])
/-- so many bytes of a word -/
def chunkK (b p : List Int) (j : Nat) : Nat → List Int
  | 0 => p
  | k + 1 => wordB (chunkK b p j k) j (b.getD (8 * j + k) 0) k
theorem chunkK_len (b p : List Int) (j : Nat) : ∀ k, (chunkK b p j k).length = p.length
  | 0 => rfl
  | k + 1 => by simp only [chunkK, wordB_len]; exact chunkK_len b p j k
theorem chunkK_rpage (b : List Int) (j : Nat) : ∀ k, k ≤ 8 → chunkK b (rpageK b (8 * j)) j k = rpageK b (8 * j + k)
  | 0, _ => rfl
  | k + 1, h => by
    have e1 : (8 * j + k) / 8 = j := by omega
    have e2 : (8 * j + k) % 8 = k := by omega
    have e3 : 8 * j + (k + 1) = (8 * j + k) + 1 := by omega
    rw [e3]
    simp only [chunkK, rpageK, e1, e2, chunkK_rpage b j k (by omega)]
theorem mpage_bad (b : List Int) (hb : b.length ≠ 1024) :
    ACall Try.prog 37 [.roI .u8 b] [] fun v _ => v = .tup [.arr 128 .u64 (List.replicate 128 0), .v (.int .i64 1)] := by
  have h1 : ((b.length : Int) != 1024) = true := by simp; omega
  refine acall_run (good15 0) Try.func37 rfl ⟨by kernel_rfl, by show 1 ≤ _; decide, by kernel_rfl, by kernel_rfl⟩ rfl ?_; have hr : Try.f37.results.toList = [.cell 2 53, .tmp 3] := rfl
  repeat (first | simp only [c15_P, c15_odd, Nat.reduceBEq, layInts, layOnes, beq_self_eq_true, bne_self_eq_false, addPure, reduceIte, Nat.reduceEqDiff, reduceCtorEq, ne_eq, not_false_eq_true, not_true_eq_false, and_true, true_and, and_self, if_true, if_false, decide_true, decide_false, decide_eq_true_eq, exA, exA, tabs, exB, buildA, layA, rowPut, rowOr, rowSetAt, rowSet, rowTake, rowDrop, rowCell, rowAgg, mkAgg, AV.size, AV.isAggV, AV.parts, AV.one, AV.solid, headSize, psize, indexAddrA, indexA, fieldAddrA, fieldA, sliceA, boundsA, bndA, lenA, arrayAtA, rowOf, makeSliceA, intsOf, copyA, Nat.reduceAdd, Nat.reduceSub, Nat.reduceMul, Nat.reduceLeDiff, Nat.reduceLT, Nat.reduceGT, Int.reduceToNat, Int.reduceLE, Int.reduceLT, Int.reduceEq, Int.reduceNe, Int.reduceAdd, Int.reduceSub, Int.reduceMul, Int.reduceNeg, ge_iff_le, gt_iff_lt, or_true, true_or, or_false, false_or, not_true, not_false_iff, ite_true, ite_false, dite_true, take_app, take_blakeL, blakeL_len, run_range, c15_pure, c15_news, n10, N32_eq, n9, N31_eq, N58_eq, p9, F61_eq, fourL_len, p8, F74_eq, F75_32, F75_24, F75_16, F75_63, p7, F82_eq, p6, F34_eq, p5, F22_eq, p4, p3, p2, p1, F80_eq, F70_eq, F53_eq, F55_eq, F25_eq, F56_eq, F23_eq, n8, N30_nil, N30_ptr, N28_nil, N28_ptr, hashK_eq, hashR_eq, n7, n6, n5, N57_eq, N27_eq, N20_eq, N21_eq, addNews, allOf, hr, h1] | simp (maxSteps := 1000000) (disch := omega) only [ar_nat, ar_u64, ar_add, ar_sub, ar_mul, ar_div, ar_mod, ar_dec_t, ar_dec_f, ar_beq_t, ar_beq_f, ar_bne_t, ar_bne_f, ar_guard, or_guard, ar_take, ar_take_drop, ar_drop, Int.toNat_natCast, Int.reduceToNat])
  rfl
theorem mpage_spec (b : List Int) (hb : b.length = 1024) :
    ACall Try.prog 37 [.roI .u8 b] [] fun v _ => v = .tup [.arr 128 .u64 (rpageK b 1024), .v (.int .i64 0)] := by
  have na : ∀ n : Nat, (0 : Int) ≤ n := fun n => Int.natCast_nonneg n
  refine acall_run (good15 0) Try.func37 rfl ⟨by kernel_rfl, by show 1 ≤ _; decide, by kernel_rfl, by kernel_rfl⟩ rfl ?_; have hr : Try.f37.results.toList = [.cell 2 53, .tmp 3] := rfl
  repeat (first | simp only [c15_P, c15_odd, Nat.reduceBEq, layInts, layOnes, beq_self_eq_true, bne_self_eq_false, addPure, reduceIte, Nat.reduceEqDiff, reduceCtorEq, ne_eq, not_false_eq_true, not_true_eq_false, and_true, true_and, and_self, if_true, if_false, decide_true, decide_false, decide_eq_true_eq, exA, exA, tabs, exB, buildA, layA, rowPut, rowOr, rowSetAt, rowSet, rowTake, rowDrop, rowCell, rowAgg, mkAgg, AV.size, AV.isAggV, AV.parts, AV.one, AV.solid, headSize, psize, indexAddrA, indexA, fieldAddrA, fieldA, sliceA, boundsA, bndA, lenA, arrayAtA, rowOf, makeSliceA, intsOf, copyA, Nat.reduceAdd, Nat.reduceSub, Nat.reduceMul, Nat.reduceLeDiff, Nat.reduceLT, Nat.reduceGT, Int.reduceToNat, Int.reduceLE, Int.reduceLT, Int.reduceEq, Int.reduceNe, Int.reduceAdd, Int.reduceSub, Int.reduceMul, Int.reduceNeg, ge_iff_le, gt_iff_lt, or_true, true_or, or_false, false_or, not_true, not_false_iff, ite_true, ite_false, dite_true, take_app, take_blakeL, blakeL_len, run_range, c15_pure, c15_news, n10, N32_eq, n9, N31_eq, N58_eq, p9, F61_eq, fourL_len, p8, F74_eq, F75_32, F75_24, F75_16, F75_63, p7, F82_eq, p6, F34_eq, p5, F22_eq, p4, p3, p2, p1, F80_eq, F70_eq, F53_eq, F55_eq, F25_eq, F56_eq, F23_eq, n8, N30_nil, N30_ptr, N28_nil, N28_ptr, hashK_eq, hashR_eq, n7, n6, n5, N57_eq, N27_eq, N20_eq, N21_eq, addNews, allOf, hr, hb] | simp (maxSteps := 1000000) (disch := omega) only [ar_nat, ar_u64, ar_add, ar_sub, ar_mul, ar_div, ar_mod, ar_dec_t, ar_dec_f, ar_beq_t, ar_beq_f, ar_bne_t, ar_bne_f, ar_guard, or_guard, ar_take, ar_take_drop, ar_drop, Int.toNat_natCast, Int.reduceToNat])
  refine callC_fr [] (chunk59 b) rfl rfl (by decide) ?_
  rintro _ _ ⟨rfl, rfl⟩
  repeat (first | simp only [c15_P, c15_odd, Nat.reduceBEq, layInts, layOnes, beq_self_eq_true, bne_self_eq_false, addPure, reduceIte, Nat.reduceEqDiff, reduceCtorEq, ne_eq, not_false_eq_true, not_true_eq_false, and_true, true_and, and_self, if_true, if_false, decide_true, decide_false, decide_eq_true_eq, exA, exA, tabs, exB, buildA, layA, rowPut, rowOr, rowSetAt, rowSet, rowTake, rowDrop, rowCell, rowAgg, mkAgg, AV.size, AV.isAggV, AV.parts, AV.one, AV.solid, headSize, psize, indexAddrA, indexA, fieldAddrA, fieldA, sliceA, boundsA, bndA, lenA, arrayAtA, rowOf, makeSliceA, intsOf, copyA, Nat.reduceAdd, Nat.reduceSub, Nat.reduceMul, Nat.reduceLeDiff, Nat.reduceLT, Nat.reduceGT, Int.reduceToNat, Int.reduceLE, Int.reduceLT, Int.reduceEq, Int.reduceNe, Int.reduceAdd, Int.reduceSub, Int.reduceMul, Int.reduceNeg, ge_iff_le, gt_iff_lt, or_true, true_or, or_false, false_or, not_true, not_false_iff, ite_true, ite_false, dite_true, take_app, take_blakeL, blakeL_len, run_range, c15_pure, c15_news, n10, N32_eq, n9, N31_eq, N58_eq, p9, F61_eq, fourL_len, p8, F74_eq, F75_32, F75_24, F75_16, F75_63, p7, F82_eq, p6, F34_eq, p5, F22_eq, p4, p3, p2, p1, F80_eq, F70_eq, F53_eq, F55_eq, F25_eq, F56_eq, F23_eq, n8, N30_nil, N30_ptr, N28_nil, N28_ptr, hashK_eq, hashR_eq, n7, n6, n5, N57_eq, N27_eq, N20_eq, N21_eq, addNews, allOf, hr, hb, overwrite, renB, renL, AV.ren, frameMap] | simp (maxSteps := 1000000) (disch := omega) only [ar_nat, ar_u64, ar_add, ar_sub, ar_mul, ar_div, ar_mod, ar_dec_t, ar_dec_f, ar_beq_t, ar_beq_f, ar_bne_t, ar_bne_f, ar_guard, or_guard, ar_take, ar_take_drop, ar_drop, Int.toNat_natCast, Int.reduceToNat])
  refine rangeR_of (good15 0) [3, 4] (fun i => [some [.arr 128 .u64 (List.replicate 128 0)], some [.arr 128 .u64 (rpageK b (8 * i))], some [.v (.int .i64 i)], none, none])
    (chunk_seq b hb) rfl ?_ ?_ ?_ (fun f => rfl) (chunks_ren b) ?_ rfl ⟨by kernel_rfl, by kernel_rfl⟩ ?_ ?_
  · intro x hx
    simp only [List.mem_cons, List.not_mem_nil, or_false] at hx
    rcases hx with rfl | rfl <;> exact ⟨_, rfl⟩
  · exact ⟨Frz.ptr (by simp) rfl (fun f => rfl), Frz.ptr (by simp) rfl (fun f => rfl), trivial⟩
  · rfl
  · intro i hi
    rw [chunks_len] at hi
    rw [chunks_at b i hi]; rfl
  · intro i hi l
    rw [chunks_len] at hi
    rw [chunks_at b i hi]
    simp only [putAll_one]
    show run (c15r 5 l) _ [] _ _
    have hcl : ((b.drop (8 * i)).take 8).length = 8 := by simp; omega
    repeat (first | simp only [c15r_P, c15r_odd, Nat.reduceBEq, layInts, layOnes, beq_self_eq_true, bne_self_eq_false, addPure, reduceIte, Nat.reduceEqDiff, reduceCtorEq, ne_eq, not_false_eq_true, not_true_eq_false, and_true, true_and, and_self, if_true, if_false, decide_true, decide_false, decide_eq_true_eq, exA, exA, tabs, exB, buildA, layA, rowPut, rowOr, rowSetAt, rowSet, rowTake, rowDrop, rowCell, rowAgg, mkAgg, AV.size, AV.isAggV, AV.parts, AV.one, AV.solid, headSize, psize, indexAddrA, indexA, fieldAddrA, fieldA, sliceA, boundsA, bndA, lenA, arrayAtA, rowOf, makeSliceA, intsOf, copyA, Nat.reduceAdd, Nat.reduceSub, Nat.reduceMul, Nat.reduceLeDiff, Nat.reduceLT, Nat.reduceGT, Int.reduceToNat, Int.reduceLE, Int.reduceLT, Int.reduceEq, Int.reduceNe, Int.reduceAdd, Int.reduceSub, Int.reduceMul, Int.reduceNeg, ge_iff_le, gt_iff_lt, or_true, true_or, or_false, false_or, not_true, not_false_iff, ite_true, ite_false, dite_true, take_app, take_blakeL, blakeL_len, run_range, c15r_pure, c15r_news, n10, N32_eq, n9, N31_eq, N58_eq, p9, F61_eq, fourL_len, p8, F74_eq, F75_32, F75_24, F75_16, F75_63, p7, F82_eq, p6, F34_eq, p5, F22_eq, p4, p3, p2, p1, F80_eq, F70_eq, F53_eq, F55_eq, F25_eq, F56_eq, F23_eq, n8, N30_nil, N30_ptr, N28_nil, N28_ptr, hashK_eq, hashR_eq, n7, n6, n5, N57_eq, N27_eq, N20_eq, N21_eq, addNews, allOf, hr, hcl, putAll_one] | simp (maxSteps := 1000000) (disch := omega) only [ar_nat, ar_u64, ar_add, ar_sub, ar_mul, ar_div, ar_mod, ar_dec_t, ar_dec_f, ar_beq_t, ar_beq_f, ar_bne_t, ar_bne_f, ar_guard, or_guard, ar_take, ar_take_drop, ar_drop, Int.toNat_natCast, Int.reduceToNat])
    have hgc : ∀ k, k < 8 → ((b.drop (8 * i)).take 8).getD k 0 = b.getD (8 * i + k) 0 := by
      intro k hk
      simp only [List.getD_eq_getElem?_getD]
      rw [List.getElem?_take_of_lt hk, List.getElem?_drop]
    have hpl := rpageK_len b (8 * i)
    refine loop_count (good15r 5 l) (fun k => ⟨envL [(4, .ptr 1 0 0), (5, .ptr 2 0 0), (16, .roI .u8 ((b.drop (8 * i)).take 8)), (17, .v (.int .i64 8)), (18, .v (.int .i64 k))],
      [some [.arr 128 .u64 (List.replicate 128 0)], some [.arr 128 .u64 (chunkK b (rpageK b (8 * i)) i k)], some [.v (.int .i64 i)], none, none]⟩) 8 (by kernel_rfl) ?_ ?_ ?_
    · (refine weak_of ?_ ?_; (focus (first | with_reducible rfl | (simp only [chunkK] <;> with_reducible rfl))); simp only [envAll_cons, envAll_nil, get_put, get_envOf, get_envL_cons, get_envL_nil, Nat.reduceEqDiff, if_true, if_false, reduceIte, Option.some.injEq, and_self, reduceCtorEq, List.getD_cons_zero, List.getD_cons_succ, Int.cast_ofNat_Int, and_true, true_and, chunkK])
    · intro k hk
      repeat (first | simp only [c15r_P, c15r_odd, Nat.reduceBEq, layInts, layOnes, beq_self_eq_true, bne_self_eq_false, addPure, reduceIte, Nat.reduceEqDiff, reduceCtorEq, ne_eq, not_false_eq_true, not_true_eq_false, and_true, true_and, and_self, if_true, if_false, decide_true, decide_false, decide_eq_true_eq, exA, exA, tabs, exB, buildA, layA, rowPut, rowOr, rowSetAt, rowSet, rowTake, rowDrop, rowCell, rowAgg, mkAgg, AV.size, AV.isAggV, AV.parts, AV.one, AV.solid, headSize, psize, indexAddrA, indexA, fieldAddrA, fieldA, sliceA, boundsA, bndA, lenA, arrayAtA, rowOf, makeSliceA, intsOf, copyA, Nat.reduceAdd, Nat.reduceSub, Nat.reduceMul, Nat.reduceLeDiff, Nat.reduceLT, Nat.reduceGT, Int.reduceToNat, Int.reduceLE, Int.reduceLT, Int.reduceEq, Int.reduceNe, Int.reduceAdd, Int.reduceSub, Int.reduceMul, Int.reduceNeg, ge_iff_le, gt_iff_lt, or_true, true_or, or_false, false_or, not_true, not_false_iff, ite_true, ite_false, dite_true, take_app, take_blakeL, blakeL_len, run_range, c15r_pure, c15r_news, n10, N32_eq, n9, N31_eq, N58_eq, p9, F61_eq, fourL_len, p8, F74_eq, F75_32, F75_24, F75_16, F75_63, p7, F82_eq, p6, F34_eq, p5, F22_eq, p4, p3, p2, p1, F80_eq, F70_eq, F53_eq, F55_eq, F25_eq, F56_eq, F23_eq, n8, N30_nil, N30_ptr, N28_nil, N28_ptr, hashK_eq, hashR_eq, n7, n6, n5, N57_eq, N27_eq, N20_eq, N21_eq, addNews, allOf, hr, hcl, na, hgc k hk] | simp (maxSteps := 1000000) (disch := omega) only [ar_nat, ar_u64, ar_add, ar_sub, ar_mul, ar_div, ar_mod, ar_dec_t, ar_dec_f, ar_beq_t, ar_beq_f, ar_bne_t, ar_bne_f, ar_guard, or_guard, ar_take, ar_take_drop, ar_drop, Int.toNat_natCast, Int.reduceToNat])
      repeat (with_reducible refine And.intro (by first | omega | assumption) ?_)
      (refine weak_of ?_ ?_; (focus (first | with_reducible rfl | (simp only [chunkK, wordB, hgc k hk] <;> with_reducible rfl))); simp only [envAll_cons, envAll_nil, get_put, get_envOf, get_envL_cons, get_envL_nil, Nat.reduceEqDiff, if_true, if_false, reduceIte, Option.some.injEq, and_self, reduceCtorEq, List.getD_cons_zero, List.getD_cons_succ, Int.cast_ofNat_Int, and_true, true_and, chunkK, wordB, hgc k hk])
    · have he : chunkK b (rpageK b (8 * i)) i 8 = rpageK b (8 * (i + 1)) := chunkK_rpage b i 8 (by omega)
      repeat (first | simp only [c15r_P, c15r_odd, Nat.reduceBEq, layInts, layOnes, beq_self_eq_true, bne_self_eq_false, addPure, reduceIte, Nat.reduceEqDiff, reduceCtorEq, ne_eq, not_false_eq_true, not_true_eq_false, and_true, true_and, and_self, if_true, if_false, decide_true, decide_false, decide_eq_true_eq, exA, exA, tabs, exB, buildA, layA, rowPut, rowOr, rowSetAt, rowSet, rowTake, rowDrop, rowCell, rowAgg, mkAgg, AV.size, AV.isAggV, AV.parts, AV.one, AV.solid, headSize, psize, indexAddrA, indexA, fieldAddrA, fieldA, sliceA, boundsA, bndA, lenA, arrayAtA, rowOf, makeSliceA, intsOf, copyA, Nat.reduceAdd, Nat.reduceSub, Nat.reduceMul, Nat.reduceLeDiff, Nat.reduceLT, Nat.reduceGT, Int.reduceToNat, Int.reduceLE, Int.reduceLT, Int.reduceEq, Int.reduceNe, Int.reduceAdd, Int.reduceSub, Int.reduceMul, Int.reduceNeg, ge_iff_le, gt_iff_lt, or_true, true_or, or_false, false_or, not_true, not_false_iff, ite_true, ite_false, dite_true, take_app, take_blakeL, blakeL_len, run_range, c15r_pure, c15r_news, n10, N32_eq, n9, N31_eq, N58_eq, p9, F61_eq, fourL_len, p8, F74_eq, F75_32, F75_24, F75_16, F75_63, p7, F82_eq, p6, F34_eq, p5, F22_eq, p4, p3, p2, p1, F80_eq, F70_eq, F53_eq, F55_eq, F25_eq, F56_eq, F23_eq, n8, N30_nil, N30_ptr, N28_nil, N28_ptr, hashK_eq, hashR_eq, n7, n6, n5, N57_eq, N27_eq, N20_eq, N21_eq, addNews, allOf, hr, hcl, na, he] | simp (maxSteps := 1000000) (disch := omega) only [ar_nat, ar_u64, ar_add, ar_sub, ar_mul, ar_div, ar_mod, ar_dec_t, ar_dec_f, ar_beq_t, ar_beq_f, ar_bne_t, ar_bne_f, ar_guard, or_guard, ar_take, ar_take_drop, ar_drop, Int.toNat_natCast, Int.reduceToNat])
      exact weak_of rfl trivial
  · rw [chunks_len]
    repeat (first | simp only [c15_P, c15_odd, Nat.reduceBEq, layInts, layOnes, beq_self_eq_true, bne_self_eq_false, addPure, reduceIte, Nat.reduceEqDiff, reduceCtorEq, ne_eq, not_false_eq_true, not_true_eq_false, and_true, true_and, and_self, if_true, if_false, decide_true, decide_false, decide_eq_true_eq, exA, exA, tabs, exB, buildA, layA, rowPut, rowOr, rowSetAt, rowSet, rowTake, rowDrop, rowCell, rowAgg, mkAgg, AV.size, AV.isAggV, AV.parts, AV.one, AV.solid, headSize, psize, indexAddrA, indexA, fieldAddrA, fieldA, sliceA, boundsA, bndA, lenA, arrayAtA, rowOf, makeSliceA, intsOf, copyA, Nat.reduceAdd, Nat.reduceSub, Nat.reduceMul, Nat.reduceLeDiff, Nat.reduceLT, Nat.reduceGT, Int.reduceToNat, Int.reduceLE, Int.reduceLT, Int.reduceEq, Int.reduceNe, Int.reduceAdd, Int.reduceSub, Int.reduceMul, Int.reduceNeg, ge_iff_le, gt_iff_lt, or_true, true_or, or_false, false_or, not_true, not_false_iff, ite_true, ite_false, dite_true, take_app, take_blakeL, blakeL_len, run_range, c15_pure, c15_news, n10, N32_eq, n9, N31_eq, N58_eq, p9, F61_eq, fourL_len, p8, F74_eq, F75_32, F75_24, F75_16, F75_63, p7, F82_eq, p6, F34_eq, p5, F22_eq, p4, p3, p2, p1, F80_eq, F70_eq, F53_eq, F55_eq, F25_eq, F56_eq, F23_eq, n8, N30_nil, N30_ptr, N28_nil, N28_ptr, hashK_eq, hashR_eq, n7, n6, n5, N57_eq, N27_eq, N20_eq, N21_eq, addNews, allOf, hr, hb] | simp (maxSteps := 1000000) (disch := omega) only [ar_nat, ar_u64, ar_add, ar_sub, ar_mul, ar_div, ar_mod, ar_dec_t, ar_dec_f, ar_beq_t, ar_beq_f, ar_bne_t, ar_bne_f, ar_guard, or_guard, ar_take, ar_take_drop, ar_drop, Int.toNat_natCast, Int.reduceToNat])
    rw [take128 (rpageK_len b _), take128 (rpageK_len b _)]
end Go.Proofs.Ytfnfmbikooeiaaa

namespace Go.Proofs.Ytfnfmbikooeiaaa
open Go.Ax
/-- so many words of a page against another's -/
def xorK (x y : List Int) : Nat → List Int
  | 0 => x
  | i + 1 => (xorK x y i).set i (xorU ((xorK x y i).getD i 0) (y.getD i 0))
theorem xorK_len (x y : List Int) : ∀ i, (xorK x y i).length = x.length
  | 0 => rfl
  | i + 1 => by simp only [xorK, List.length_set]; exact xorK_len x y i
def rowQ (i j : Nat) : Nat := 16 * i + j
def colQ (i j : Nat) : Nat := 16 * (j / 2) + 2 * i + j % 2
def stirK (Q : Nat → Nat → Nat) (z : List Int) : Nat → List Int
  | 0 => z
  | i + 1 => allK (stirK Q z i) (Q i) 8
theorem stirK_len (Q : Nat → Nat → Nat) (z : List Int) : ∀ i, (stirK Q z i).length = z.length
  | 0 => rfl
  | i + 1 => by simp only [stirK, allK_len]; exact stirK_len Q z i
/-- two pages mixed, as the program does it -/
def pagesR (r : List Int) : List Int := xorK (stirK colQ (stirK rowQ r 8) 8) r 128
def pagesL (x y : List Int) : List Int := pagesR (xorK x y 128)
theorem pagesL_len (x y : List Int) : (pagesL x y).length = x.length := by simp only [pagesL, pagesR, xorK_len, stirK_len]
/-- so many of sixteen places are laid anew -/
def atK (f g : Nat → AV) (k : Nat) : List AV := (List.range 16).map fun j => if j < k then f j else g j
def oldR : Nat → Nat → AV
  | 0, _ => .v (.pointer none)
  | i + 1, j => .ptr 3 0 (rowQ i j)
def oldC : Nat → Nat → AV
  | 0, j => .ptr 3 0 (rowQ 7 j)
  | i + 1, j => .ptr 3 0 (colQ i j)
theorem oldR_one : ∀ i j, (oldR i j).one = true
  | 0, _ => rfl
  | i + 1, j => rfl
theorem oldC_one : ∀ i j, (oldC i j).one = true
  | 0, _ => rfl
  | i + 1, j => rfl
theorem rowSet_oldR0 (i j : Nat) (ps : List AV) (a b c : Nat) : rowSet (oldR i j :: ps) 0 (.ptr a b c) = some (.ptr a b c :: ps) := by cases i <;> rfl
theorem rowSet_oldRs (i j m : Nat) (ps : List AV) (x : AV) : rowSet (oldR i j :: ps) (m + 1) x = (rowSet ps m x).map (oldR i j :: ·) := by cases i <;> rfl
theorem rowSet_oldC0 (i j : Nat) (ps : List AV) (a b c : Nat) : rowSet (oldC i j :: ps) 0 (.ptr a b c) = some (.ptr a b c :: ps) := by cases i <;> rfl
theorem rowSet_oldCs (i j m : Nat) (ps : List AV) (x : AV) : rowSet (oldC i j :: ps) (m + 1) x = (rowSet ps m x).map (oldC i j :: ·) := by cases i <;> rfl
theorem atK_0 (f g : Nat → AV) : atK f g 0 = [g 0, g 1, g 2, g 3, g 4, g 5, g 6, g 7, g 8, g 9, g 10, g 11, g 12, g 13, g 14, g 15] := rfl
theorem atK_1 (f g : Nat → AV) : atK f g 1 = [f 0, g 1, g 2, g 3, g 4, g 5, g 6, g 7, g 8, g 9, g 10, g 11, g 12, g 13, g 14, g 15] := rfl
theorem atK_2 (f g : Nat → AV) : atK f g 2 = [f 0, f 1, g 2, g 3, g 4, g 5, g 6, g 7, g 8, g 9, g 10, g 11, g 12, g 13, g 14, g 15] := rfl
theorem atK_3 (f g : Nat → AV) : atK f g 3 = [f 0, f 1, f 2, g 3, g 4, g 5, g 6, g 7, g 8, g 9, g 10, g 11, g 12, g 13, g 14, g 15] := rfl
theorem atK_4 (f g : Nat → AV) : atK f g 4 = [f 0, f 1, f 2, f 3, g 4, g 5, g 6, g 7, g 8, g 9, g 10, g 11, g 12, g 13, g 14, g 15] := rfl
theorem atK_5 (f g : Nat → AV) : atK f g 5 = [f 0, f 1, f 2, f 3, f 4, g 5, g 6, g 7, g 8, g 9, g 10, g 11, g 12, g 13, g 14, g 15] := rfl
theorem atK_6 (f g : Nat → AV) : atK f g 6 = [f 0, f 1, f 2, f 3, f 4, f 5, g 6, g 7, g 8, g 9, g 10, g 11, g 12, g 13, g 14, g 15] := rfl
theorem atK_7 (f g : Nat → AV) : atK f g 7 = [f 0, f 1, f 2, f 3, f 4, f 5, f 6, g 7, g 8, g 9, g 10, g 11, g 12, g 13, g 14, g 15] := rfl
theorem atK_8 (f g : Nat → AV) : atK f g 8 = [f 0, f 1, f 2, f 3, f 4, f 5, f 6, f 7, g 8, g 9, g 10, g 11, g 12, g 13, g 14, g 15] := rfl
theorem atK_9 (f g : Nat → AV) : atK f g 9 = [f 0, f 1, f 2, f 3, f 4, f 5, f 6, f 7, f 8, g 9, g 10, g 11, g 12, g 13, g 14, g 15] := rfl
theorem atK_10 (f g : Nat → AV) : atK f g 10 = [f 0, f 1, f 2, f 3, f 4, f 5, f 6, f 7, f 8, f 9, g 10, g 11, g 12, g 13, g 14, g 15] := rfl
theorem atK_11 (f g : Nat → AV) : atK f g 11 = [f 0, f 1, f 2, f 3, f 4, f 5, f 6, f 7, f 8, f 9, f 10, g 11, g 12, g 13, g 14, g 15] := rfl
theorem atK_12 (f g : Nat → AV) : atK f g 12 = [f 0, f 1, f 2, f 3, f 4, f 5, f 6, f 7, f 8, f 9, f 10, f 11, g 12, g 13, g 14, g 15] := rfl
theorem atK_13 (f g : Nat → AV) : atK f g 13 = [f 0, f 1, f 2, f 3, f 4, f 5, f 6, f 7, f 8, f 9, f 10, f 11, f 12, g 13, g 14, g 15] := rfl
theorem atK_14 (f g : Nat → AV) : atK f g 14 = [f 0, f 1, f 2, f 3, f 4, f 5, f 6, f 7, f 8, f 9, f 10, f 11, f 12, f 13, g 14, g 15] := rfl
theorem atK_15 (f g : Nat → AV) : atK f g 15 = [f 0, f 1, f 2, f 3, f 4, f 5, f 6, f 7, f 8, f 9, f 10, f 11, f 12, f 13, f 14, g 15] := rfl
theorem atK_16 (f g : Nat → AV) : atK f g 16 = [f 0, f 1, f 2, f 3, f 4, f 5, f 6, f 7, f 8, f 9, f 10, f 11, f 12, f 13, f 14, f 15] := rfl
theorem rowsK_list (i : Nat) : [oldR i 0, oldR i 1, oldR i 2, oldR i 3, oldR i 4, oldR i 5, oldR i 6, oldR i 7, oldR i 8, oldR i 9, oldR i 10, oldR i 11, oldR i 12, oldR i 13, oldR i 14, oldR i 15] = atK (oldR i) (oldR i) 0 := rfl
theorem mpages_spec (x y : List Int) (hx : x.length = 128) (hy : y.length = 128) :
    ACall Try.prog 40 [.arr 128 .u64 x, .arr 128 .u64 y] [] fun v _ => v = .arr 128 .u64 (pagesL x y) := by
  have na : ∀ n : Nat, (0 : Int) ≤ n := fun n => Int.natCast_nonneg n
  have n0 : ((0 : Nat) : Int) = 0 := rfl
  have n1 : ((1 : Nat) : Int) = 1 := rfl
  have hw : IntKind.i64.wrap 0 = 0 ∧ IntKind.i64.wrap 1 = 1 ∧ IntKind.i64.wrap 2 = 2 ∧ IntKind.i64.wrap 3 = 3 ∧ IntKind.i64.wrap 4 = 4 ∧ IntKind.i64.wrap 5 = 5 ∧ IntKind.i64.wrap 6 = 6 ∧ IntKind.i64.wrap 7 = 7 ∧ IntKind.i64.wrap 8 = 8 ∧ IntKind.i64.wrap 9 = 9 ∧ IntKind.i64.wrap 10 = 10 ∧ IntKind.i64.wrap 11 = 11 ∧ IntKind.i64.wrap 12 = 12 ∧ IntKind.i64.wrap 13 = 13 ∧ IntKind.i64.wrap 14 = 14 ∧ IntKind.i64.wrap 15 = 15 ∧ IntKind.i64.wrap 16 = 16 := by decide
  obtain ⟨w0, w1, w2, w3, w4, w5, w6, w7, w8, w9, w10, w11, w12, w13, w14, w15, w16⟩ := hw
  refine acall_run (good15 0) Try.func40 rfl ⟨by kernel_rfl, by show 2 ≤ _; decide, by kernel_rfl, by kernel_rfl⟩ rfl ?_; have hr : Try.f40.results.toList = [.cell 4 53] := rfl
  repeat (first | simp only [c15_P, c15_odd, Nat.reduceBEq, layInts, layOnes, beq_self_eq_true, bne_self_eq_false, addPure, reduceIte, Nat.reduceEqDiff, reduceCtorEq, ne_eq, not_false_eq_true, not_true_eq_false, and_true, true_and, and_self, if_true, if_false, decide_true, decide_false, decide_eq_true_eq, exA, exA, tabs, exB, buildA, layA, rowPut, rowOr, rowSetAt, rowSet, rowTake, rowDrop, rowCell, rowAgg, mkAgg, AV.size, AV.isAggV, AV.parts, AV.one, AV.solid, headSize, psize, indexAddrA, indexA, fieldAddrA, fieldA, sliceA, boundsA, bndA, lenA, arrayAtA, rowOf, makeSliceA, intsOf, copyA, Nat.reduceAdd, Nat.reduceSub, Nat.reduceMul, Nat.reduceLeDiff, Nat.reduceLT, Nat.reduceGT, Int.reduceToNat, Int.reduceLE, Int.reduceLT, Int.reduceEq, Int.reduceNe, Int.reduceAdd, Int.reduceSub, Int.reduceMul, Int.reduceNeg, ge_iff_le, gt_iff_lt, or_true, true_or, or_false, false_or, not_true, not_false_iff, ite_true, ite_false, dite_true, take_app, take_blakeL, blakeL_len, run_range, c15_pure, c15_news, n10, N32_eq, n9, N31_eq, N58_eq, p9, F61_eq, fourL_len, p8, F74_eq, F75_32, F75_24, F75_16, F75_63, p7, F82_eq, p6, F34_eq, p5, F22_eq, p4, p3, p2, p1, F80_eq, F70_eq, F53_eq, F55_eq, F25_eq, F56_eq, F23_eq, n8, N30_nil, N30_ptr, N28_nil, N28_ptr, hashK_eq, hashR_eq, n7, n6, n5, N57_eq, N27_eq, N20_eq, N21_eq, addNews, allOf, hr] | simp (maxSteps := 1000000) (disch := omega) only [ar_nat, ar_u64, ar_add, ar_sub, ar_mul, ar_div, ar_mod, ar_dec_t, ar_dec_f, ar_beq_t, ar_beq_f, ar_bne_t, ar_bne_f, ar_guard, or_guard, ar_take, ar_take_drop, ar_drop, Int.toNat_natCast, Int.reduceToNat])
  refine loop_count (good15 0) (fun i => ⟨envL [(2, .ptr 0 0 0), (3, .ptr 1 0 0), (4, .ptr 2 0 0), (13, .v (.int .i64 i))], [some [.arr 128 .u64 (xorK x y i)], some [.arr 128 .u64 y], some [.arr 128 .u64 (List.replicate 128 0)]]⟩) 128 (by kernel_rfl) ?_ ?_ ?_
  · (refine weak_of ?_ ?_; (focus (first | with_reducible rfl | (simp only [xorK] <;> with_reducible rfl))); simp only [envAll_cons, envAll_nil, get_put, get_envOf, get_envL_cons, get_envL_nil, Nat.reduceEqDiff, if_true, if_false, reduceIte, Option.some.injEq, and_self, reduceCtorEq, List.getD_cons_zero, List.getD_cons_succ, Int.cast_ofNat_Int, and_true, true_and, xorK])
  · intro i hi
    repeat (first | simp only [c15_P, c15_odd, Nat.reduceBEq, layInts, layOnes, beq_self_eq_true, bne_self_eq_false, addPure, reduceIte, Nat.reduceEqDiff, reduceCtorEq, ne_eq, not_false_eq_true, not_true_eq_false, and_true, true_and, and_self, if_true, if_false, decide_true, decide_false, decide_eq_true_eq, exA, exA, tabs, exB, buildA, layA, rowPut, rowOr, rowSetAt, rowSet, rowTake, rowDrop, rowCell, rowAgg, mkAgg, AV.size, AV.isAggV, AV.parts, AV.one, AV.solid, headSize, psize, indexAddrA, indexA, fieldAddrA, fieldA, sliceA, boundsA, bndA, lenA, arrayAtA, rowOf, makeSliceA, intsOf, copyA, Nat.reduceAdd, Nat.reduceSub, Nat.reduceMul, Nat.reduceLeDiff, Nat.reduceLT, Nat.reduceGT, Int.reduceToNat, Int.reduceLE, Int.reduceLT, Int.reduceEq, Int.reduceNe, Int.reduceAdd, Int.reduceSub, Int.reduceMul, Int.reduceNeg, ge_iff_le, gt_iff_lt, or_true, true_or, or_false, false_or, not_true, not_false_iff, ite_true, ite_false, dite_true, take_app, take_blakeL, blakeL_len, run_range, c15_pure, c15_news, n10, N32_eq, n9, N31_eq, N58_eq, p9, F61_eq, fourL_len, p8, F74_eq, F75_32, F75_24, F75_16, F75_63, p7, F82_eq, p6, F34_eq, p5, F22_eq, p4, p3, p2, p1, F80_eq, F70_eq, F53_eq, F55_eq, F25_eq, F56_eq, F23_eq, n8, N30_nil, N30_ptr, N28_nil, N28_ptr, hashK_eq, hashR_eq, n7, n6, n5, N57_eq, N27_eq, N20_eq, N21_eq, addNews, allOf, hr, na] | simp (maxSteps := 1000000) (disch := omega) only [ar_nat, ar_u64, ar_add, ar_sub, ar_mul, ar_div, ar_mod, ar_dec_t, ar_dec_f, ar_beq_t, ar_beq_f, ar_bne_t, ar_bne_f, ar_guard, or_guard, ar_take, ar_take_drop, ar_drop, Int.toNat_natCast, Int.reduceToNat])
    repeat (with_reducible refine And.intro (by first | omega | assumption) ?_)
    (refine weak_of ?_ ?_; (focus (first | with_reducible rfl | (simp only [xorK] <;> with_reducible rfl))); simp only [envAll_cons, envAll_nil, get_put, get_envOf, get_envL_cons, get_envL_nil, Nat.reduceEqDiff, if_true, if_false, reduceIte, Option.some.injEq, and_self, reduceCtorEq, List.getD_cons_zero, List.getD_cons_succ, Int.cast_ofNat_Int, and_true, true_and, xorK])
  have h1l : (xorK x y 128).length = 128 := by rw [xorK_len, hx]
  have h1t : (xorK x y 128).take 128 = xorK x y 128 := take128 h1l
  repeat (first | simp only [c15_P, c15_odd, Nat.reduceBEq, layInts, layOnes, beq_self_eq_true, bne_self_eq_false, addPure, reduceIte, Nat.reduceEqDiff, reduceCtorEq, ne_eq, not_false_eq_true, not_true_eq_false, and_true, true_and, and_self, if_true, if_false, decide_true, decide_false, decide_eq_true_eq, exA, exA, tabs, exB, buildA, layA, rowPut, rowOr, rowSetAt, rowSet, rowTake, rowDrop, rowCell, rowAgg, mkAgg, AV.size, AV.isAggV, AV.parts, AV.one, AV.solid, headSize, psize, indexAddrA, indexA, fieldAddrA, fieldA, sliceA, boundsA, bndA, lenA, arrayAtA, rowOf, makeSliceA, intsOf, copyA, Nat.reduceAdd, Nat.reduceSub, Nat.reduceMul, Nat.reduceLeDiff, Nat.reduceLT, Nat.reduceGT, Int.reduceToNat, Int.reduceLE, Int.reduceLT, Int.reduceEq, Int.reduceNe, Int.reduceAdd, Int.reduceSub, Int.reduceMul, Int.reduceNeg, ge_iff_le, gt_iff_lt, or_true, true_or, or_false, false_or, not_true, not_false_iff, ite_true, ite_false, dite_true, take_app, take_blakeL, blakeL_len, run_range, c15_pure, c15_news, n10, N32_eq, n9, N31_eq, N58_eq, p9, F61_eq, fourL_len, p8, F74_eq, F75_32, F75_24, F75_16, F75_63, p7, F82_eq, p6, F34_eq, p5, F22_eq, p4, p3, p2, p1, F80_eq, F70_eq, F53_eq, F55_eq, F25_eq, F56_eq, F23_eq, n8, N30_nil, N30_ptr, N28_nil, N28_ptr, hashK_eq, hashR_eq, n7, n6, n5, N57_eq, N27_eq, N20_eq, N21_eq, addNews, allOf, hr, na, h1t] | simp (maxSteps := 1000000) (disch := omega) only [ar_nat, ar_u64, ar_add, ar_sub, ar_mul, ar_div, ar_mod, ar_dec_t, ar_dec_f, ar_beq_t, ar_beq_f, ar_bne_t, ar_bne_f, ar_guard, or_guard, ar_take, ar_take_drop, ar_drop, Int.toNat_natCast, Int.reduceToNat])
  unfold pagesL
  generalize xorK x y 128 = r at h1l h1t ⊢
  have rl : r.length = 128 := h1l
  refine loop_count (good15 0) (fun i => ⟨envL [(2, .ptr 0 0 0), (4, .ptr 2 0 0), (6, .ptr 3 0 0), (7, .ptr 4 0 0), (26, .v (.int .i64 i))], [some [.arr 128 .u64 r], some [.arr 128 .u64 y], some [.arr 128 .u64 (List.replicate 128 0)], some [.arr 128 .u64 (stirK rowQ r i)], some (atK (oldR i) (oldR i) 0)]⟩) 8 (by kernel_rfl) ?_ ?_ ?_
  · (refine weak_of ?_ ?_; (focus (first | with_reducible rfl | (simp only [stirK, n0, atK_0, oldR] <;> with_reducible rfl))); simp only [envAll_cons, envAll_nil, get_put, get_envOf, get_envL_cons, get_envL_nil, Nat.reduceEqDiff, if_true, if_false, reduceIte, Option.some.injEq, and_self, reduceCtorEq, List.getD_cons_zero, List.getD_cons_succ, Int.cast_ofNat_Int, and_true, true_and, stirK, n0, atK_0, oldR])
  · intro i hi
    have hz := stirK_len rowQ r i
    rw [rl] at hz
    repeat (first | simp only [c15_P, c15_odd, Nat.reduceBEq, layInts, layOnes, beq_self_eq_true, bne_self_eq_false, addPure, reduceIte, Nat.reduceEqDiff, reduceCtorEq, ne_eq, not_false_eq_true, not_true_eq_false, and_true, true_and, and_self, if_true, if_false, decide_true, decide_false, decide_eq_true_eq, exA, exA, tabs, exB, buildA, layA, rowPut, rowOr, rowSetAt, rowSet, rowTake, rowDrop, rowCell, rowAgg, mkAgg, AV.size, AV.isAggV, AV.parts, AV.one, AV.solid, headSize, psize, indexAddrA, indexA, fieldAddrA, fieldA, sliceA, boundsA, bndA, lenA, arrayAtA, rowOf, makeSliceA, intsOf, copyA, Nat.reduceAdd, Nat.reduceSub, Nat.reduceMul, Nat.reduceLeDiff, Nat.reduceLT, Nat.reduceGT, Int.reduceToNat, Int.reduceLE, Int.reduceLT, Int.reduceEq, Int.reduceNe, Int.reduceAdd, Int.reduceSub, Int.reduceMul, Int.reduceNeg, ge_iff_le, gt_iff_lt, or_true, true_or, or_false, false_or, not_true, not_false_iff, ite_true, ite_false, dite_true, take_app, take_blakeL, blakeL_len, run_range, c15_pure, c15_news, n10, N32_eq, n9, N31_eq, N58_eq, p9, F61_eq, fourL_len, p8, F74_eq, F75_32, F75_24, F75_16, F75_63, p7, F82_eq, p6, F34_eq, p5, F22_eq, p4, p3, p2, p1, F80_eq, F70_eq, F53_eq, F55_eq, F25_eq, F56_eq, F23_eq, n8, N30_nil, N30_ptr, N28_nil, N28_ptr, hashK_eq, hashR_eq, n7, n6, n5, N57_eq, N27_eq, N20_eq, N21_eq, addNews, allOf, hr, na] | simp (maxSteps := 1000000) (disch := omega) only [ar_nat, ar_u64, ar_add, ar_sub, ar_mul, ar_div, ar_mod, ar_dec_t, ar_dec_f, ar_beq_t, ar_beq_f, ar_bne_t, ar_bne_f, ar_guard, or_guard, ar_take, ar_take_drop, ar_drop, Int.toNat_natCast, Int.reduceToNat])
    refine loop_count (good15 0) (fun k => ⟨envL [(2, .ptr 0 0 0), (4, .ptr 2 0 0), (6, .ptr 3 0 0), (7, .ptr 4 0 0), (8, .v (.int .i64 i)), (26, .v (.int .i64 i)), (29, .v (.int .i64 k))], [some [.arr 128 .u64 r], some [.arr 128 .u64 y], some [.arr 128 .u64 (List.replicate 128 0)], some [.arr 128 .u64 (stirK rowQ r i)], some (atK (oldR (i + 1)) (oldR i) k)]⟩) 16 (by kernel_rfl) ?_ ?_ ?_
    · have e : atK (oldR i) (oldR i) 0 = atK (oldR (i + 1)) (oldR i) 0 := rfl
      (refine weak_of ?_ ?_; (focus (first | with_reducible rfl | (simp only [e, n0] <;> with_reducible rfl))); simp only [envAll_cons, envAll_nil, get_put, get_envOf, get_envL_cons, get_envL_nil, Nat.reduceEqDiff, if_true, if_false, reduceIte, Option.some.injEq, and_self, reduceCtorEq, List.getD_cons_zero, List.getD_cons_succ, Int.cast_ofNat_Int, and_true, true_and, e, n0])
    · intro k hk
      rcases (by omega : k = 0 ∨ k = 1 ∨ k = 2 ∨ k = 3 ∨ k = 4 ∨ k = 5 ∨ k = 6 ∨ k = 7 ∨ k = 8 ∨ k = 9 ∨ k = 10 ∨ k = 11 ∨ k = 12 ∨ k = 13 ∨ k = 14 ∨ k = 15) with rfl | rfl | rfl | rfl | rfl | rfl | rfl | rfl | rfl | rfl | rfl | rfl | rfl | rfl | rfl | rfl
      · repeat (first | simp only [c15_P, c15_odd, Nat.reduceBEq, layInts, layOnes, beq_self_eq_true, bne_self_eq_false, addPure, reduceIte, Nat.reduceEqDiff, reduceCtorEq, ne_eq, not_false_eq_true, not_true_eq_false, and_true, true_and, and_self, if_true, if_false, decide_true, decide_false, decide_eq_true_eq, exA, exA, tabs, exB, buildA, layA, rowPut, rowOr, rowSetAt, rowSet, rowTake, rowDrop, rowCell, rowAgg, mkAgg, AV.size, AV.isAggV, AV.parts, AV.one, AV.solid, headSize, psize, indexAddrA, indexA, fieldAddrA, fieldA, sliceA, boundsA, bndA, lenA, arrayAtA, rowOf, makeSliceA, intsOf, copyA, Nat.reduceAdd, Nat.reduceSub, Nat.reduceMul, Nat.reduceLeDiff, Nat.reduceLT, Nat.reduceGT, Int.reduceToNat, Int.reduceLE, Int.reduceLT, Int.reduceEq, Int.reduceNe, Int.reduceAdd, Int.reduceSub, Int.reduceMul, Int.reduceNeg, ge_iff_le, gt_iff_lt, or_true, true_or, or_false, false_or, not_true, not_false_iff, ite_true, ite_false, dite_true, take_app, take_blakeL, blakeL_len, run_range, c15_pure, c15_news, n10, N32_eq, n9, N31_eq, N58_eq, p9, F61_eq, fourL_len, p8, F74_eq, F75_32, F75_24, F75_16, F75_63, p7, F82_eq, p6, F34_eq, p5, F22_eq, p4, p3, p2, p1, F80_eq, F70_eq, F53_eq, F55_eq, F25_eq, F56_eq, F23_eq, n8, N30_nil, N30_ptr, N28_nil, N28_ptr, hashK_eq, hashR_eq, n7, n6, n5, N57_eq, N27_eq, N20_eq, N21_eq, addNews, allOf, hr, na, n0, n1, oldR_one, rowSet_oldR0, rowSet_oldRs, atK_0, w0, w1, w2, w3, w4, w5, w6, w7, w8, w9, w10, w11, w12, w13, w14, w15, w16] | simp (maxSteps := 1000000) (disch := omega) only [ar_nat, ar_u64, ar_add, ar_sub, ar_mul, ar_div, ar_mod, ar_dec_t, ar_dec_f, ar_beq_t, ar_beq_f, ar_bne_t, ar_bne_f, ar_guard, or_guard, ar_take, ar_take_drop, ar_drop, Int.toNat_natCast, Int.reduceToNat])
        repeat (with_reducible refine And.intro (by first | omega | assumption) ?_)
        have e : atK (oldR (i + 1)) (oldR i) (0 + 1) = [.ptr 3 0 (16 * i), oldR i 1, oldR i 2, oldR i 3, oldR i 4, oldR i 5, oldR i 6, oldR i 7, oldR i 8, oldR i 9, oldR i 10, oldR i 11, oldR i 12, oldR i 13, oldR i 14, oldR i 15] := by
          have q : rowQ i 0 = 16 * i := by unfold rowQ; first | rfl | omega
          rw [← q]; rfl
        (refine weak_of ?_ ?_; (focus (first | with_reducible rfl | (simp only [n0, n1, e, w0, w1, w2, w3, w4, w5, w6, w7, w8, w9, w10, w11, w12, w13, w14, w15, w16] <;> with_reducible rfl))); simp only [envAll_cons, envAll_nil, get_put, get_envOf, get_envL_cons, get_envL_nil, Nat.reduceEqDiff, if_true, if_false, reduceIte, Option.some.injEq, and_self, reduceCtorEq, List.getD_cons_zero, List.getD_cons_succ, Int.cast_ofNat_Int, and_true, true_and, n0, n1, e, w0, w1, w2, w3, w4, w5, w6, w7, w8, w9, w10, w11, w12, w13, w14, w15, w16])
      · repeat (first | simp only [c15_P, c15_odd, Nat.reduceBEq, layInts, layOnes, beq_self_eq_true, bne_self_eq_false, addPure, reduceIte, Nat.reduceEqDiff, reduceCtorEq, ne_eq, not_false_eq_true, not_true_eq_false, and_true, true_and, and_self, if_true, if_false, decide_true, decide_false, decide_eq_true_eq, exA, exA, tabs, exB, buildA, layA, rowPut, rowOr, rowSetAt, rowSet, rowTake, rowDrop, rowCell, rowAgg, mkAgg, AV.size, AV.isAggV, AV.parts, AV.one, AV.solid, headSize, psize, indexAddrA, indexA, fieldAddrA, fieldA, sliceA, boundsA, bndA, lenA, arrayAtA, rowOf, makeSliceA, intsOf, copyA, Nat.reduceAdd, Nat.reduceSub, Nat.reduceMul, Nat.reduceLeDiff, Nat.reduceLT, Nat.reduceGT, Int.reduceToNat, Int.reduceLE, Int.reduceLT, Int.reduceEq, Int.reduceNe, Int.reduceAdd, Int.reduceSub, Int.reduceMul, Int.reduceNeg, ge_iff_le, gt_iff_lt, or_true, true_or, or_false, false_or, not_true, not_false_iff, ite_true, ite_false, dite_true, take_app, take_blakeL, blakeL_len, run_range, c15_pure, c15_news, n10, N32_eq, n9, N31_eq, N58_eq, p9, F61_eq, fourL_len, p8, F74_eq, F75_32, F75_24, F75_16, F75_63, p7, F82_eq, p6, F34_eq, p5, F22_eq, p4, p3, p2, p1, F80_eq, F70_eq, F53_eq, F55_eq, F25_eq, F56_eq, F23_eq, n8, N30_nil, N30_ptr, N28_nil, N28_ptr, hashK_eq, hashR_eq, n7, n6, n5, N57_eq, N27_eq, N20_eq, N21_eq, addNews, allOf, hr, na, n0, n1, oldR_one, rowSet_oldR0, rowSet_oldRs, atK_1, w0, w1, w2, w3, w4, w5, w6, w7, w8, w9, w10, w11, w12, w13, w14, w15, w16] | simp (maxSteps := 1000000) (disch := omega) only [ar_nat, ar_u64, ar_add, ar_sub, ar_mul, ar_div, ar_mod, ar_dec_t, ar_dec_f, ar_beq_t, ar_beq_f, ar_bne_t, ar_bne_f, ar_guard, or_guard, ar_take, ar_take_drop, ar_drop, Int.toNat_natCast, Int.reduceToNat])
        repeat (with_reducible refine And.intro (by first | omega | assumption) ?_)
        have e : atK (oldR (i + 1)) (oldR i) (1 + 1) = [oldR (i + 1) 0, .ptr 3 0 (16 * i + 1), oldR i 2, oldR i 3, oldR i 4, oldR i 5, oldR i 6, oldR i 7, oldR i 8, oldR i 9, oldR i 10, oldR i 11, oldR i 12, oldR i 13, oldR i 14, oldR i 15] := by
          have q : rowQ i 1 = 16 * i + 1 := by unfold rowQ; first | rfl | omega
          rw [← q]; rfl
        (refine weak_of ?_ ?_; (focus (first | with_reducible rfl | (simp only [n0, n1, e, w0, w1, w2, w3, w4, w5, w6, w7, w8, w9, w10, w11, w12, w13, w14, w15, w16] <;> with_reducible rfl))); simp only [envAll_cons, envAll_nil, get_put, get_envOf, get_envL_cons, get_envL_nil, Nat.reduceEqDiff, if_true, if_false, reduceIte, Option.some.injEq, and_self, reduceCtorEq, List.getD_cons_zero, List.getD_cons_succ, Int.cast_ofNat_Int, and_true, true_and, n0, n1, e, w0, w1, w2, w3, w4, w5, w6, w7, w8, w9, w10, w11, w12, w13, w14, w15, w16])
      · repeat (first | simp only [c15_P, c15_odd, Nat.reduceBEq, layInts, layOnes, beq_self_eq_true, bne_self_eq_false, addPure, reduceIte, Nat.reduceEqDiff, reduceCtorEq, ne_eq, not_false_eq_true, not_true_eq_false, and_true, true_and, and_self, if_true, if_false, decide_true, decide_false, decide_eq_true_eq, exA, exA, tabs, exB, buildA, layA, rowPut, rowOr, rowSetAt, rowSet, rowTake, rowDrop, rowCell, rowAgg, mkAgg, AV.size, AV.isAggV, AV.parts, AV.one, AV.solid, headSize, psize, indexAddrA, indexA, fieldAddrA, fieldA, sliceA, boundsA, bndA, lenA, arrayAtA, rowOf, makeSliceA, intsOf, copyA, Nat.reduceAdd, Nat.reduceSub, Nat.reduceMul, Nat.reduceLeDiff, Nat.reduceLT, Nat.reduceGT, Int.reduceToNat, Int.reduceLE, Int.reduceLT, Int.reduceEq, Int.reduceNe, Int.reduceAdd, Int.reduceSub, Int.reduceMul, Int.reduceNeg, ge_iff_le, gt_iff_lt, or_true, true_or, or_false, false_or, not_true, not_false_iff, ite_true, ite_false, dite_true, take_app, take_blakeL, blakeL_len, run_range, c15_pure, c15_news, n10, N32_eq, n9, N31_eq, N58_eq, p9, F61_eq, fourL_len, p8, F74_eq, F75_32, F75_24, F75_16, F75_63, p7, F82_eq, p6, F34_eq, p5, F22_eq, p4, p3, p2, p1, F80_eq, F70_eq, F53_eq, F55_eq, F25_eq, F56_eq, F23_eq, n8, N30_nil, N30_ptr, N28_nil, N28_ptr, hashK_eq, hashR_eq, n7, n6, n5, N57_eq, N27_eq, N20_eq, N21_eq, addNews, allOf, hr, na, n0, n1, oldR_one, rowSet_oldR0, rowSet_oldRs, atK_2, w0, w1, w2, w3, w4, w5, w6, w7, w8, w9, w10, w11, w12, w13, w14, w15, w16] | simp (maxSteps := 1000000) (disch := omega) only [ar_nat, ar_u64, ar_add, ar_sub, ar_mul, ar_div, ar_mod, ar_dec_t, ar_dec_f, ar_beq_t, ar_beq_f, ar_bne_t, ar_bne_f, ar_guard, or_guard, ar_take, ar_take_drop, ar_drop, Int.toNat_natCast, Int.reduceToNat])
        repeat (with_reducible refine And.intro (by first | omega | assumption) ?_)
        have e : atK (oldR (i + 1)) (oldR i) (2 + 1) = [oldR (i + 1) 0, oldR (i + 1) 1, .ptr 3 0 (16 * i + 2), oldR i 3, oldR i 4, oldR i 5, oldR i 6, oldR i 7, oldR i 8, oldR i 9, oldR i 10, oldR i 11, oldR i 12, oldR i 13, oldR i 14, oldR i 15] := by
          have q : rowQ i 2 = 16 * i + 2 := by unfold rowQ; first | rfl | omega
          rw [← q]; rfl
        (refine weak_of ?_ ?_; (focus (first | with_reducible rfl | (simp only [n0, n1, e, w0, w1, w2, w3, w4, w5, w6, w7, w8, w9, w10, w11, w12, w13, w14, w15, w16] <;> with_reducible rfl))); simp only [envAll_cons, envAll_nil, get_put, get_envOf, get_envL_cons, get_envL_nil, Nat.reduceEqDiff, if_true, if_false, reduceIte, Option.some.injEq, and_self, reduceCtorEq, List.getD_cons_zero, List.getD_cons_succ, Int.cast_ofNat_Int, and_true, true_and, n0, n1, e, w0, w1, w2, w3, w4, w5, w6, w7, w8, w9, w10, w11, w12, w13, w14, w15, w16])
      · repeat (first | simp only [c15_P, c15_odd, Nat.reduceBEq, layInts, layOnes, beq_self_eq_true, bne_self_eq_false, addPure, reduceIte, Nat.reduceEqDiff, reduceCtorEq, ne_eq, not_false_eq_true, not_true_eq_false, and_true, true_and, and_self, if_true, if_false, decide_true, decide_false, decide_eq_true_eq, exA, exA, tabs, exB, buildA, layA, rowPut, rowOr, rowSetAt, rowSet, rowTake, rowDrop, rowCell, rowAgg, mkAgg, AV.size, AV.isAggV, AV.parts, AV.one, AV.solid, headSize, psize, indexAddrA, indexA, fieldAddrA, fieldA, sliceA, boundsA, bndA, lenA, arrayAtA, rowOf, makeSliceA, intsOf, copyA, Nat.reduceAdd, Nat.reduceSub, Nat.reduceMul, Nat.reduceLeDiff, Nat.reduceLT, Nat.reduceGT, Int.reduceToNat, Int.reduceLE, Int.reduceLT, Int.reduceEq, Int.reduceNe, Int.reduceAdd, Int.reduceSub, Int.reduceMul, Int.reduceNeg, ge_iff_le, gt_iff_lt, or_true, true_or, or_false, false_or, not_true, not_false_iff, ite_true, ite_false, dite_true, take_app, take_blakeL, blakeL_len, run_range, c15_pure, c15_news, n10, N32_eq, n9, N31_eq, N58_eq, p9, F61_eq, fourL_len, p8, F74_eq, F75_32, F75_24, F75_16, F75_63, p7, F82_eq, p6, F34_eq, p5, F22_eq, p4, p3, p2, p1, F80_eq, F70_eq, F53_eq, F55_eq, F25_eq, F56_eq, F23_eq, n8, N30_nil, N30_ptr, N28_nil, N28_ptr, hashK_eq, hashR_eq, n7, n6, n5, N57_eq, N27_eq, N20_eq, N21_eq, addNews, allOf, hr, na, n0, n1, oldR_one, rowSet_oldR0, rowSet_oldRs, atK_3, w0, w1, w2, w3, w4, w5, w6, w7, w8, w9, w10, w11, w12, w13, w14, w15, w16] | simp (maxSteps := 1000000) (disch := omega) only [ar_nat, ar_u64, ar_add, ar_sub, ar_mul, ar_div, ar_mod, ar_dec_t, ar_dec_f, ar_beq_t, ar_beq_f, ar_bne_t, ar_bne_f, ar_guard, or_guard, ar_take, ar_take_drop, ar_drop, Int.toNat_natCast, Int.reduceToNat])
        repeat (with_reducible refine And.intro (by first | omega | assumption) ?_)
        have e : atK (oldR (i + 1)) (oldR i) (3 + 1) = [oldR (i + 1) 0, oldR (i + 1) 1, oldR (i + 1) 2, .ptr 3 0 (16 * i + 3), oldR i 4, oldR i 5, oldR i 6, oldR i 7, oldR i 8, oldR i 9, oldR i 10, oldR i 11, oldR i 12, oldR i 13, oldR i 14, oldR i 15] := by
          have q : rowQ i 3 = 16 * i + 3 := by unfold rowQ; first | rfl | omega
          rw [← q]; rfl
        (refine weak_of ?_ ?_; (focus (first | with_reducible rfl | (simp only [n0, n1, e, w0, w1, w2, w3, w4, w5, w6, w7, w8, w9, w10, w11, w12, w13, w14, w15, w16] <;> with_reducible rfl))); simp only [envAll_cons, envAll_nil, get_put, get_envOf, get_envL_cons, get_envL_nil, Nat.reduceEqDiff, if_true, if_false, reduceIte, Option.some.injEq, and_self, reduceCtorEq, List.getD_cons_zero, List.getD_cons_succ, Int.cast_ofNat_Int, and_true, true_and, n0, n1, e, w0, w1, w2, w3, w4, w5, w6, w7, w8, w9, w10, w11, w12, w13, w14, w15, w16])
      · repeat (first | simp only [c15_P, c15_odd, Nat.reduceBEq, layInts, layOnes, beq_self_eq_true, bne_self_eq_false, addPure, reduceIte, Nat.reduceEqDiff, reduceCtorEq, ne_eq, not_false_eq_true, not_true_eq_false, and_true, true_and, and_self, if_true, if_false, decide_true, decide_false, decide_eq_true_eq, exA, exA, tabs, exB, buildA, layA, rowPut, rowOr, rowSetAt, rowSet, rowTake, rowDrop, rowCell, rowAgg, mkAgg, AV.size, AV.isAggV, AV.parts, AV.one, AV.solid, headSize, psize, indexAddrA, indexA, fieldAddrA, fieldA, sliceA, boundsA, bndA, lenA, arrayAtA, rowOf, makeSliceA, intsOf, copyA, Nat.reduceAdd, Nat.reduceSub, Nat.reduceMul, Nat.reduceLeDiff, Nat.reduceLT, Nat.reduceGT, Int.reduceToNat, Int.reduceLE, Int.reduceLT, Int.reduceEq, Int.reduceNe, Int.reduceAdd, Int.reduceSub, Int.reduceMul, Int.reduceNeg, ge_iff_le, gt_iff_lt, or_true, true_or, or_false, false_or, not_true, not_false_iff, ite_true, ite_false, dite_true, take_app, take_blakeL, blakeL_len, run_range, c15_pure, c15_news, n10, N32_eq, n9, N31_eq, N58_eq, p9, F61_eq, fourL_len, p8, F74_eq, F75_32, F75_24, F75_16, F75_63, p7, F82_eq, p6, F34_eq, p5, F22_eq, p4, p3, p2, p1, F80_eq, F70_eq, F53_eq, F55_eq, F25_eq, F56_eq, F23_eq, n8, N30_nil, N30_ptr, N28_nil, N28_ptr, hashK_eq, hashR_eq, n7, n6, n5, N57_eq, N27_eq, N20_eq, N21_eq, addNews, allOf, hr, na, n0, n1, oldR_one, rowSet_oldR0, rowSet_oldRs, atK_4, w0, w1, w2, w3, w4, w5, w6, w7, w8, w9, w10, w11, w12, w13, w14, w15, w16] | simp (maxSteps := 1000000) (disch := omega) only [ar_nat, ar_u64, ar_add, ar_sub, ar_mul, ar_div, ar_mod, ar_dec_t, ar_dec_f, ar_beq_t, ar_beq_f, ar_bne_t, ar_bne_f, ar_guard, or_guard, ar_take, ar_take_drop, ar_drop, Int.toNat_natCast, Int.reduceToNat])
        repeat (with_reducible refine And.intro (by first | omega | assumption) ?_)
        have e : atK (oldR (i + 1)) (oldR i) (4 + 1) = [oldR (i + 1) 0, oldR (i + 1) 1, oldR (i + 1) 2, oldR (i + 1) 3, .ptr 3 0 (16 * i + 4), oldR i 5, oldR i 6, oldR i 7, oldR i 8, oldR i 9, oldR i 10, oldR i 11, oldR i 12, oldR i 13, oldR i 14, oldR i 15] := by
          have q : rowQ i 4 = 16 * i + 4 := by unfold rowQ; first | rfl | omega
          rw [← q]; rfl
        (refine weak_of ?_ ?_; (focus (first | with_reducible rfl | (simp only [n0, n1, e, w0, w1, w2, w3, w4, w5, w6, w7, w8, w9, w10, w11, w12, w13, w14, w15, w16] <;> with_reducible rfl))); simp only [envAll_cons, envAll_nil, get_put, get_envOf, get_envL_cons, get_envL_nil, Nat.reduceEqDiff, if_true, if_false, reduceIte, Option.some.injEq, and_self, reduceCtorEq, List.getD_cons_zero, List.getD_cons_succ, Int.cast_ofNat_Int, and_true, true_and, n0, n1, e, w0, w1, w2, w3, w4, w5, w6, w7, w8, w9, w10, w11, w12, w13, w14, w15, w16])
      · repeat (first | simp only [c15_P, c15_odd, Nat.reduceBEq, layInts, layOnes, beq_self_eq_true, bne_self_eq_false, addPure, reduceIte, Nat.reduceEqDiff, reduceCtorEq, ne_eq, not_false_eq_true, not_true_eq_false, and_true, true_and, and_self, if_true, if_false, decide_true, decide_false, decide_eq_true_eq, exA, exA, tabs, exB, buildA, layA, rowPut, rowOr, rowSetAt, rowSet, rowTake, rowDrop, rowCell, rowAgg, mkAgg, AV.size, AV.isAggV, AV.parts, AV.one, AV.solid, headSize, psize, indexAddrA, indexA, fieldAddrA, fieldA, sliceA, boundsA, bndA, lenA, arrayAtA, rowOf, makeSliceA, intsOf, copyA, Nat.reduceAdd, Nat.reduceSub, Nat.reduceMul, Nat.reduceLeDiff, Nat.reduceLT, Nat.reduceGT, Int.reduceToNat, Int.reduceLE, Int.reduceLT, Int.reduceEq, Int.reduceNe, Int.reduceAdd, Int.reduceSub, Int.reduceMul, Int.reduceNeg, ge_iff_le, gt_iff_lt, or_true, true_or, or_false, false_or, not_true, not_false_iff, ite_true, ite_false, dite_true, take_app, take_blakeL, blakeL_len, run_range, c15_pure, c15_news, n10, N32_eq, n9, N31_eq, N58_eq, p9, F61_eq, fourL_len, p8, F74_eq, F75_32, F75_24, F75_16, F75_63, p7, F82_eq, p6, F34_eq, p5, F22_eq, p4, p3, p2, p1, F80_eq, F70_eq, F53_eq, F55_eq, F25_eq, F56_eq, F23_eq, n8, N30_nil, N30_ptr, N28_nil, N28_ptr, hashK_eq, hashR_eq, n7, n6, n5, N57_eq, N27_eq, N20_eq, N21_eq, addNews, allOf, hr, na, n0, n1, oldR_one, rowSet_oldR0, rowSet_oldRs, atK_5, w0, w1, w2, w3, w4, w5, w6, w7, w8, w9, w10, w11, w12, w13, w14, w15, w16] | simp (maxSteps := 1000000) (disch := omega) only [ar_nat, ar_u64, ar_add, ar_sub, ar_mul, ar_div, ar_mod, ar_dec_t, ar_dec_f, ar_beq_t, ar_beq_f, ar_bne_t, ar_bne_f, ar_guard, or_guard, ar_take, ar_take_drop, ar_drop, Int.toNat_natCast, Int.reduceToNat])
        repeat (with_reducible refine And.intro (by first | omega | assumption) ?_)
        have e : atK (oldR (i + 1)) (oldR i) (5 + 1) = [oldR (i + 1) 0, oldR (i + 1) 1, oldR (i + 1) 2, oldR (i + 1) 3, oldR (i + 1) 4, .ptr 3 0 (16 * i + 5), oldR i 6, oldR i 7, oldR i 8, oldR i 9, oldR i 10, oldR i 11, oldR i 12, oldR i 13, oldR i 14, oldR i 15] := by
          have q : rowQ i 5 = 16 * i + 5 := by unfold rowQ; first | rfl | omega
          rw [← q]; rfl
        (refine weak_of ?_ ?_; (focus (first | with_reducible rfl | (simp only [n0, n1, e, w0, w1, w2, w3, w4, w5, w6, w7, w8, w9, w10, w11, w12, w13, w14, w15, w16] <;> with_reducible rfl))); simp only [envAll_cons, envAll_nil, get_put, get_envOf, get_envL_cons, get_envL_nil, Nat.reduceEqDiff, if_true, if_false, reduceIte, Option.some.injEq, and_self, reduceCtorEq, List.getD_cons_zero, List.getD_cons_succ, Int.cast_ofNat_Int, and_true, true_and, n0, n1, e, w0, w1, w2, w3, w4, w5, w6, w7, w8, w9, w10, w11, w12, w13, w14, w15, w16])
      · repeat (first | simp only [c15_P, c15_odd, Nat.reduceBEq, layInts, layOnes, beq_self_eq_true, bne_self_eq_false, addPure, reduceIte, Nat.reduceEqDiff, reduceCtorEq, ne_eq, not_false_eq_true, not_true_eq_false, and_true, true_and, and_self, if_true, if_false, decide_true, decide_false, decide_eq_true_eq, exA, exA, tabs, exB, buildA, layA, rowPut, rowOr, rowSetAt, rowSet, rowTake, rowDrop, rowCell, rowAgg, mkAgg, AV.size, AV.isAggV, AV.parts, AV.one, AV.solid, headSize, psize, indexAddrA, indexA, fieldAddrA, fieldA, sliceA, boundsA, bndA, lenA, arrayAtA, rowOf, makeSliceA, intsOf, copyA, Nat.reduceAdd, Nat.reduceSub, Nat.reduceMul, Nat.reduceLeDiff, Nat.reduceLT, Nat.reduceGT, Int.reduceToNat, Int.reduceLE, Int.reduceLT, Int.reduceEq, Int.reduceNe, Int.reduceAdd, Int.reduceSub, Int.reduceMul, Int.reduceNeg, ge_iff_le, gt_iff_lt, or_true, true_or, or_false, false_or, not_true, not_false_iff, ite_true, ite_false, dite_true, take_app, take_blakeL, blakeL_len, run_range, c15_pure, c15_news, n10, N32_eq, n9, N31_eq, N58_eq, p9, F61_eq, fourL_len, p8, F74_eq, F75_32, F75_24, F75_16, F75_63, p7, F82_eq, p6, F34_eq, p5, F22_eq, p4, p3, p2, p1, F80_eq, F70_eq, F53_eq, F55_eq, F25_eq, F56_eq, F23_eq, n8, N30_nil, N30_ptr, N28_nil, N28_ptr, hashK_eq, hashR_eq, n7, n6, n5, N57_eq, N27_eq, N20_eq, N21_eq, addNews, allOf, hr, na, n0, n1, oldR_one, rowSet_oldR0, rowSet_oldRs, atK_6, w0, w1, w2, w3, w4, w5, w6, w7, w8, w9, w10, w11, w12, w13, w14, w15, w16] | simp (maxSteps := 1000000) (disch := omega) only [ar_nat, ar_u64, ar_add, ar_sub, ar_mul, ar_div, ar_mod, ar_dec_t, ar_dec_f, ar_beq_t, ar_beq_f, ar_bne_t, ar_bne_f, ar_guard, or_guard, ar_take, ar_take_drop, ar_drop, Int.toNat_natCast, Int.reduceToNat])
        repeat (with_reducible refine And.intro (by first | omega | assumption) ?_)
        have e : atK (oldR (i + 1)) (oldR i) (6 + 1) = [oldR (i + 1) 0, oldR (i + 1) 1, oldR (i + 1) 2, oldR (i + 1) 3, oldR (i + 1) 4, oldR (i + 1) 5, .ptr 3 0 (16 * i + 6), oldR i 7, oldR i 8, oldR i 9, oldR i 10, oldR i 11, oldR i 12, oldR i 13, oldR i 14, oldR i 15] := by
          have q : rowQ i 6 = 16 * i + 6 := by unfold rowQ; first | rfl | omega
          rw [← q]; rfl
        (refine weak_of ?_ ?_; (focus (first | with_reducible rfl | (simp only [n0, n1, e, w0, w1, w2, w3, w4, w5, w6, w7, w8, w9, w10, w11, w12, w13, w14, w15, w16] <;> with_reducible rfl))); simp only [envAll_cons, envAll_nil, get_put, get_envOf, get_envL_cons, get_envL_nil, Nat.reduceEqDiff, if_true, if_false, reduceIte, Option.some.injEq, and_self, reduceCtorEq, List.getD_cons_zero, List.getD_cons_succ, Int.cast_ofNat_Int, and_true, true_and, n0, n1, e, w0, w1, w2, w3, w4, w5, w6, w7, w8, w9, w10, w11, w12, w13, w14, w15, w16])
      · repeat (first | simp only [c15_P, c15_odd, Nat.reduceBEq, layInts, layOnes, beq_self_eq_true, bne_self_eq_false, addPure, reduceIte, Nat.reduceEqDiff, reduceCtorEq, ne_eq, not_false_eq_true, not_true_eq_false, and_true, true_and, and_self, if_true, if_false, decide_true, decide_false, decide_eq_true_eq, exA, exA, tabs, exB, buildA, layA, rowPut, rowOr, rowSetAt, rowSet, rowTake, rowDrop, rowCell, rowAgg, mkAgg, AV.size, AV.isAggV, AV.parts, AV.one, AV.solid, headSize, psize, indexAddrA, indexA, fieldAddrA, fieldA, sliceA, boundsA, bndA, lenA, arrayAtA, rowOf, makeSliceA, intsOf, copyA, Nat.reduceAdd, Nat.reduceSub, Nat.reduceMul, Nat.reduceLeDiff, Nat.reduceLT, Nat.reduceGT, Int.reduceToNat, Int.reduceLE, Int.reduceLT, Int.reduceEq, Int.reduceNe, Int.reduceAdd, Int.reduceSub, Int.reduceMul, Int.reduceNeg, ge_iff_le, gt_iff_lt, or_true, true_or, or_false, false_or, not_true, not_false_iff, ite_true, ite_false, dite_true, take_app, take_blakeL, blakeL_len, run_range, c15_pure, c15_news, n10, N32_eq, n9, N31_eq, N58_eq, p9, F61_eq, fourL_len, p8, F74_eq, F75_32, F75_24, F75_16, F75_63, p7, F82_eq, p6, F34_eq, p5, F22_eq, p4, p3, p2, p1, F80_eq, F70_eq, F53_eq, F55_eq, F25_eq, F56_eq, F23_eq, n8, N30_nil, N30_ptr, N28_nil, N28_ptr, hashK_eq, hashR_eq, n7, n6, n5, N57_eq, N27_eq, N20_eq, N21_eq, addNews, allOf, hr, na, n0, n1, oldR_one, rowSet_oldR0, rowSet_oldRs, atK_7, w0, w1, w2, w3, w4, w5, w6, w7, w8, w9, w10, w11, w12, w13, w14, w15, w16] | simp (maxSteps := 1000000) (disch := omega) only [ar_nat, ar_u64, ar_add, ar_sub, ar_mul, ar_div, ar_mod, ar_dec_t, ar_dec_f, ar_beq_t, ar_beq_f, ar_bne_t, ar_bne_f, ar_guard, or_guard, ar_take, ar_take_drop, ar_drop, Int.toNat_natCast, Int.reduceToNat])
        repeat (with_reducible refine And.intro (by first | omega | assumption) ?_)
        have e : atK (oldR (i + 1)) (oldR i) (7 + 1) = [oldR (i + 1) 0, oldR (i + 1) 1, oldR (i + 1) 2, oldR (i + 1) 3, oldR (i + 1) 4, oldR (i + 1) 5, oldR (i + 1) 6, .ptr 3 0 (16 * i + 7), oldR i 8, oldR i 9, oldR i 10, oldR i 11, oldR i 12, oldR i 13, oldR i 14, oldR i 15] := by
          have q : rowQ i 7 = 16 * i + 7 := by unfold rowQ; first | rfl | omega
          rw [← q]; rfl
        (refine weak_of ?_ ?_; (focus (first | with_reducible rfl | (simp only [n0, n1, e, w0, w1, w2, w3, w4, w5, w6, w7, w8, w9, w10, w11, w12, w13, w14, w15, w16] <;> with_reducible rfl))); simp only [envAll_cons, envAll_nil, get_put, get_envOf, get_envL_cons, get_envL_nil, Nat.reduceEqDiff, if_true, if_false, reduceIte, Option.some.injEq, and_self, reduceCtorEq, List.getD_cons_zero, List.getD_cons_succ, Int.cast_ofNat_Int, and_true, true_and, n0, n1, e, w0, w1, w2, w3, w4, w5, w6, w7, w8, w9, w10, w11, w12, w13, w14, w15, w16])
      · repeat (first | simp only [c15_P, c15_odd, Nat.reduceBEq, layInts, layOnes, beq_self_eq_true, bne_self_eq_false, addPure, reduceIte, Nat.reduceEqDiff, reduceCtorEq, ne_eq, not_false_eq_true, not_true_eq_false, and_true, true_and, and_self, if_true, if_false, decide_true, decide_false, decide_eq_true_eq, exA, exA, tabs, exB, buildA, layA, rowPut, rowOr, rowSetAt, rowSet, rowTake, rowDrop, rowCell, rowAgg, mkAgg, AV.size, AV.isAggV, AV.parts, AV.one, AV.solid, headSize, psize, indexAddrA, indexA, fieldAddrA, fieldA, sliceA, boundsA, bndA, lenA, arrayAtA, rowOf, makeSliceA, intsOf, copyA, Nat.reduceAdd, Nat.reduceSub, Nat.reduceMul, Nat.reduceLeDiff, Nat.reduceLT, Nat.reduceGT, Int.reduceToNat, Int.reduceLE, Int.reduceLT, Int.reduceEq, Int.reduceNe, Int.reduceAdd, Int.reduceSub, Int.reduceMul, Int.reduceNeg, ge_iff_le, gt_iff_lt, or_true, true_or, or_false, false_or, not_true, not_false_iff, ite_true, ite_false, dite_true, take_app, take_blakeL, blakeL_len, run_range, c15_pure, c15_news, n10, N32_eq, n9, N31_eq, N58_eq, p9, F61_eq, fourL_len, p8, F74_eq, F75_32, F75_24, F75_16, F75_63, p7, F82_eq, p6, F34_eq, p5, F22_eq, p4, p3, p2, p1, F80_eq, F70_eq, F53_eq, F55_eq, F25_eq, F56_eq, F23_eq, n8, N30_nil, N30_ptr, N28_nil, N28_ptr, hashK_eq, hashR_eq, n7, n6, n5, N57_eq, N27_eq, N20_eq, N21_eq, addNews, allOf, hr, na, n0, n1, oldR_one, rowSet_oldR0, rowSet_oldRs, atK_8, w0, w1, w2, w3, w4, w5, w6, w7, w8, w9, w10, w11, w12, w13, w14, w15, w16] | simp (maxSteps := 1000000) (disch := omega) only [ar_nat, ar_u64, ar_add, ar_sub, ar_mul, ar_div, ar_mod, ar_dec_t, ar_dec_f, ar_beq_t, ar_beq_f, ar_bne_t, ar_bne_f, ar_guard, or_guard, ar_take, ar_take_drop, ar_drop, Int.toNat_natCast, Int.reduceToNat])
        repeat (with_reducible refine And.intro (by first | omega | assumption) ?_)
        have e : atK (oldR (i + 1)) (oldR i) (8 + 1) = [oldR (i + 1) 0, oldR (i + 1) 1, oldR (i + 1) 2, oldR (i + 1) 3, oldR (i + 1) 4, oldR (i + 1) 5, oldR (i + 1) 6, oldR (i + 1) 7, .ptr 3 0 (16 * i + 8), oldR i 9, oldR i 10, oldR i 11, oldR i 12, oldR i 13, oldR i 14, oldR i 15] := by
          have q : rowQ i 8 = 16 * i + 8 := by unfold rowQ; first | rfl | omega
          rw [← q]; rfl
        (refine weak_of ?_ ?_; (focus (first | with_reducible rfl | (simp only [n0, n1, e, w0, w1, w2, w3, w4, w5, w6, w7, w8, w9, w10, w11, w12, w13, w14, w15, w16] <;> with_reducible rfl))); simp only [envAll_cons, envAll_nil, get_put, get_envOf, get_envL_cons, get_envL_nil, Nat.reduceEqDiff, if_true, if_false, reduceIte, Option.some.injEq, and_self, reduceCtorEq, List.getD_cons_zero, List.getD_cons_succ, Int.cast_ofNat_Int, and_true, true_and, n0, n1, e, w0, w1, w2, w3, w4, w5, w6, w7, w8, w9, w10, w11, w12, w13, w14, w15, w16])
      · repeat (first | simp only [c15_P, c15_odd, Nat.reduceBEq, layInts, layOnes, beq_self_eq_true, bne_self_eq_false, addPure, reduceIte, Nat.reduceEqDiff, reduceCtorEq, ne_eq, not_false_eq_true, not_true_eq_false, and_true, true_and, and_self, if_true, if_false, decide_true, decide_false, decide_eq_true_eq, exA, exA, tabs, exB, buildA, layA, rowPut, rowOr, rowSetAt, rowSet, rowTake, rowDrop, rowCell, rowAgg, mkAgg, AV.size, AV.isAggV, AV.parts, AV.one, AV.solid, headSize, psize, indexAddrA, indexA, fieldAddrA, fieldA, sliceA, boundsA, bndA, lenA, arrayAtA, rowOf, makeSliceA, intsOf, copyA, Nat.reduceAdd, Nat.reduceSub, Nat.reduceMul, Nat.reduceLeDiff, Nat.reduceLT, Nat.reduceGT, Int.reduceToNat, Int.reduceLE, Int.reduceLT, Int.reduceEq, Int.reduceNe, Int.reduceAdd, Int.reduceSub, Int.reduceMul, Int.reduceNeg, ge_iff_le, gt_iff_lt, or_true, true_or, or_false, false_or, not_true, not_false_iff, ite_true, ite_false, dite_true, take_app, take_blakeL, blakeL_len, run_range, c15_pure, c15_news, n10, N32_eq, n9, N31_eq, N58_eq, p9, F61_eq, fourL_len, p8, F74_eq, F75_32, F75_24, F75_16, F75_63, p7, F82_eq, p6, F34_eq, p5, F22_eq, p4, p3, p2, p1, F80_eq, F70_eq, F53_eq, F55_eq, F25_eq, F56_eq, F23_eq, n8, N30_nil, N30_ptr, N28_nil, N28_ptr, hashK_eq, hashR_eq, n7, n6, n5, N57_eq, N27_eq, N20_eq, N21_eq, addNews, allOf, hr, na, n0, n1, oldR_one, rowSet_oldR0, rowSet_oldRs, atK_9, w0, w1, w2, w3, w4, w5, w6, w7, w8, w9, w10, w11, w12, w13, w14, w15, w16] | simp (maxSteps := 1000000) (disch := omega) only [ar_nat, ar_u64, ar_add, ar_sub, ar_mul, ar_div, ar_mod, ar_dec_t, ar_dec_f, ar_beq_t, ar_beq_f, ar_bne_t, ar_bne_f, ar_guard, or_guard, ar_take, ar_take_drop, ar_drop, Int.toNat_natCast, Int.reduceToNat])
        repeat (with_reducible refine And.intro (by first | omega | assumption) ?_)
        have e : atK (oldR (i + 1)) (oldR i) (9 + 1) = [oldR (i + 1) 0, oldR (i + 1) 1, oldR (i + 1) 2, oldR (i + 1) 3, oldR (i + 1) 4, oldR (i + 1) 5, oldR (i + 1) 6, oldR (i + 1) 7, oldR (i + 1) 8, .ptr 3 0 (16 * i + 9), oldR i 10, oldR i 11, oldR i 12, oldR i 13, oldR i 14, oldR i 15] := by
          have q : rowQ i 9 = 16 * i + 9 := by unfold rowQ; first | rfl | omega
          rw [← q]; rfl
        (refine weak_of ?_ ?_; (focus (first | with_reducible rfl | (simp only [n0, n1, e, w0, w1, w2, w3, w4, w5, w6, w7, w8, w9, w10, w11, w12, w13, w14, w15, w16] <;> with_reducible rfl))); simp only [envAll_cons, envAll_nil, get_put, get_envOf, get_envL_cons, get_envL_nil, Nat.reduceEqDiff, if_true, if_false, reduceIte, Option.some.injEq, and_self, reduceCtorEq, List.getD_cons_zero, List.getD_cons_succ, Int.cast_ofNat_Int, and_true, true_and, n0, n1, e, w0, w1, w2, w3, w4, w5, w6, w7, w8, w9, w10, w11, w12, w13, w14, w15, w16])
      · repeat (first | simp only [c15_P, c15_odd, Nat.reduceBEq, layInts, layOnes, beq_self_eq_true, bne_self_eq_false, addPure, reduceIte, Nat.reduceEqDiff, reduceCtorEq, ne_eq, not_false_eq_true, not_true_eq_false, and_true, true_and, and_self, if_true, if_false, decide_true, decide_false, decide_eq_true_eq, exA, exA, tabs, exB, buildA, layA, rowPut, rowOr, rowSetAt, rowSet, rowTake, rowDrop, rowCell, rowAgg, mkAgg, AV.size, AV.isAggV, AV.parts, AV.one, AV.solid, headSize, psize, indexAddrA, indexA, fieldAddrA, fieldA, sliceA, boundsA, bndA, lenA, arrayAtA, rowOf, makeSliceA, intsOf, copyA, Nat.reduceAdd, Nat.reduceSub, Nat.reduceMul, Nat.reduceLeDiff, Nat.reduceLT, Nat.reduceGT, Int.reduceToNat, Int.reduceLE, Int.reduceLT, Int.reduceEq, Int.reduceNe, Int.reduceAdd, Int.reduceSub, Int.reduceMul, Int.reduceNeg, ge_iff_le, gt_iff_lt, or_true, true_or, or_false, false_or, not_true, not_false_iff, ite_true, ite_false, dite_true, take_app, take_blakeL, blakeL_len, run_range, c15_pure, c15_news, n10, N32_eq, n9, N31_eq, N58_eq, p9, F61_eq, fourL_len, p8, F74_eq, F75_32, F75_24, F75_16, F75_63, p7, F82_eq, p6, F34_eq, p5, F22_eq, p4, p3, p2, p1, F80_eq, F70_eq, F53_eq, F55_eq, F25_eq, F56_eq, F23_eq, n8, N30_nil, N30_ptr, N28_nil, N28_ptr, hashK_eq, hashR_eq, n7, n6, n5, N57_eq, N27_eq, N20_eq, N21_eq, addNews, allOf, hr, na, n0, n1, oldR_one, rowSet_oldR0, rowSet_oldRs, atK_10, w0, w1, w2, w3, w4, w5, w6, w7, w8, w9, w10, w11, w12, w13, w14, w15, w16] | simp (maxSteps := 1000000) (disch := omega) only [ar_nat, ar_u64, ar_add, ar_sub, ar_mul, ar_div, ar_mod, ar_dec_t, ar_dec_f, ar_beq_t, ar_beq_f, ar_bne_t, ar_bne_f, ar_guard, or_guard, ar_take, ar_take_drop, ar_drop, Int.toNat_natCast, Int.reduceToNat])
        repeat (with_reducible refine And.intro (by first | omega | assumption) ?_)
        have e : atK (oldR (i + 1)) (oldR i) (10 + 1) = [oldR (i + 1) 0, oldR (i + 1) 1, oldR (i + 1) 2, oldR (i + 1) 3, oldR (i + 1) 4, oldR (i + 1) 5, oldR (i + 1) 6, oldR (i + 1) 7, oldR (i + 1) 8, oldR (i + 1) 9, .ptr 3 0 (16 * i + 10), oldR i 11, oldR i 12, oldR i 13, oldR i 14, oldR i 15] := by
          have q : rowQ i 10 = 16 * i + 10 := by unfold rowQ; first | rfl | omega
          rw [← q]; rfl
        (refine weak_of ?_ ?_; (focus (first | with_reducible rfl | (simp only [n0, n1, e, w0, w1, w2, w3, w4, w5, w6, w7, w8, w9, w10, w11, w12, w13, w14, w15, w16] <;> with_reducible rfl))); simp only [envAll_cons, envAll_nil, get_put, get_envOf, get_envL_cons, get_envL_nil, Nat.reduceEqDiff, if_true, if_false, reduceIte, Option.some.injEq, and_self, reduceCtorEq, List.getD_cons_zero, List.getD_cons_succ, Int.cast_ofNat_Int, and_true, true_and, n0, n1, e, w0, w1, w2, w3, w4, w5, w6, w7, w8, w9, w10, w11, w12, w13, w14, w15, w16])
      · repeat (first | simp only [c15_P, c15_odd, Nat.reduceBEq, layInts, layOnes, beq_self_eq_true, bne_self_eq_false, addPure, reduceIte, Nat.reduceEqDiff, reduceCtorEq, ne_eq, not_false_eq_true, not_true_eq_false, and_true, true_and, and_self, if_true, if_false, decide_true, decide_false, decide_eq_true_eq, exA, exA, tabs, exB, buildA, layA, rowPut, rowOr, rowSetAt, rowSet, rowTake, rowDrop, rowCell, rowAgg, mkAgg, AV.size, AV.isAggV, AV.parts, AV.one, AV.solid, headSize, psize, indexAddrA, indexA, fieldAddrA, fieldA, sliceA, boundsA, bndA, lenA, arrayAtA, rowOf, makeSliceA, intsOf, copyA, Nat.reduceAdd, Nat.reduceSub, Nat.reduceMul, Nat.reduceLeDiff, Nat.reduceLT, Nat.reduceGT, Int.reduceToNat, Int.reduceLE, Int.reduceLT, Int.reduceEq, Int.reduceNe, Int.reduceAdd, Int.reduceSub, Int.reduceMul, Int.reduceNeg, ge_iff_le, gt_iff_lt, or_true, true_or, or_false, false_or, not_true, not_false_iff, ite_true, ite_false, dite_true, take_app, take_blakeL, blakeL_len, run_range, c15_pure, c15_news, n10, N32_eq, n9, N31_eq, N58_eq, p9, F61_eq, fourL_len, p8, F74_eq, F75_32, F75_24, F75_16, F75_63, p7, F82_eq, p6, F34_eq, p5, F22_eq, p4, p3, p2, p1, F80_eq, F70_eq, F53_eq, F55_eq, F25_eq, F56_eq, F23_eq, n8, N30_nil, N30_ptr, N28_nil, N28_ptr, hashK_eq, hashR_eq, n7, n6, n5, N57_eq, N27_eq, N20_eq, N21_eq, addNews, allOf, hr, na, n0, n1, oldR_one, rowSet_oldR0, rowSet_oldRs, atK_11, w0, w1, w2, w3, w4, w5, w6, w7, w8, w9, w10, w11, w12, w13, w14, w15, w16] | simp (maxSteps := 1000000) (disch := omega) only [ar_nat, ar_u64, ar_add, ar_sub, ar_mul, ar_div, ar_mod, ar_dec_t, ar_dec_f, ar_beq_t, ar_beq_f, ar_bne_t, ar_bne_f, ar_guard, or_guard, ar_take, ar_take_drop, ar_drop, Int.toNat_natCast, Int.reduceToNat])
        repeat (with_reducible refine And.intro (by first | omega | assumption) ?_)
        have e : atK (oldR (i + 1)) (oldR i) (11 + 1) = [oldR (i + 1) 0, oldR (i + 1) 1, oldR (i + 1) 2, oldR (i + 1) 3, oldR (i + 1) 4, oldR (i + 1) 5, oldR (i + 1) 6, oldR (i + 1) 7, oldR (i + 1) 8, oldR (i + 1) 9, oldR (i + 1) 10, .ptr 3 0 (16 * i + 11), oldR i 12, oldR i 13, oldR i 14, oldR i 15] := by
          have q : rowQ i 11 = 16 * i + 11 := by unfold rowQ; first | rfl | omega
          rw [← q]; rfl
        (refine weak_of ?_ ?_; (focus (first | with_reducible rfl | (simp only [n0, n1, e, w0, w1, w2, w3, w4, w5, w6, w7, w8, w9, w10, w11, w12, w13, w14, w15, w16] <;> with_reducible rfl))); simp only [envAll_cons, envAll_nil, get_put, get_envOf, get_envL_cons, get_envL_nil, Nat.reduceEqDiff, if_true, if_false, reduceIte, Option.some.injEq, and_self, reduceCtorEq, List.getD_cons_zero, List.getD_cons_succ, Int.cast_ofNat_Int, and_true, true_and, n0, n1, e, w0, w1, w2, w3, w4, w5, w6, w7, w8, w9, w10, w11, w12, w13, w14, w15, w16])
      · repeat (first | simp only [c15_P, c15_odd, Nat.reduceBEq, layInts, layOnes, beq_self_eq_true, bne_self_eq_false, addPure, reduceIte, Nat.reduceEqDiff, reduceCtorEq, ne_eq, not_false_eq_true, not_true_eq_false, and_true, true_and, and_self, if_true, if_false, decide_true, decide_false, decide_eq_true_eq, exA, exA, tabs, exB, buildA, layA, rowPut, rowOr, rowSetAt, rowSet, rowTake, rowDrop, rowCell, rowAgg, mkAgg, AV.size, AV.isAggV, AV.parts, AV.one, AV.solid, headSize, psize, indexAddrA, indexA, fieldAddrA, fieldA, sliceA, boundsA, bndA, lenA, arrayAtA, rowOf, makeSliceA, intsOf, copyA, Nat.reduceAdd, Nat.reduceSub, Nat.reduceMul, Nat.reduceLeDiff, Nat.reduceLT, Nat.reduceGT, Int.reduceToNat, Int.reduceLE, Int.reduceLT, Int.reduceEq, Int.reduceNe, Int.reduceAdd, Int.reduceSub, Int.reduceMul, Int.reduceNeg, ge_iff_le, gt_iff_lt, or_true, true_or, or_false, false_or, not_true, not_false_iff, ite_true, ite_false, dite_true, take_app, take_blakeL, blakeL_len, run_range, c15_pure, c15_news, n10, N32_eq, n9, N31_eq, N58_eq, p9, F61_eq, fourL_len, p8, F74_eq, F75_32, F75_24, F75_16, F75_63, p7, F82_eq, p6, F34_eq, p5, F22_eq, p4, p3, p2, p1, F80_eq, F70_eq, F53_eq, F55_eq, F25_eq, F56_eq, F23_eq, n8, N30_nil, N30_ptr, N28_nil, N28_ptr, hashK_eq, hashR_eq, n7, n6, n5, N57_eq, N27_eq, N20_eq, N21_eq, addNews, allOf, hr, na, n0, n1, oldR_one, rowSet_oldR0, rowSet_oldRs, atK_12, w0, w1, w2, w3, w4, w5, w6, w7, w8, w9, w10, w11, w12, w13, w14, w15, w16] | simp (maxSteps := 1000000) (disch := omega) only [ar_nat, ar_u64, ar_add, ar_sub, ar_mul, ar_div, ar_mod, ar_dec_t, ar_dec_f, ar_beq_t, ar_beq_f, ar_bne_t, ar_bne_f, ar_guard, or_guard, ar_take, ar_take_drop, ar_drop, Int.toNat_natCast, Int.reduceToNat])
        repeat (with_reducible refine And.intro (by first | omega | assumption) ?_)
        have e : atK (oldR (i + 1)) (oldR i) (12 + 1) = [oldR (i + 1) 0, oldR (i + 1) 1, oldR (i + 1) 2, oldR (i + 1) 3, oldR (i + 1) 4, oldR (i + 1) 5, oldR (i + 1) 6, oldR (i + 1) 7, oldR (i + 1) 8, oldR (i + 1) 9, oldR (i + 1) 10, oldR (i + 1) 11, .ptr 3 0 (16 * i + 12), oldR i 13, oldR i 14, oldR i 15] := by
          have q : rowQ i 12 = 16 * i + 12 := by unfold rowQ; first | rfl | omega
          rw [← q]; rfl
        (refine weak_of ?_ ?_; (focus (first | with_reducible rfl | (simp only [n0, n1, e, w0, w1, w2, w3, w4, w5, w6, w7, w8, w9, w10, w11, w12, w13, w14, w15, w16] <;> with_reducible rfl))); simp only [envAll_cons, envAll_nil, get_put, get_envOf, get_envL_cons, get_envL_nil, Nat.reduceEqDiff, if_true, if_false, reduceIte, Option.some.injEq, and_self, reduceCtorEq, List.getD_cons_zero, List.getD_cons_succ, Int.cast_ofNat_Int, and_true, true_and, n0, n1, e, w0, w1, w2, w3, w4, w5, w6, w7, w8, w9, w10, w11, w12, w13, w14, w15, w16])
      · repeat (first | simp only [c15_P, c15_odd, Nat.reduceBEq, layInts, layOnes, beq_self_eq_true, bne_self_eq_false, addPure, reduceIte, Nat.reduceEqDiff, reduceCtorEq, ne_eq, not_false_eq_true, not_true_eq_false, and_true, true_and, and_self, if_true, if_false, decide_true, decide_false, decide_eq_true_eq, exA, exA, tabs, exB, buildA, layA, rowPut, rowOr, rowSetAt, rowSet, rowTake, rowDrop, rowCell, rowAgg, mkAgg, AV.size, AV.isAggV, AV.parts, AV.one, AV.solid, headSize, psize, indexAddrA, indexA, fieldAddrA, fieldA, sliceA, boundsA, bndA, lenA, arrayAtA, rowOf, makeSliceA, intsOf, copyA, Nat.reduceAdd, Nat.reduceSub, Nat.reduceMul, Nat.reduceLeDiff, Nat.reduceLT, Nat.reduceGT, Int.reduceToNat, Int.reduceLE, Int.reduceLT, Int.reduceEq, Int.reduceNe, Int.reduceAdd, Int.reduceSub, Int.reduceMul, Int.reduceNeg, ge_iff_le, gt_iff_lt, or_true, true_or, or_false, false_or, not_true, not_false_iff, ite_true, ite_false, dite_true, take_app, take_blakeL, blakeL_len, run_range, c15_pure, c15_news, n10, N32_eq, n9, N31_eq, N58_eq, p9, F61_eq, fourL_len, p8, F74_eq, F75_32, F75_24, F75_16, F75_63, p7, F82_eq, p6, F34_eq, p5, F22_eq, p4, p3, p2, p1, F80_eq, F70_eq, F53_eq, F55_eq, F25_eq, F56_eq, F23_eq, n8, N30_nil, N30_ptr, N28_nil, N28_ptr, hashK_eq, hashR_eq, n7, n6, n5, N57_eq, N27_eq, N20_eq, N21_eq, addNews, allOf, hr, na, n0, n1, oldR_one, rowSet_oldR0, rowSet_oldRs, atK_13, w0, w1, w2, w3, w4, w5, w6, w7, w8, w9, w10, w11, w12, w13, w14, w15, w16] | simp (maxSteps := 1000000) (disch := omega) only [ar_nat, ar_u64, ar_add, ar_sub, ar_mul, ar_div, ar_mod, ar_dec_t, ar_dec_f, ar_beq_t, ar_beq_f, ar_bne_t, ar_bne_f, ar_guard, or_guard, ar_take, ar_take_drop, ar_drop, Int.toNat_natCast, Int.reduceToNat])
        repeat (with_reducible refine And.intro (by first | omega | assumption) ?_)
        have e : atK (oldR (i + 1)) (oldR i) (13 + 1) = [oldR (i + 1) 0, oldR (i + 1) 1, oldR (i + 1) 2, oldR (i + 1) 3, oldR (i + 1) 4, oldR (i + 1) 5, oldR (i + 1) 6, oldR (i + 1) 7, oldR (i + 1) 8, oldR (i + 1) 9, oldR (i + 1) 10, oldR (i + 1) 11, oldR (i + 1) 12, .ptr 3 0 (16 * i + 13), oldR i 14, oldR i 15] := by
          have q : rowQ i 13 = 16 * i + 13 := by unfold rowQ; first | rfl | omega
          rw [← q]; rfl
        (refine weak_of ?_ ?_; (focus (first | with_reducible rfl | (simp only [n0, n1, e, w0, w1, w2, w3, w4, w5, w6, w7, w8, w9, w10, w11, w12, w13, w14, w15, w16] <;> with_reducible rfl))); simp only [envAll_cons, envAll_nil, get_put, get_envOf, get_envL_cons, get_envL_nil, Nat.reduceEqDiff, if_true, if_false, reduceIte, Option.some.injEq, and_self, reduceCtorEq, List.getD_cons_zero, List.getD_cons_succ, Int.cast_ofNat_Int, and_true, true_and, n0, n1, e, w0, w1, w2, w3, w4, w5, w6, w7, w8, w9, w10, w11, w12, w13, w14, w15, w16])
      · repeat (first | simp only [c15_P, c15_odd, Nat.reduceBEq, layInts, layOnes, beq_self_eq_true, bne_self_eq_false, addPure, reduceIte, Nat.reduceEqDiff, reduceCtorEq, ne_eq, not_false_eq_true, not_true_eq_false, and_true, true_and, and_self, if_true, if_false, decide_true, decide_false, decide_eq_true_eq, exA, exA, tabs, exB, buildA, layA, rowPut, rowOr, rowSetAt, rowSet, rowTake, rowDrop, rowCell, rowAgg, mkAgg, AV.size, AV.isAggV, AV.parts, AV.one, AV.solid, headSize, psize, indexAddrA, indexA, fieldAddrA, fieldA, sliceA, boundsA, bndA, lenA, arrayAtA, rowOf, makeSliceA, intsOf, copyA, Nat.reduceAdd, Nat.reduceSub, Nat.reduceMul, Nat.reduceLeDiff, Nat.reduceLT, Nat.reduceGT, Int.reduceToNat, Int.reduceLE, Int.reduceLT, Int.reduceEq, Int.reduceNe, Int.reduceAdd, Int.reduceSub, Int.reduceMul, Int.reduceNeg, ge_iff_le, gt_iff_lt, or_true, true_or, or_false, false_or, not_true, not_false_iff, ite_true, ite_false, dite_true, take_app, take_blakeL, blakeL_len, run_range, c15_pure, c15_news, n10, N32_eq, n9, N31_eq, N58_eq, p9, F61_eq, fourL_len, p8, F74_eq, F75_32, F75_24, F75_16, F75_63, p7, F82_eq, p6, F34_eq, p5, F22_eq, p4, p3, p2, p1, F80_eq, F70_eq, F53_eq, F55_eq, F25_eq, F56_eq, F23_eq, n8, N30_nil, N30_ptr, N28_nil, N28_ptr, hashK_eq, hashR_eq, n7, n6, n5, N57_eq, N27_eq, N20_eq, N21_eq, addNews, allOf, hr, na, n0, n1, oldR_one, rowSet_oldR0, rowSet_oldRs, atK_14, w0, w1, w2, w3, w4, w5, w6, w7, w8, w9, w10, w11, w12, w13, w14, w15, w16] | simp (maxSteps := 1000000) (disch := omega) only [ar_nat, ar_u64, ar_add, ar_sub, ar_mul, ar_div, ar_mod, ar_dec_t, ar_dec_f, ar_beq_t, ar_beq_f, ar_bne_t, ar_bne_f, ar_guard, or_guard, ar_take, ar_take_drop, ar_drop, Int.toNat_natCast, Int.reduceToNat])
        repeat (with_reducible refine And.intro (by first | omega | assumption) ?_)
        have e : atK (oldR (i + 1)) (oldR i) (14 + 1) = [oldR (i + 1) 0, oldR (i + 1) 1, oldR (i + 1) 2, oldR (i + 1) 3, oldR (i + 1) 4, oldR (i + 1) 5, oldR (i + 1) 6, oldR (i + 1) 7, oldR (i + 1) 8, oldR (i + 1) 9, oldR (i + 1) 10, oldR (i + 1) 11, oldR (i + 1) 12, oldR (i + 1) 13, .ptr 3 0 (16 * i + 14), oldR i 15] := by
          have q : rowQ i 14 = 16 * i + 14 := by unfold rowQ; first | rfl | omega
          rw [← q]; rfl
        (refine weak_of ?_ ?_; (focus (first | with_reducible rfl | (simp only [n0, n1, e, w0, w1, w2, w3, w4, w5, w6, w7, w8, w9, w10, w11, w12, w13, w14, w15, w16] <;> with_reducible rfl))); simp only [envAll_cons, envAll_nil, get_put, get_envOf, get_envL_cons, get_envL_nil, Nat.reduceEqDiff, if_true, if_false, reduceIte, Option.some.injEq, and_self, reduceCtorEq, List.getD_cons_zero, List.getD_cons_succ, Int.cast_ofNat_Int, and_true, true_and, n0, n1, e, w0, w1, w2, w3, w4, w5, w6, w7, w8, w9, w10, w11, w12, w13, w14, w15, w16])
      · repeat (first | simp only [c15_P, c15_odd, Nat.reduceBEq, layInts, layOnes, beq_self_eq_true, bne_self_eq_false, addPure, reduceIte, Nat.reduceEqDiff, reduceCtorEq, ne_eq, not_false_eq_true, not_true_eq_false, and_true, true_and, and_self, if_true, if_false, decide_true, decide_false, decide_eq_true_eq, exA, exA, tabs, exB, buildA, layA, rowPut, rowOr, rowSetAt, rowSet, rowTake, rowDrop, rowCell, rowAgg, mkAgg, AV.size, AV.isAggV, AV.parts, AV.one, AV.solid, headSize, psize, indexAddrA, indexA, fieldAddrA, fieldA, sliceA, boundsA, bndA, lenA, arrayAtA, rowOf, makeSliceA, intsOf, copyA, Nat.reduceAdd, Nat.reduceSub, Nat.reduceMul, Nat.reduceLeDiff, Nat.reduceLT, Nat.reduceGT, Int.reduceToNat, Int.reduceLE, Int.reduceLT, Int.reduceEq, Int.reduceNe, Int.reduceAdd, Int.reduceSub, Int.reduceMul, Int.reduceNeg, ge_iff_le, gt_iff_lt, or_true, true_or, or_false, false_or, not_true, not_false_iff, ite_true, ite_false, dite_true, take_app, take_blakeL, blakeL_len, run_range, c15_pure, c15_news, n10, N32_eq, n9, N31_eq, N58_eq, p9, F61_eq, fourL_len, p8, F74_eq, F75_32, F75_24, F75_16, F75_63, p7, F82_eq, p6, F34_eq, p5, F22_eq, p4, p3, p2, p1, F80_eq, F70_eq, F53_eq, F55_eq, F25_eq, F56_eq, F23_eq, n8, N30_nil, N30_ptr, N28_nil, N28_ptr, hashK_eq, hashR_eq, n7, n6, n5, N57_eq, N27_eq, N20_eq, N21_eq, addNews, allOf, hr, na, n0, n1, oldR_one, rowSet_oldR0, rowSet_oldRs, atK_15, w0, w1, w2, w3, w4, w5, w6, w7, w8, w9, w10, w11, w12, w13, w14, w15, w16] | simp (maxSteps := 1000000) (disch := omega) only [ar_nat, ar_u64, ar_add, ar_sub, ar_mul, ar_div, ar_mod, ar_dec_t, ar_dec_f, ar_beq_t, ar_beq_f, ar_bne_t, ar_bne_f, ar_guard, or_guard, ar_take, ar_take_drop, ar_drop, Int.toNat_natCast, Int.reduceToNat])
        repeat (with_reducible refine And.intro (by first | omega | assumption) ?_)
        have e : atK (oldR (i + 1)) (oldR i) (15 + 1) = [oldR (i + 1) 0, oldR (i + 1) 1, oldR (i + 1) 2, oldR (i + 1) 3, oldR (i + 1) 4, oldR (i + 1) 5, oldR (i + 1) 6, oldR (i + 1) 7, oldR (i + 1) 8, oldR (i + 1) 9, oldR (i + 1) 10, oldR (i + 1) 11, oldR (i + 1) 12, oldR (i + 1) 13, oldR (i + 1) 14, .ptr 3 0 (16 * i + 15)] := by
          have q : rowQ i 15 = 16 * i + 15 := by unfold rowQ; first | rfl | omega
          rw [← q]; rfl
        (refine weak_of ?_ ?_; (focus (first | with_reducible rfl | (simp only [n0, n1, e, w0, w1, w2, w3, w4, w5, w6, w7, w8, w9, w10, w11, w12, w13, w14, w15, w16] <;> with_reducible rfl))); simp only [envAll_cons, envAll_nil, get_put, get_envOf, get_envL_cons, get_envL_nil, Nat.reduceEqDiff, if_true, if_false, reduceIte, Option.some.injEq, and_self, reduceCtorEq, List.getD_cons_zero, List.getD_cons_succ, Int.cast_ofNat_Int, and_true, true_and, n0, n1, e, w0, w1, w2, w3, w4, w5, w6, w7, w8, w9, w10, w11, w12, w13, w14, w15, w16])
    · repeat (first | simp only [c15_P, c15_odd, Nat.reduceBEq, layInts, layOnes, beq_self_eq_true, bne_self_eq_false, addPure, reduceIte, Nat.reduceEqDiff, reduceCtorEq, ne_eq, not_false_eq_true, not_true_eq_false, and_true, true_and, and_self, if_true, if_false, decide_true, decide_false, decide_eq_true_eq, exA, exA, tabs, exB, buildA, layA, rowPut, rowOr, rowSetAt, rowSet, rowTake, rowDrop, rowCell, rowAgg, mkAgg, AV.size, AV.isAggV, AV.parts, AV.one, AV.solid, headSize, psize, indexAddrA, indexA, fieldAddrA, fieldA, sliceA, boundsA, bndA, lenA, arrayAtA, rowOf, makeSliceA, intsOf, copyA, Nat.reduceAdd, Nat.reduceSub, Nat.reduceMul, Nat.reduceLeDiff, Nat.reduceLT, Nat.reduceGT, Int.reduceToNat, Int.reduceLE, Int.reduceLT, Int.reduceEq, Int.reduceNe, Int.reduceAdd, Int.reduceSub, Int.reduceMul, Int.reduceNeg, ge_iff_le, gt_iff_lt, or_true, true_or, or_false, false_or, not_true, not_false_iff, ite_true, ite_false, dite_true, take_app, take_blakeL, blakeL_len, run_range, c15_pure, c15_news, n10, N32_eq, n9, N31_eq, N58_eq, p9, F61_eq, fourL_len, p8, F74_eq, F75_32, F75_24, F75_16, F75_63, p7, F82_eq, p6, F34_eq, p5, F22_eq, p4, p3, p2, p1, F80_eq, F70_eq, F53_eq, F55_eq, F25_eq, F56_eq, F23_eq, n8, N30_nil, N30_ptr, N28_nil, N28_ptr, hashK_eq, hashR_eq, n7, n6, n5, N57_eq, N27_eq, N20_eq, N21_eq, addNews, allOf, hr, na, n0, n1, w0, w1, w2, w3, w4, w5, w6, w7, w8, w9, w10, w11, w12, w13, w14, w15, w16] | simp (maxSteps := 1000000) (disch := omega) only [ar_nat, ar_u64, ar_add, ar_sub, ar_mul, ar_div, ar_mod, ar_dec_t, ar_dec_f, ar_beq_t, ar_beq_f, ar_bne_t, ar_bne_f, ar_guard, or_guard, ar_take, ar_take_drop, ar_drop, Int.toNat_natCast, Int.reduceToNat])
      refine callC_fr [4, 3] (all_spec 128 (stirK rowQ r i) (rowQ i) (by intro j hj; unfold rowQ; omega)) rfl rfl (by decide) ?_
      rintro _ _ ⟨rfl, rfl⟩
      repeat (first | simp only [c15_P, c15_odd, Nat.reduceBEq, layInts, layOnes, beq_self_eq_true, bne_self_eq_false, addPure, reduceIte, Nat.reduceEqDiff, reduceCtorEq, ne_eq, not_false_eq_true, not_true_eq_false, and_true, true_and, and_self, if_true, if_false, decide_true, decide_false, decide_eq_true_eq, exA, exA, tabs, exB, buildA, layA, rowPut, rowOr, rowSetAt, rowSet, rowTake, rowDrop, rowCell, rowAgg, mkAgg, AV.size, AV.isAggV, AV.parts, AV.one, AV.solid, headSize, psize, indexAddrA, indexA, fieldAddrA, fieldA, sliceA, boundsA, bndA, lenA, arrayAtA, rowOf, makeSliceA, intsOf, copyA, Nat.reduceAdd, Nat.reduceSub, Nat.reduceMul, Nat.reduceLeDiff, Nat.reduceLT, Nat.reduceGT, Int.reduceToNat, Int.reduceLE, Int.reduceLT, Int.reduceEq, Int.reduceNe, Int.reduceAdd, Int.reduceSub, Int.reduceMul, Int.reduceNeg, ge_iff_le, gt_iff_lt, or_true, true_or, or_false, false_or, not_true, not_false_iff, ite_true, ite_false, dite_true, take_app, take_blakeL, blakeL_len, run_range, c15_pure, c15_news, n10, N32_eq, n9, N31_eq, N58_eq, p9, F61_eq, fourL_len, p8, F74_eq, F75_32, F75_24, F75_16, F75_63, p7, F82_eq, p6, F34_eq, p5, F22_eq, p4, p3, p2, p1, F80_eq, F70_eq, F53_eq, F55_eq, F25_eq, F56_eq, F23_eq, n8, N30_nil, N30_ptr, N28_nil, N28_ptr, hashK_eq, hashR_eq, n7, n6, n5, N57_eq, N27_eq, N20_eq, N21_eq, addNews, allOf, hr, na, overwrite, renB, renL, AV.ren, frameMap, n0, n1] | simp (maxSteps := 1000000) (disch := omega) only [ar_nat, ar_u64, ar_add, ar_sub, ar_mul, ar_div, ar_mod, ar_dec_t, ar_dec_f, ar_beq_t, ar_beq_f, ar_bne_t, ar_bne_f, ar_guard, or_guard, ar_take, ar_take_drop, ar_drop, Int.toNat_natCast, Int.reduceToNat])
      have e : renL (frameMap [4, 3] 5) (ptr16 1 (rowQ i)) = atK (oldR (i + 1)) (oldR (i + 1)) 0 := rfl
      (refine weak_of ?_ ?_; (focus (first | with_reducible rfl | (simp only [n0, n1, stirK, e] <;> with_reducible rfl))); simp only [envAll_cons, envAll_nil, get_put, get_envOf, get_envL_cons, get_envL_nil, Nat.reduceEqDiff, if_true, if_false, reduceIte, Option.some.injEq, and_self, reduceCtorEq, List.getD_cons_zero, List.getD_cons_succ, Int.cast_ofNat_Int, and_true, true_and, n0, n1, stirK, e])

  have h2l : (stirK rowQ r 8).length = 128 := by rw [stirK_len, rl]
  repeat (first | simp only [c15_P, c15_odd, Nat.reduceBEq, layInts, layOnes, beq_self_eq_true, bne_self_eq_false, addPure, reduceIte, Nat.reduceEqDiff, reduceCtorEq, ne_eq, not_false_eq_true, not_true_eq_false, and_true, true_and, and_self, if_true, if_false, decide_true, decide_false, decide_eq_true_eq, exA, exA, tabs, exB, buildA, layA, rowPut, rowOr, rowSetAt, rowSet, rowTake, rowDrop, rowCell, rowAgg, mkAgg, AV.size, AV.isAggV, AV.parts, AV.one, AV.solid, headSize, psize, indexAddrA, indexA, fieldAddrA, fieldA, sliceA, boundsA, bndA, lenA, arrayAtA, rowOf, makeSliceA, intsOf, copyA, Nat.reduceAdd, Nat.reduceSub, Nat.reduceMul, Nat.reduceLeDiff, Nat.reduceLT, Nat.reduceGT, Int.reduceToNat, Int.reduceLE, Int.reduceLT, Int.reduceEq, Int.reduceNe, Int.reduceAdd, Int.reduceSub, Int.reduceMul, Int.reduceNeg, ge_iff_le, gt_iff_lt, or_true, true_or, or_false, false_or, not_true, not_false_iff, ite_true, ite_false, dite_true, take_app, take_blakeL, blakeL_len, run_range, c15_pure, c15_news, n10, N32_eq, n9, N31_eq, N58_eq, p9, F61_eq, fourL_len, p8, F74_eq, F75_32, F75_24, F75_16, F75_63, p7, F82_eq, p6, F34_eq, p5, F22_eq, p4, p3, p2, p1, F80_eq, F70_eq, F53_eq, F55_eq, F25_eq, F56_eq, F23_eq, n8, N30_nil, N30_ptr, N28_nil, N28_ptr, hashK_eq, hashR_eq, n7, n6, n5, N57_eq, N27_eq, N20_eq, N21_eq, addNews, allOf, hr, na] | simp (maxSteps := 1000000) (disch := omega) only [ar_nat, ar_u64, ar_add, ar_sub, ar_mul, ar_div, ar_mod, ar_dec_t, ar_dec_f, ar_beq_t, ar_beq_f, ar_bne_t, ar_bne_f, ar_guard, or_guard, ar_take, ar_take_drop, ar_drop, Int.toNat_natCast, Int.reduceToNat])
  have hR : pagesR r = xorK (stirK colQ (stirK rowQ r 8) 8) r 128 := rfl
  rw [hR]
  generalize stirK rowQ r 8 = z at h2l ⊢
  have zl : z.length = 128 := h2l
  refine loop_count (good15 0) (fun i => ⟨envL [(2, .ptr 0 0 0), (4, .ptr 2 0 0), (6, .ptr 3 0 0), (7, .ptr 4 0 0), (42, .v (.int .i64 i))], [some [.arr 128 .u64 r], some [.arr 128 .u64 y], some [.arr 128 .u64 (List.replicate 128 0)], some [.arr 128 .u64 (stirK colQ z i)], some (atK (oldC i) (oldC i) 0)]⟩) 8 (by kernel_rfl) ?_ ?_ ?_
  · have e : atK (oldR 8) (oldR 8) 0 = atK (oldC 0) (oldC 0) 0 := rfl
    (refine weak_of ?_ ?_; (focus (first | with_reducible rfl | (simp only [stirK, n0, e] <;> with_reducible rfl))); simp only [envAll_cons, envAll_nil, get_put, get_envOf, get_envL_cons, get_envL_nil, Nat.reduceEqDiff, if_true, if_false, reduceIte, Option.some.injEq, and_self, reduceCtorEq, List.getD_cons_zero, List.getD_cons_succ, Int.cast_ofNat_Int, and_true, true_and, stirK, n0, e])
  · intro i hi
    have hz := stirK_len colQ z i
    rw [zl] at hz
    repeat (first | simp only [c15_P, c15_odd, Nat.reduceBEq, layInts, layOnes, beq_self_eq_true, bne_self_eq_false, addPure, reduceIte, Nat.reduceEqDiff, reduceCtorEq, ne_eq, not_false_eq_true, not_true_eq_false, and_true, true_and, and_self, if_true, if_false, decide_true, decide_false, decide_eq_true_eq, exA, exA, tabs, exB, buildA, layA, rowPut, rowOr, rowSetAt, rowSet, rowTake, rowDrop, rowCell, rowAgg, mkAgg, AV.size, AV.isAggV, AV.parts, AV.one, AV.solid, headSize, psize, indexAddrA, indexA, fieldAddrA, fieldA, sliceA, boundsA, bndA, lenA, arrayAtA, rowOf, makeSliceA, intsOf, copyA, Nat.reduceAdd, Nat.reduceSub, Nat.reduceMul, Nat.reduceLeDiff, Nat.reduceLT, Nat.reduceGT, Int.reduceToNat, Int.reduceLE, Int.reduceLT, Int.reduceEq, Int.reduceNe, Int.reduceAdd, Int.reduceSub, Int.reduceMul, Int.reduceNeg, ge_iff_le, gt_iff_lt, or_true, true_or, or_false, false_or, not_true, not_false_iff, ite_true, ite_false, dite_true, take_app, take_blakeL, blakeL_len, run_range, c15_pure, c15_news, n10, N32_eq, n9, N31_eq, N58_eq, p9, F61_eq, fourL_len, p8, F74_eq, F75_32, F75_24, F75_16, F75_63, p7, F82_eq, p6, F34_eq, p5, F22_eq, p4, p3, p2, p1, F80_eq, F70_eq, F53_eq, F55_eq, F25_eq, F56_eq, F23_eq, n8, N30_nil, N30_ptr, N28_nil, N28_ptr, hashK_eq, hashR_eq, n7, n6, n5, N57_eq, N27_eq, N20_eq, N21_eq, addNews, allOf, hr, na] | simp (maxSteps := 1000000) (disch := omega) only [ar_nat, ar_u64, ar_add, ar_sub, ar_mul, ar_div, ar_mod, ar_dec_t, ar_dec_f, ar_beq_t, ar_beq_f, ar_bne_t, ar_bne_f, ar_guard, or_guard, ar_take, ar_take_drop, ar_drop, Int.toNat_natCast, Int.reduceToNat])
    refine loop_count (good15 0) (fun k => ⟨envL [(2, .ptr 0 0 0), (4, .ptr 2 0 0), (6, .ptr 3 0 0), (7, .ptr 4 0 0), (10, .v (.int .i64 i)), (42, .v (.int .i64 i)), (45, .v (.int .i64 k))], [some [.arr 128 .u64 r], some [.arr 128 .u64 y], some [.arr 128 .u64 (List.replicate 128 0)], some [.arr 128 .u64 (stirK colQ z i)], some (atK (oldC (i + 1)) (oldC i) k)]⟩) 16 (by kernel_rfl) ?_ ?_ ?_
    · have e : atK (oldC i) (oldC i) 0 = atK (oldC (i + 1)) (oldC i) 0 := rfl
      (refine weak_of ?_ ?_; (focus (first | with_reducible rfl | (simp only [e, n0] <;> with_reducible rfl))); simp only [envAll_cons, envAll_nil, get_put, get_envOf, get_envL_cons, get_envL_nil, Nat.reduceEqDiff, if_true, if_false, reduceIte, Option.some.injEq, and_self, reduceCtorEq, List.getD_cons_zero, List.getD_cons_succ, Int.cast_ofNat_Int, and_true, true_and, e, n0])
    · intro k hk
      rcases (by omega : k = 0 ∨ k = 1 ∨ k = 2 ∨ k = 3 ∨ k = 4 ∨ k = 5 ∨ k = 6 ∨ k = 7 ∨ k = 8 ∨ k = 9 ∨ k = 10 ∨ k = 11 ∨ k = 12 ∨ k = 13 ∨ k = 14 ∨ k = 15) with rfl | rfl | rfl | rfl | rfl | rfl | rfl | rfl | rfl | rfl | rfl | rfl | rfl | rfl | rfl | rfl
      · repeat (first | simp only [c15_P, c15_odd, Nat.reduceBEq, layInts, layOnes, beq_self_eq_true, bne_self_eq_false, addPure, reduceIte, Nat.reduceEqDiff, reduceCtorEq, ne_eq, not_false_eq_true, not_true_eq_false, and_true, true_and, and_self, if_true, if_false, decide_true, decide_false, decide_eq_true_eq, exA, exA, tabs, exB, buildA, layA, rowPut, rowOr, rowSetAt, rowSet, rowTake, rowDrop, rowCell, rowAgg, mkAgg, AV.size, AV.isAggV, AV.parts, AV.one, AV.solid, headSize, psize, indexAddrA, indexA, fieldAddrA, fieldA, sliceA, boundsA, bndA, lenA, arrayAtA, rowOf, makeSliceA, intsOf, copyA, Nat.reduceAdd, Nat.reduceSub, Nat.reduceMul, Nat.reduceLeDiff, Nat.reduceLT, Nat.reduceGT, Int.reduceToNat, Int.reduceLE, Int.reduceLT, Int.reduceEq, Int.reduceNe, Int.reduceAdd, Int.reduceSub, Int.reduceMul, Int.reduceNeg, ge_iff_le, gt_iff_lt, or_true, true_or, or_false, false_or, not_true, not_false_iff, ite_true, ite_false, dite_true, take_app, take_blakeL, blakeL_len, run_range, c15_pure, c15_news, n10, N32_eq, n9, N31_eq, N58_eq, p9, F61_eq, fourL_len, p8, F74_eq, F75_32, F75_24, F75_16, F75_63, p7, F82_eq, p6, F34_eq, p5, F22_eq, p4, p3, p2, p1, F80_eq, F70_eq, F53_eq, F55_eq, F25_eq, F56_eq, F23_eq, n8, N30_nil, N30_ptr, N28_nil, N28_ptr, hashK_eq, hashR_eq, n7, n6, n5, N57_eq, N27_eq, N20_eq, N21_eq, addNews, allOf, hr, na, n0, n1, oldC_one, rowSet_oldC0, rowSet_oldCs, atK_0, w0, w1, w2, w3, w4, w5, w6, w7, w8, w9, w10, w11, w12, w13, w14, w15, w16] | simp (maxSteps := 1000000) (disch := omega) only [ar_nat, ar_u64, ar_add, ar_sub, ar_mul, ar_div, ar_mod, ar_dec_t, ar_dec_f, ar_beq_t, ar_beq_f, ar_bne_t, ar_bne_f, ar_guard, or_guard, ar_take, ar_take_drop, ar_drop, Int.toNat_natCast, Int.reduceToNat])
        repeat (with_reducible refine And.intro (by first | omega | assumption) ?_)
        have e : atK (oldC (i + 1)) (oldC i) (0 + 1) = [.ptr 3 0 (16 * (0 / 2) + 2 * i + 0 % 2), oldC i 1, oldC i 2, oldC i 3, oldC i 4, oldC i 5, oldC i 6, oldC i 7, oldC i 8, oldC i 9, oldC i 10, oldC i 11, oldC i 12, oldC i 13, oldC i 14, oldC i 15] := by
          have q : colQ i 0 = 16 * (0 / 2) + 2 * i + 0 % 2 := by unfold colQ; first | rfl | omega
          rw [← q]; rfl
        (refine weak_of ?_ ?_; (focus (first | with_reducible rfl | (simp only [n0, n1, e, w0, w1, w2, w3, w4, w5, w6, w7, w8, w9, w10, w11, w12, w13, w14, w15, w16] <;> with_reducible rfl))); simp only [envAll_cons, envAll_nil, get_put, get_envOf, get_envL_cons, get_envL_nil, Nat.reduceEqDiff, if_true, if_false, reduceIte, Option.some.injEq, and_self, reduceCtorEq, List.getD_cons_zero, List.getD_cons_succ, Int.cast_ofNat_Int, and_true, true_and, n0, n1, e, w0, w1, w2, w3, w4, w5, w6, w7, w8, w9, w10, w11, w12, w13, w14, w15, w16])
      · repeat (first | simp only [c15_P, c15_odd, Nat.reduceBEq, layInts, layOnes, beq_self_eq_true, bne_self_eq_false, addPure, reduceIte, Nat.reduceEqDiff, reduceCtorEq, ne_eq, not_false_eq_true, not_true_eq_false, and_true, true_and, and_self, if_true, if_false, decide_true, decide_false, decide_eq_true_eq, exA, exA, tabs, exB, buildA, layA, rowPut, rowOr, rowSetAt, rowSet, rowTake, rowDrop, rowCell, rowAgg, mkAgg, AV.size, AV.isAggV, AV.parts, AV.one, AV.solid, headSize, psize, indexAddrA, indexA, fieldAddrA, fieldA, sliceA, boundsA, bndA, lenA, arrayAtA, rowOf, makeSliceA, intsOf, copyA, Nat.reduceAdd, Nat.reduceSub, Nat.reduceMul, Nat.reduceLeDiff, Nat.reduceLT, Nat.reduceGT, Int.reduceToNat, Int.reduceLE, Int.reduceLT, Int.reduceEq, Int.reduceNe, Int.reduceAdd, Int.reduceSub, Int.reduceMul, Int.reduceNeg, ge_iff_le, gt_iff_lt, or_true, true_or, or_false, false_or, not_true, not_false_iff, ite_true, ite_false, dite_true, take_app, take_blakeL, blakeL_len, run_range, c15_pure, c15_news, n10, N32_eq, n9, N31_eq, N58_eq, p9, F61_eq, fourL_len, p8, F74_eq, F75_32, F75_24, F75_16, F75_63, p7, F82_eq, p6, F34_eq, p5, F22_eq, p4, p3, p2, p1, F80_eq, F70_eq, F53_eq, F55_eq, F25_eq, F56_eq, F23_eq, n8, N30_nil, N30_ptr, N28_nil, N28_ptr, hashK_eq, hashR_eq, n7, n6, n5, N57_eq, N27_eq, N20_eq, N21_eq, addNews, allOf, hr, na, n0, n1, oldC_one, rowSet_oldC0, rowSet_oldCs, atK_1, w0, w1, w2, w3, w4, w5, w6, w7, w8, w9, w10, w11, w12, w13, w14, w15, w16] | simp (maxSteps := 1000000) (disch := omega) only [ar_nat, ar_u64, ar_add, ar_sub, ar_mul, ar_div, ar_mod, ar_dec_t, ar_dec_f, ar_beq_t, ar_beq_f, ar_bne_t, ar_bne_f, ar_guard, or_guard, ar_take, ar_take_drop, ar_drop, Int.toNat_natCast, Int.reduceToNat])
        repeat (with_reducible refine And.intro (by first | omega | assumption) ?_)
        have e : atK (oldC (i + 1)) (oldC i) (1 + 1) = [oldC (i + 1) 0, .ptr 3 0 (16 * (1 / 2) + 2 * i + 1 % 2), oldC i 2, oldC i 3, oldC i 4, oldC i 5, oldC i 6, oldC i 7, oldC i 8, oldC i 9, oldC i 10, oldC i 11, oldC i 12, oldC i 13, oldC i 14, oldC i 15] := by
          have q : colQ i 1 = 16 * (1 / 2) + 2 * i + 1 % 2 := by unfold colQ; first | rfl | omega
          rw [← q]; rfl
        (refine weak_of ?_ ?_; (focus (first | with_reducible rfl | (simp only [n0, n1, e, w0, w1, w2, w3, w4, w5, w6, w7, w8, w9, w10, w11, w12, w13, w14, w15, w16] <;> with_reducible rfl))); simp only [envAll_cons, envAll_nil, get_put, get_envOf, get_envL_cons, get_envL_nil, Nat.reduceEqDiff, if_true, if_false, reduceIte, Option.some.injEq, and_self, reduceCtorEq, List.getD_cons_zero, List.getD_cons_succ, Int.cast_ofNat_Int, and_true, true_and, n0, n1, e, w0, w1, w2, w3, w4, w5, w6, w7, w8, w9, w10, w11, w12, w13, w14, w15, w16])
      · repeat (first | simp only [c15_P, c15_odd, Nat.reduceBEq, layInts, layOnes, beq_self_eq_true, bne_self_eq_false, addPure, reduceIte, Nat.reduceEqDiff, reduceCtorEq, ne_eq, not_false_eq_true, not_true_eq_false, and_true, true_and, and_self, if_true, if_false, decide_true, decide_false, decide_eq_true_eq, exA, exA, tabs, exB, buildA, layA, rowPut, rowOr, rowSetAt, rowSet, rowTake, rowDrop, rowCell, rowAgg, mkAgg, AV.size, AV.isAggV, AV.parts, AV.one, AV.solid, headSize, psize, indexAddrA, indexA, fieldAddrA, fieldA, sliceA, boundsA, bndA, lenA, arrayAtA, rowOf, makeSliceA, intsOf, copyA, Nat.reduceAdd, Nat.reduceSub, Nat.reduceMul, Nat.reduceLeDiff, Nat.reduceLT, Nat.reduceGT, Int.reduceToNat, Int.reduceLE, Int.reduceLT, Int.reduceEq, Int.reduceNe, Int.reduceAdd, Int.reduceSub, Int.reduceMul, Int.reduceNeg, ge_iff_le, gt_iff_lt, or_true, true_or, or_false, false_or, not_true, not_false_iff, ite_true, ite_false, dite_true, take_app, take_blakeL, blakeL_len, run_range, c15_pure, c15_news, n10, N32_eq, n9, N31_eq, N58_eq, p9, F61_eq, fourL_len, p8, F74_eq, F75_32, F75_24, F75_16, F75_63, p7, F82_eq, p6, F34_eq, p5, F22_eq, p4, p3, p2, p1, F80_eq, F70_eq, F53_eq, F55_eq, F25_eq, F56_eq, F23_eq, n8, N30_nil, N30_ptr, N28_nil, N28_ptr, hashK_eq, hashR_eq, n7, n6, n5, N57_eq, N27_eq, N20_eq, N21_eq, addNews, allOf, hr, na, n0, n1, oldC_one, rowSet_oldC0, rowSet_oldCs, atK_2, w0, w1, w2, w3, w4, w5, w6, w7, w8, w9, w10, w11, w12, w13, w14, w15, w16] | simp (maxSteps := 1000000) (disch := omega) only [ar_nat, ar_u64, ar_add, ar_sub, ar_mul, ar_div, ar_mod, ar_dec_t, ar_dec_f, ar_beq_t, ar_beq_f, ar_bne_t, ar_bne_f, ar_guard, or_guard, ar_take, ar_take_drop, ar_drop, Int.toNat_natCast, Int.reduceToNat])
        repeat (with_reducible refine And.intro (by first | omega | assumption) ?_)
        have e : atK (oldC (i + 1)) (oldC i) (2 + 1) = [oldC (i + 1) 0, oldC (i + 1) 1, .ptr 3 0 (16 * (2 / 2) + 2 * i + 2 % 2), oldC i 3, oldC i 4, oldC i 5, oldC i 6, oldC i 7, oldC i 8, oldC i 9, oldC i 10, oldC i 11, oldC i 12, oldC i 13, oldC i 14, oldC i 15] := by
          have q : colQ i 2 = 16 * (2 / 2) + 2 * i + 2 % 2 := by unfold colQ; first | rfl | omega
          rw [← q]; rfl
        (refine weak_of ?_ ?_; (focus (first | with_reducible rfl | (simp only [n0, n1, e, w0, w1, w2, w3, w4, w5, w6, w7, w8, w9, w10, w11, w12, w13, w14, w15, w16] <;> with_reducible rfl))); simp only [envAll_cons, envAll_nil, get_put, get_envOf, get_envL_cons, get_envL_nil, Nat.reduceEqDiff, if_true, if_false, reduceIte, Option.some.injEq, and_self, reduceCtorEq, List.getD_cons_zero, List.getD_cons_succ, Int.cast_ofNat_Int, and_true, true_and, n0, n1, e, w0, w1, w2, w3, w4, w5, w6, w7, w8, w9, w10, w11, w12, w13, w14, w15, w16])
      · repeat (first | simp only [c15_P, c15_odd, Nat.reduceBEq, layInts, layOnes, beq_self_eq_true, bne_self_eq_false, addPure, reduceIte, Nat.reduceEqDiff, reduceCtorEq, ne_eq, not_false_eq_true, not_true_eq_false, and_true, true_and, and_self, if_true, if_false, decide_true, decide_false, decide_eq_true_eq, exA, exA, tabs, exB, buildA, layA, rowPut, rowOr, rowSetAt, rowSet, rowTake, rowDrop, rowCell, rowAgg, mkAgg, AV.size, AV.isAggV, AV.parts, AV.one, AV.solid, headSize, psize, indexAddrA, indexA, fieldAddrA, fieldA, sliceA, boundsA, bndA, lenA, arrayAtA, rowOf, makeSliceA, intsOf, copyA, Nat.reduceAdd, Nat.reduceSub, Nat.reduceMul, Nat.reduceLeDiff, Nat.reduceLT, Nat.reduceGT, Int.reduceToNat, Int.reduceLE, Int.reduceLT, Int.reduceEq, Int.reduceNe, Int.reduceAdd, Int.reduceSub, Int.reduceMul, Int.reduceNeg, ge_iff_le, gt_iff_lt, or_true, true_or, or_false, false_or, not_true, not_false_iff, ite_true, ite_false, dite_true, take_app, take_blakeL, blakeL_len, run_range, c15_pure, c15_news, n10, N32_eq, n9, N31_eq, N58_eq, p9, F61_eq, fourL_len, p8, F74_eq, F75_32, F75_24, F75_16, F75_63, p7, F82_eq, p6, F34_eq, p5, F22_eq, p4, p3, p2, p1, F80_eq, F70_eq, F53_eq, F55_eq, F25_eq, F56_eq, F23_eq, n8, N30_nil, N30_ptr, N28_nil, N28_ptr, hashK_eq, hashR_eq, n7, n6, n5, N57_eq, N27_eq, N20_eq, N21_eq, addNews, allOf, hr, na, n0, n1, oldC_one, rowSet_oldC0, rowSet_oldCs, atK_3, w0, w1, w2, w3, w4, w5, w6, w7, w8, w9, w10, w11, w12, w13, w14, w15, w16] | simp (maxSteps := 1000000) (disch := omega) only [ar_nat, ar_u64, ar_add, ar_sub, ar_mul, ar_div, ar_mod, ar_dec_t, ar_dec_f, ar_beq_t, ar_beq_f, ar_bne_t, ar_bne_f, ar_guard, or_guard, ar_take, ar_take_drop, ar_drop, Int.toNat_natCast, Int.reduceToNat])
        repeat (with_reducible refine And.intro (by first | omega | assumption) ?_)
        have e : atK (oldC (i + 1)) (oldC i) (3 + 1) = [oldC (i + 1) 0, oldC (i + 1) 1, oldC (i + 1) 2, .ptr 3 0 (16 * (3 / 2) + 2 * i + 3 % 2), oldC i 4, oldC i 5, oldC i 6, oldC i 7, oldC i 8, oldC i 9, oldC i 10, oldC i 11, oldC i 12, oldC i 13, oldC i 14, oldC i 15] := by
          have q : colQ i 3 = 16 * (3 / 2) + 2 * i + 3 % 2 := by unfold colQ; first | rfl | omega
          rw [← q]; rfl
        (refine weak_of ?_ ?_; (focus (first | with_reducible rfl | (simp only [n0, n1, e, w0, w1, w2, w3, w4, w5, w6, w7, w8, w9, w10, w11, w12, w13, w14, w15, w16] <;> with_reducible rfl))); simp only [envAll_cons, envAll_nil, get_put, get_envOf, get_envL_cons, get_envL_nil, Nat.reduceEqDiff, if_true, if_false, reduceIte, Option.some.injEq, and_self, reduceCtorEq, List.getD_cons_zero, List.getD_cons_succ, Int.cast_ofNat_Int, and_true, true_and, n0, n1, e, w0, w1, w2, w3, w4, w5, w6, w7, w8, w9, w10, w11, w12, w13, w14, w15, w16])
      · repeat (first | simp only [c15_P, c15_odd, Nat.reduceBEq, layInts, layOnes, beq_self_eq_true, bne_self_eq_false, addPure, reduceIte, Nat.reduceEqDiff, reduceCtorEq, ne_eq, not_false_eq_true, not_true_eq_false, and_true, true_and, and_self, if_true, if_false, decide_true, decide_false, decide_eq_true_eq, exA, exA, tabs, exB, buildA, layA, rowPut, rowOr, rowSetAt, rowSet, rowTake, rowDrop, rowCell, rowAgg, mkAgg, AV.size, AV.isAggV, AV.parts, AV.one, AV.solid, headSize, psize, indexAddrA, indexA, fieldAddrA, fieldA, sliceA, boundsA, bndA, lenA, arrayAtA, rowOf, makeSliceA, intsOf, copyA, Nat.reduceAdd, Nat.reduceSub, Nat.reduceMul, Nat.reduceLeDiff, Nat.reduceLT, Nat.reduceGT, Int.reduceToNat, Int.reduceLE, Int.reduceLT, Int.reduceEq, Int.reduceNe, Int.reduceAdd, Int.reduceSub, Int.reduceMul, Int.reduceNeg, ge_iff_le, gt_iff_lt, or_true, true_or, or_false, false_or, not_true, not_false_iff, ite_true, ite_false, dite_true, take_app, take_blakeL, blakeL_len, run_range, c15_pure, c15_news, n10, N32_eq, n9, N31_eq, N58_eq, p9, F61_eq, fourL_len, p8, F74_eq, F75_32, F75_24, F75_16, F75_63, p7, F82_eq, p6, F34_eq, p5, F22_eq, p4, p3, p2, p1, F80_eq, F70_eq, F53_eq, F55_eq, F25_eq, F56_eq, F23_eq, n8, N30_nil, N30_ptr, N28_nil, N28_ptr, hashK_eq, hashR_eq, n7, n6, n5, N57_eq, N27_eq, N20_eq, N21_eq, addNews, allOf, hr, na, n0, n1, oldC_one, rowSet_oldC0, rowSet_oldCs, atK_4, w0, w1, w2, w3, w4, w5, w6, w7, w8, w9, w10, w11, w12, w13, w14, w15, w16] | simp (maxSteps := 1000000) (disch := omega) only [ar_nat, ar_u64, ar_add, ar_sub, ar_mul, ar_div, ar_mod, ar_dec_t, ar_dec_f, ar_beq_t, ar_beq_f, ar_bne_t, ar_bne_f, ar_guard, or_guard, ar_take, ar_take_drop, ar_drop, Int.toNat_natCast, Int.reduceToNat])
        repeat (with_reducible refine And.intro (by first | omega | assumption) ?_)
        have e : atK (oldC (i + 1)) (oldC i) (4 + 1) = [oldC (i + 1) 0, oldC (i + 1) 1, oldC (i + 1) 2, oldC (i + 1) 3, .ptr 3 0 (16 * (4 / 2) + 2 * i + 4 % 2), oldC i 5, oldC i 6, oldC i 7, oldC i 8, oldC i 9, oldC i 10, oldC i 11, oldC i 12, oldC i 13, oldC i 14, oldC i 15] := by
          have q : colQ i 4 = 16 * (4 / 2) + 2 * i + 4 % 2 := by unfold colQ; first | rfl | omega
          rw [← q]; rfl
        (refine weak_of ?_ ?_; (focus (first | with_reducible rfl | (simp only [n0, n1, e, w0, w1, w2, w3, w4, w5, w6, w7, w8, w9, w10, w11, w12, w13, w14, w15, w16] <;> with_reducible rfl))); simp only [envAll_cons, envAll_nil, get_put, get_envOf, get_envL_cons, get_envL_nil, Nat.reduceEqDiff, if_true, if_false, reduceIte, Option.some.injEq, and_self, reduceCtorEq, List.getD_cons_zero, List.getD_cons_succ, Int.cast_ofNat_Int, and_true, true_and, n0, n1, e, w0, w1, w2, w3, w4, w5, w6, w7, w8, w9, w10, w11, w12, w13, w14, w15, w16])
      · repeat (first | simp only [c15_P, c15_odd, Nat.reduceBEq, layInts, layOnes, beq_self_eq_true, bne_self_eq_false, addPure, reduceIte, Nat.reduceEqDiff, reduceCtorEq, ne_eq, not_false_eq_true, not_true_eq_false, and_true, true_and, and_self, if_true, if_false, decide_true, decide_false, decide_eq_true_eq, exA, exA, tabs, exB, buildA, layA, rowPut, rowOr, rowSetAt, rowSet, rowTake, rowDrop, rowCell, rowAgg, mkAgg, AV.size, AV.isAggV, AV.parts, AV.one, AV.solid, headSize, psize, indexAddrA, indexA, fieldAddrA, fieldA, sliceA, boundsA, bndA, lenA, arrayAtA, rowOf, makeSliceA, intsOf, copyA, Nat.reduceAdd, Nat.reduceSub, Nat.reduceMul, Nat.reduceLeDiff, Nat.reduceLT, Nat.reduceGT, Int.reduceToNat, Int.reduceLE, Int.reduceLT, Int.reduceEq, Int.reduceNe, Int.reduceAdd, Int.reduceSub, Int.reduceMul, Int.reduceNeg, ge_iff_le, gt_iff_lt, or_true, true_or, or_false, false_or, not_true, not_false_iff, ite_true, ite_false, dite_true, take_app, take_blakeL, blakeL_len, run_range, c15_pure, c15_news, n10, N32_eq, n9, N31_eq, N58_eq, p9, F61_eq, fourL_len, p8, F74_eq, F75_32, F75_24, F75_16, F75_63, p7, F82_eq, p6, F34_eq, p5, F22_eq, p4, p3, p2, p1, F80_eq, F70_eq, F53_eq, F55_eq, F25_eq, F56_eq, F23_eq, n8, N30_nil, N30_ptr, N28_nil, N28_ptr, hashK_eq, hashR_eq, n7, n6, n5, N57_eq, N27_eq, N20_eq, N21_eq, addNews, allOf, hr, na, n0, n1, oldC_one, rowSet_oldC0, rowSet_oldCs, atK_5, w0, w1, w2, w3, w4, w5, w6, w7, w8, w9, w10, w11, w12, w13, w14, w15, w16] | simp (maxSteps := 1000000) (disch := omega) only [ar_nat, ar_u64, ar_add, ar_sub, ar_mul, ar_div, ar_mod, ar_dec_t, ar_dec_f, ar_beq_t, ar_beq_f, ar_bne_t, ar_bne_f, ar_guard, or_guard, ar_take, ar_take_drop, ar_drop, Int.toNat_natCast, Int.reduceToNat])
        repeat (with_reducible refine And.intro (by first | omega | assumption) ?_)
        have e : atK (oldC (i + 1)) (oldC i) (5 + 1) = [oldC (i + 1) 0, oldC (i + 1) 1, oldC (i + 1) 2, oldC (i + 1) 3, oldC (i + 1) 4, .ptr 3 0 (16 * (5 / 2) + 2 * i + 5 % 2), oldC i 6, oldC i 7, oldC i 8, oldC i 9, oldC i 10, oldC i 11, oldC i 12, oldC i 13, oldC i 14, oldC i 15] := by
          have q : colQ i 5 = 16 * (5 / 2) + 2 * i + 5 % 2 := by unfold colQ; first | rfl | omega
          rw [← q]; rfl
        (refine weak_of ?_ ?_; (focus (first | with_reducible rfl | (simp only [n0, n1, e, w0, w1, w2, w3, w4, w5, w6, w7, w8, w9, w10, w11, w12, w13, w14, w15, w16] <;> with_reducible rfl))); simp only [envAll_cons, envAll_nil, get_put, get_envOf, get_envL_cons, get_envL_nil, Nat.reduceEqDiff, if_true, if_false, reduceIte, Option.some.injEq, and_self, reduceCtorEq, List.getD_cons_zero, List.getD_cons_succ, Int.cast_ofNat_Int, and_true, true_and, n0, n1, e, w0, w1, w2, w3, w4, w5, w6, w7, w8, w9, w10, w11, w12, w13, w14, w15, w16])
      · repeat (first | simp only [c15_P, c15_odd, Nat.reduceBEq, layInts, layOnes, beq_self_eq_true, bne_self_eq_false, addPure, reduceIte, Nat.reduceEqDiff, reduceCtorEq, ne_eq, not_false_eq_true, not_true_eq_false, and_true, true_and, and_self, if_true, if_false, decide_true, decide_false, decide_eq_true_eq, exA, exA, tabs, exB, buildA, layA, rowPut, rowOr, rowSetAt, rowSet, rowTake, rowDrop, rowCell, rowAgg, mkAgg, AV.size, AV.isAggV, AV.parts, AV.one, AV.solid, headSize, psize, indexAddrA, indexA, fieldAddrA, fieldA, sliceA, boundsA, bndA, lenA, arrayAtA, rowOf, makeSliceA, intsOf, copyA, Nat.reduceAdd, Nat.reduceSub, Nat.reduceMul, Nat.reduceLeDiff, Nat.reduceLT, Nat.reduceGT, Int.reduceToNat, Int.reduceLE, Int.reduceLT, Int.reduceEq, Int.reduceNe, Int.reduceAdd, Int.reduceSub, Int.reduceMul, Int.reduceNeg, ge_iff_le, gt_iff_lt, or_true, true_or, or_false, false_or, not_true, not_false_iff, ite_true, ite_false, dite_true, take_app, take_blakeL, blakeL_len, run_range, c15_pure, c15_news, n10, N32_eq, n9, N31_eq, N58_eq, p9, F61_eq, fourL_len, p8, F74_eq, F75_32, F75_24, F75_16, F75_63, p7, F82_eq, p6, F34_eq, p5, F22_eq, p4, p3, p2, p1, F80_eq, F70_eq, F53_eq, F55_eq, F25_eq, F56_eq, F23_eq, n8, N30_nil, N30_ptr, N28_nil, N28_ptr, hashK_eq, hashR_eq, n7, n6, n5, N57_eq, N27_eq, N20_eq, N21_eq, addNews, allOf, hr, na, n0, n1, oldC_one, rowSet_oldC0, rowSet_oldCs, atK_6, w0, w1, w2, w3, w4, w5, w6, w7, w8, w9, w10, w11, w12, w13, w14, w15, w16] | simp (maxSteps := 1000000) (disch := omega) only [ar_nat, ar_u64, ar_add, ar_sub, ar_mul, ar_div, ar_mod, ar_dec_t, ar_dec_f, ar_beq_t, ar_beq_f, ar_bne_t, ar_bne_f, ar_guard, or_guard, ar_take, ar_take_drop, ar_drop, Int.toNat_natCast, Int.reduceToNat])
        repeat (with_reducible refine And.intro (by first | omega | assumption) ?_)
        have e : atK (oldC (i + 1)) (oldC i) (6 + 1) = [oldC (i + 1) 0, oldC (i + 1) 1, oldC (i + 1) 2, oldC (i + 1) 3, oldC (i + 1) 4, oldC (i + 1) 5, .ptr 3 0 (16 * (6 / 2) + 2 * i + 6 % 2), oldC i 7, oldC i 8, oldC i 9, oldC i 10, oldC i 11, oldC i 12, oldC i 13, oldC i 14, oldC i 15] := by
          have q : colQ i 6 = 16 * (6 / 2) + 2 * i + 6 % 2 := by unfold colQ; first | rfl | omega
          rw [← q]; rfl
        (refine weak_of ?_ ?_; (focus (first | with_reducible rfl | (simp only [n0, n1, e, w0, w1, w2, w3, w4, w5, w6, w7, w8, w9, w10, w11, w12, w13, w14, w15, w16] <;> with_reducible rfl))); simp only [envAll_cons, envAll_nil, get_put, get_envOf, get_envL_cons, get_envL_nil, Nat.reduceEqDiff, if_true, if_false, reduceIte, Option.some.injEq, and_self, reduceCtorEq, List.getD_cons_zero, List.getD_cons_succ, Int.cast_ofNat_Int, and_true, true_and, n0, n1, e, w0, w1, w2, w3, w4, w5, w6, w7, w8, w9, w10, w11, w12, w13, w14, w15, w16])
      · repeat (first | simp only [c15_P, c15_odd, Nat.reduceBEq, layInts, layOnes, beq_self_eq_true, bne_self_eq_false, addPure, reduceIte, Nat.reduceEqDiff, reduceCtorEq, ne_eq, not_false_eq_true, not_true_eq_false, and_true, true_and, and_self, if_true, if_false, decide_true, decide_false, decide_eq_true_eq, exA, exA, tabs, exB, buildA, layA, rowPut, rowOr, rowSetAt, rowSet, rowTake, rowDrop, rowCell, rowAgg, mkAgg, AV.size, AV.isAggV, AV.parts, AV.one, AV.solid, headSize, psize, indexAddrA, indexA, fieldAddrA, fieldA, sliceA, boundsA, bndA, lenA, arrayAtA, rowOf, makeSliceA, intsOf, copyA, Nat.reduceAdd, Nat.reduceSub, Nat.reduceMul, Nat.reduceLeDiff, Nat.reduceLT, Nat.reduceGT, Int.reduceToNat, Int.reduceLE, Int.reduceLT, Int.reduceEq, Int.reduceNe, Int.reduceAdd, Int.reduceSub, Int.reduceMul, Int.reduceNeg, ge_iff_le, gt_iff_lt, or_true, true_or, or_false, false_or, not_true, not_false_iff, ite_true, ite_false, dite_true, take_app, take_blakeL, blakeL_len, run_range, c15_pure, c15_news, n10, N32_eq, n9, N31_eq, N58_eq, p9, F61_eq, fourL_len, p8, F74_eq, F75_32, F75_24, F75_16, F75_63, p7, F82_eq, p6, F34_eq, p5, F22_eq, p4, p3, p2, p1, F80_eq, F70_eq, F53_eq, F55_eq, F25_eq, F56_eq, F23_eq, n8, N30_nil, N30_ptr, N28_nil, N28_ptr, hashK_eq, hashR_eq, n7, n6, n5, N57_eq, N27_eq, N20_eq, N21_eq, addNews, allOf, hr, na, n0, n1, oldC_one, rowSet_oldC0, rowSet_oldCs, atK_7, w0, w1, w2, w3, w4, w5, w6, w7, w8, w9, w10, w11, w12, w13, w14, w15, w16] | simp (maxSteps := 1000000) (disch := omega) only [ar_nat, ar_u64, ar_add, ar_sub, ar_mul, ar_div, ar_mod, ar_dec_t, ar_dec_f, ar_beq_t, ar_beq_f, ar_bne_t, ar_bne_f, ar_guard, or_guard, ar_take, ar_take_drop, ar_drop, Int.toNat_natCast, Int.reduceToNat])
        repeat (with_reducible refine And.intro (by first | omega | assumption) ?_)
        have e : atK (oldC (i + 1)) (oldC i) (7 + 1) = [oldC (i + 1) 0, oldC (i + 1) 1, oldC (i + 1) 2, oldC (i + 1) 3, oldC (i + 1) 4, oldC (i + 1) 5, oldC (i + 1) 6, .ptr 3 0 (16 * (7 / 2) + 2 * i + 7 % 2), oldC i 8, oldC i 9, oldC i 10, oldC i 11, oldC i 12, oldC i 13, oldC i 14, oldC i 15] := by
          have q : colQ i 7 = 16 * (7 / 2) + 2 * i + 7 % 2 := by unfold colQ; first | rfl | omega
          rw [← q]; rfl
        (refine weak_of ?_ ?_; (focus (first | with_reducible rfl | (simp only [n0, n1, e, w0, w1, w2, w3, w4, w5, w6, w7, w8, w9, w10, w11, w12, w13, w14, w15, w16] <;> with_reducible rfl))); simp only [envAll_cons, envAll_nil, get_put, get_envOf, get_envL_cons, get_envL_nil, Nat.reduceEqDiff, if_true, if_false, reduceIte, Option.some.injEq, and_self, reduceCtorEq, List.getD_cons_zero, List.getD_cons_succ, Int.cast_ofNat_Int, and_true, true_and, n0, n1, e, w0, w1, w2, w3, w4, w5, w6, w7, w8, w9, w10, w11, w12, w13, w14, w15, w16])
      · repeat (first | simp only [c15_P, c15_odd, Nat.reduceBEq, layInts, layOnes, beq_self_eq_true, bne_self_eq_false, addPure, reduceIte, Nat.reduceEqDiff, reduceCtorEq, ne_eq, not_false_eq_true, not_true_eq_false, and_true, true_and, and_self, if_true, if_false, decide_true, decide_false, decide_eq_true_eq, exA, exA, tabs, exB, buildA, layA, rowPut, rowOr, rowSetAt, rowSet, rowTake, rowDrop, rowCell, rowAgg, mkAgg, AV.size, AV.isAggV, AV.parts, AV.one, AV.solid, headSize, psize, indexAddrA, indexA, fieldAddrA, fieldA, sliceA, boundsA, bndA, lenA, arrayAtA, rowOf, makeSliceA, intsOf, copyA, Nat.reduceAdd, Nat.reduceSub, Nat.reduceMul, Nat.reduceLeDiff, Nat.reduceLT, Nat.reduceGT, Int.reduceToNat, Int.reduceLE, Int.reduceLT, Int.reduceEq, Int.reduceNe, Int.reduceAdd, Int.reduceSub, Int.reduceMul, Int.reduceNeg, ge_iff_le, gt_iff_lt, or_true, true_or, or_false, false_or, not_true, not_false_iff, ite_true, ite_false, dite_true, take_app, take_blakeL, blakeL_len, run_range, c15_pure, c15_news, n10, N32_eq, n9, N31_eq, N58_eq, p9, F61_eq, fourL_len, p8, F74_eq, F75_32, F75_24, F75_16, F75_63, p7, F82_eq, p6, F34_eq, p5, F22_eq, p4, p3, p2, p1, F80_eq, F70_eq, F53_eq, F55_eq, F25_eq, F56_eq, F23_eq, n8, N30_nil, N30_ptr, N28_nil, N28_ptr, hashK_eq, hashR_eq, n7, n6, n5, N57_eq, N27_eq, N20_eq, N21_eq, addNews, allOf, hr, na, n0, n1, oldC_one, rowSet_oldC0, rowSet_oldCs, atK_8, w0, w1, w2, w3, w4, w5, w6, w7, w8, w9, w10, w11, w12, w13, w14, w15, w16] | simp (maxSteps := 1000000) (disch := omega) only [ar_nat, ar_u64, ar_add, ar_sub, ar_mul, ar_div, ar_mod, ar_dec_t, ar_dec_f, ar_beq_t, ar_beq_f, ar_bne_t, ar_bne_f, ar_guard, or_guard, ar_take, ar_take_drop, ar_drop, Int.toNat_natCast, Int.reduceToNat])
        repeat (with_reducible refine And.intro (by first | omega | assumption) ?_)
        have e : atK (oldC (i + 1)) (oldC i) (8 + 1) = [oldC (i + 1) 0, oldC (i + 1) 1, oldC (i + 1) 2, oldC (i + 1) 3, oldC (i + 1) 4, oldC (i + 1) 5, oldC (i + 1) 6, oldC (i + 1) 7, .ptr 3 0 (16 * (8 / 2) + 2 * i + 8 % 2), oldC i 9, oldC i 10, oldC i 11, oldC i 12, oldC i 13, oldC i 14, oldC i 15] := by
          have q : colQ i 8 = 16 * (8 / 2) + 2 * i + 8 % 2 := by unfold colQ; first | rfl | omega
          rw [← q]; rfl
        (refine weak_of ?_ ?_; (focus (first | with_reducible rfl | (simp only [n0, n1, e, w0, w1, w2, w3, w4, w5, w6, w7, w8, w9, w10, w11, w12, w13, w14, w15, w16] <;> with_reducible rfl))); simp only [envAll_cons, envAll_nil, get_put, get_envOf, get_envL_cons, get_envL_nil, Nat.reduceEqDiff, if_true, if_false, reduceIte, Option.some.injEq, and_self, reduceCtorEq, List.getD_cons_zero, List.getD_cons_succ, Int.cast_ofNat_Int, and_true, true_and, n0, n1, e, w0, w1, w2, w3, w4, w5, w6, w7, w8, w9, w10, w11, w12, w13, w14, w15, w16])
      · repeat (first | simp only [c15_P, c15_odd, Nat.reduceBEq, layInts, layOnes, beq_self_eq_true, bne_self_eq_false, addPure, reduceIte, Nat.reduceEqDiff, reduceCtorEq, ne_eq, not_false_eq_true, not_true_eq_false, and_true, true_and, and_self, if_true, if_false, decide_true, decide_false, decide_eq_true_eq, exA, exA, tabs, exB, buildA, layA, rowPut, rowOr, rowSetAt, rowSet, rowTake, rowDrop, rowCell, rowAgg, mkAgg, AV.size, AV.isAggV, AV.parts, AV.one, AV.solid, headSize, psize, indexAddrA, indexA, fieldAddrA, fieldA, sliceA, boundsA, bndA, lenA, arrayAtA, rowOf, makeSliceA, intsOf, copyA, Nat.reduceAdd, Nat.reduceSub, Nat.reduceMul, Nat.reduceLeDiff, Nat.reduceLT, Nat.reduceGT, Int.reduceToNat, Int.reduceLE, Int.reduceLT, Int.reduceEq, Int.reduceNe, Int.reduceAdd, Int.reduceSub, Int.reduceMul, Int.reduceNeg, ge_iff_le, gt_iff_lt, or_true, true_or, or_false, false_or, not_true, not_false_iff, ite_true, ite_false, dite_true, take_app, take_blakeL, blakeL_len, run_range, c15_pure, c15_news, n10, N32_eq, n9, N31_eq, N58_eq, p9, F61_eq, fourL_len, p8, F74_eq, F75_32, F75_24, F75_16, F75_63, p7, F82_eq, p6, F34_eq, p5, F22_eq, p4, p3, p2, p1, F80_eq, F70_eq, F53_eq, F55_eq, F25_eq, F56_eq, F23_eq, n8, N30_nil, N30_ptr, N28_nil, N28_ptr, hashK_eq, hashR_eq, n7, n6, n5, N57_eq, N27_eq, N20_eq, N21_eq, addNews, allOf, hr, na, n0, n1, oldC_one, rowSet_oldC0, rowSet_oldCs, atK_9, w0, w1, w2, w3, w4, w5, w6, w7, w8, w9, w10, w11, w12, w13, w14, w15, w16] | simp (maxSteps := 1000000) (disch := omega) only [ar_nat, ar_u64, ar_add, ar_sub, ar_mul, ar_div, ar_mod, ar_dec_t, ar_dec_f, ar_beq_t, ar_beq_f, ar_bne_t, ar_bne_f, ar_guard, or_guard, ar_take, ar_take_drop, ar_drop, Int.toNat_natCast, Int.reduceToNat])
        repeat (with_reducible refine And.intro (by first | omega | assumption) ?_)
        have e : atK (oldC (i + 1)) (oldC i) (9 + 1) = [oldC (i + 1) 0, oldC (i + 1) 1, oldC (i + 1) 2, oldC (i + 1) 3, oldC (i + 1) 4, oldC (i + 1) 5, oldC (i + 1) 6, oldC (i + 1) 7, oldC (i + 1) 8, .ptr 3 0 (16 * (9 / 2) + 2 * i + 9 % 2), oldC i 10, oldC i 11, oldC i 12, oldC i 13, oldC i 14, oldC i 15] := by
          have q : colQ i 9 = 16 * (9 / 2) + 2 * i + 9 % 2 := by unfold colQ; first | rfl | omega
          rw [← q]; rfl
        (refine weak_of ?_ ?_; (focus (first | with_reducible rfl | (simp only [n0, n1, e, w0, w1, w2, w3, w4, w5, w6, w7, w8, w9, w10, w11, w12, w13, w14, w15, w16] <;> with_reducible rfl))); simp only [envAll_cons, envAll_nil, get_put, get_envOf, get_envL_cons, get_envL_nil, Nat.reduceEqDiff, if_true, if_false, reduceIte, Option.some.injEq, and_self, reduceCtorEq, List.getD_cons_zero, List.getD_cons_succ, Int.cast_ofNat_Int, and_true, true_and, n0, n1, e, w0, w1, w2, w3, w4, w5, w6, w7, w8, w9, w10, w11, w12, w13, w14, w15, w16])
      · repeat (first | simp only [c15_P, c15_odd, Nat.reduceBEq, layInts, layOnes, beq_self_eq_true, bne_self_eq_false, addPure, reduceIte, Nat.reduceEqDiff, reduceCtorEq, ne_eq, not_false_eq_true, not_true_eq_false, and_true, true_and, and_self, if_true, if_false, decide_true, decide_false, decide_eq_true_eq, exA, exA, tabs, exB, buildA, layA, rowPut, rowOr, rowSetAt, rowSet, rowTake, rowDrop, rowCell, rowAgg, mkAgg, AV.size, AV.isAggV, AV.parts, AV.one, AV.solid, headSize, psize, indexAddrA, indexA, fieldAddrA, fieldA, sliceA, boundsA, bndA, lenA, arrayAtA, rowOf, makeSliceA, intsOf, copyA, Nat.reduceAdd, Nat.reduceSub, Nat.reduceMul, Nat.reduceLeDiff, Nat.reduceLT, Nat.reduceGT, Int.reduceToNat, Int.reduceLE, Int.reduceLT, Int.reduceEq, Int.reduceNe, Int.reduceAdd, Int.reduceSub, Int.reduceMul, Int.reduceNeg, ge_iff_le, gt_iff_lt, or_true, true_or, or_false, false_or, not_true, not_false_iff, ite_true, ite_false, dite_true, take_app, take_blakeL, blakeL_len, run_range, c15_pure, c15_news, n10, N32_eq, n9, N31_eq, N58_eq, p9, F61_eq, fourL_len, p8, F74_eq, F75_32, F75_24, F75_16, F75_63, p7, F82_eq, p6, F34_eq, p5, F22_eq, p4, p3, p2, p1, F80_eq, F70_eq, F53_eq, F55_eq, F25_eq, F56_eq, F23_eq, n8, N30_nil, N30_ptr, N28_nil, N28_ptr, hashK_eq, hashR_eq, n7, n6, n5, N57_eq, N27_eq, N20_eq, N21_eq, addNews, allOf, hr, na, n0, n1, oldC_one, rowSet_oldC0, rowSet_oldCs, atK_10, w0, w1, w2, w3, w4, w5, w6, w7, w8, w9, w10, w11, w12, w13, w14, w15, w16] | simp (maxSteps := 1000000) (disch := omega) only [ar_nat, ar_u64, ar_add, ar_sub, ar_mul, ar_div, ar_mod, ar_dec_t, ar_dec_f, ar_beq_t, ar_beq_f, ar_bne_t, ar_bne_f, ar_guard, or_guard, ar_take, ar_take_drop, ar_drop, Int.toNat_natCast, Int.reduceToNat])
        repeat (with_reducible refine And.intro (by first | omega | assumption) ?_)
        have e : atK (oldC (i + 1)) (oldC i) (10 + 1) = [oldC (i + 1) 0, oldC (i + 1) 1, oldC (i + 1) 2, oldC (i + 1) 3, oldC (i + 1) 4, oldC (i + 1) 5, oldC (i + 1) 6, oldC (i + 1) 7, oldC (i + 1) 8, oldC (i + 1) 9, .ptr 3 0 (16 * (10 / 2) + 2 * i + 10 % 2), oldC i 11, oldC i 12, oldC i 13, oldC i 14, oldC i 15] := by
          have q : colQ i 10 = 16 * (10 / 2) + 2 * i + 10 % 2 := by unfold colQ; first | rfl | omega
          rw [← q]; rfl
        (refine weak_of ?_ ?_; (focus (first | with_reducible rfl | (simp only [n0, n1, e, w0, w1, w2, w3, w4, w5, w6, w7, w8, w9, w10, w11, w12, w13, w14, w15, w16] <;> with_reducible rfl))); simp only [envAll_cons, envAll_nil, get_put, get_envOf, get_envL_cons, get_envL_nil, Nat.reduceEqDiff, if_true, if_false, reduceIte, Option.some.injEq, and_self, reduceCtorEq, List.getD_cons_zero, List.getD_cons_succ, Int.cast_ofNat_Int, and_true, true_and, n0, n1, e, w0, w1, w2, w3, w4, w5, w6, w7, w8, w9, w10, w11, w12, w13, w14, w15, w16])
      · repeat (first | simp only [c15_P, c15_odd, Nat.reduceBEq, layInts, layOnes, beq_self_eq_true, bne_self_eq_false, addPure, reduceIte, Nat.reduceEqDiff, reduceCtorEq, ne_eq, not_false_eq_true, not_true_eq_false, and_true, true_and, and_self, if_true, if_false, decide_true, decide_false, decide_eq_true_eq, exA, exA, tabs, exB, buildA, layA, rowPut, rowOr, rowSetAt, rowSet, rowTake, rowDrop, rowCell, rowAgg, mkAgg, AV.size, AV.isAggV, AV.parts, AV.one, AV.solid, headSize, psize, indexAddrA, indexA, fieldAddrA, fieldA, sliceA, boundsA, bndA, lenA, arrayAtA, rowOf, makeSliceA, intsOf, copyA, Nat.reduceAdd, Nat.reduceSub, Nat.reduceMul, Nat.reduceLeDiff, Nat.reduceLT, Nat.reduceGT, Int.reduceToNat, Int.reduceLE, Int.reduceLT, Int.reduceEq, Int.reduceNe, Int.reduceAdd, Int.reduceSub, Int.reduceMul, Int.reduceNeg, ge_iff_le, gt_iff_lt, or_true, true_or, or_false, false_or, not_true, not_false_iff, ite_true, ite_false, dite_true, take_app, take_blakeL, blakeL_len, run_range, c15_pure, c15_news, n10, N32_eq, n9, N31_eq, N58_eq, p9, F61_eq, fourL_len, p8, F74_eq, F75_32, F75_24, F75_16, F75_63, p7, F82_eq, p6, F34_eq, p5, F22_eq, p4, p3, p2, p1, F80_eq, F70_eq, F53_eq, F55_eq, F25_eq, F56_eq, F23_eq, n8, N30_nil, N30_ptr, N28_nil, N28_ptr, hashK_eq, hashR_eq, n7, n6, n5, N57_eq, N27_eq, N20_eq, N21_eq, addNews, allOf, hr, na, n0, n1, oldC_one, rowSet_oldC0, rowSet_oldCs, atK_11, w0, w1, w2, w3, w4, w5, w6, w7, w8, w9, w10, w11, w12, w13, w14, w15, w16] | simp (maxSteps := 1000000) (disch := omega) only [ar_nat, ar_u64, ar_add, ar_sub, ar_mul, ar_div, ar_mod, ar_dec_t, ar_dec_f, ar_beq_t, ar_beq_f, ar_bne_t, ar_bne_f, ar_guard, or_guard, ar_take, ar_take_drop, ar_drop, Int.toNat_natCast, Int.reduceToNat])
        repeat (with_reducible refine And.intro (by first | omega | assumption) ?_)
        have e : atK (oldC (i + 1)) (oldC i) (11 + 1) = [oldC (i + 1) 0, oldC (i + 1) 1, oldC (i + 1) 2, oldC (i + 1) 3, oldC (i + 1) 4, oldC (i + 1) 5, oldC (i + 1) 6, oldC (i + 1) 7, oldC (i + 1) 8, oldC (i + 1) 9, oldC (i + 1) 10, .ptr 3 0 (16 * (11 / 2) + 2 * i + 11 % 2), oldC i 12, oldC i 13, oldC i 14, oldC i 15] := by
          have q : colQ i 11 = 16 * (11 / 2) + 2 * i + 11 % 2 := by unfold colQ; first | rfl | omega
          rw [← q]; rfl
        (refine weak_of ?_ ?_; (focus (first | with_reducible rfl | (simp only [n0, n1, e, w0, w1, w2, w3, w4, w5, w6, w7, w8, w9, w10, w11, w12, w13, w14, w15, w16] <;> with_reducible rfl))); simp only [envAll_cons, envAll_nil, get_put, get_envOf, get_envL_cons, get_envL_nil, Nat.reduceEqDiff, if_true, if_false, reduceIte, Option.some.injEq, and_self, reduceCtorEq, List.getD_cons_zero, List.getD_cons_succ, Int.cast_ofNat_Int, and_true, true_and, n0, n1, e, w0, w1, w2, w3, w4, w5, w6, w7, w8, w9, w10, w11, w12, w13, w14, w15, w16])
      · repeat (first | simp only [c15_P, c15_odd, Nat.reduceBEq, layInts, layOnes, beq_self_eq_true, bne_self_eq_false, addPure, reduceIte, Nat.reduceEqDiff, reduceCtorEq, ne_eq, not_false_eq_true, not_true_eq_false, and_true, true_and, and_self, if_true, if_false, decide_true, decide_false, decide_eq_true_eq, exA, exA, tabs, exB, buildA, layA, rowPut, rowOr, rowSetAt, rowSet, rowTake, rowDrop, rowCell, rowAgg, mkAgg, AV.size, AV.isAggV, AV.parts, AV.one, AV.solid, headSize, psize, indexAddrA, indexA, fieldAddrA, fieldA, sliceA, boundsA, bndA, lenA, arrayAtA, rowOf, makeSliceA, intsOf, copyA, Nat.reduceAdd, Nat.reduceSub, Nat.reduceMul, Nat.reduceLeDiff, Nat.reduceLT, Nat.reduceGT, Int.reduceToNat, Int.reduceLE, Int.reduceLT, Int.reduceEq, Int.reduceNe, Int.reduceAdd, Int.reduceSub, Int.reduceMul, Int.reduceNeg, ge_iff_le, gt_iff_lt, or_true, true_or, or_false, false_or, not_true, not_false_iff, ite_true, ite_false, dite_true, take_app, take_blakeL, blakeL_len, run_range, c15_pure, c15_news, n10, N32_eq, n9, N31_eq, N58_eq, p9, F61_eq, fourL_len, p8, F74_eq, F75_32, F75_24, F75_16, F75_63, p7, F82_eq, p6, F34_eq, p5, F22_eq, p4, p3, p2, p1, F80_eq, F70_eq, F53_eq, F55_eq, F25_eq, F56_eq, F23_eq, n8, N30_nil, N30_ptr, N28_nil, N28_ptr, hashK_eq, hashR_eq, n7, n6, n5, N57_eq, N27_eq, N20_eq, N21_eq, addNews, allOf, hr, na, n0, n1, oldC_one, rowSet_oldC0, rowSet_oldCs, atK_12, w0, w1, w2, w3, w4, w5, w6, w7, w8, w9, w10, w11, w12, w13, w14, w15, w16] | simp (maxSteps := 1000000) (disch := omega) only [ar_nat, ar_u64, ar_add, ar_sub, ar_mul, ar_div, ar_mod, ar_dec_t, ar_dec_f, ar_beq_t, ar_beq_f, ar_bne_t, ar_bne_f, ar_guard, or_guard, ar_take, ar_take_drop, ar_drop, Int.toNat_natCast, Int.reduceToNat])
        repeat (with_reducible refine And.intro (by first | omega | assumption) ?_)
        have e : atK (oldC (i + 1)) (oldC i) (12 + 1) = [oldC (i + 1) 0, oldC (i + 1) 1, oldC (i + 1) 2, oldC (i + 1) 3, oldC (i + 1) 4, oldC (i + 1) 5, oldC (i + 1) 6, oldC (i + 1) 7, oldC (i + 1) 8, oldC (i + 1) 9, oldC (i + 1) 10, oldC (i + 1) 11, .ptr 3 0 (16 * (12 / 2) + 2 * i + 12 % 2), oldC i 13, oldC i 14, oldC i 15] := by
          have q : colQ i 12 = 16 * (12 / 2) + 2 * i + 12 % 2 := by unfold colQ; first | rfl | omega
          rw [← q]; rfl
        (refine weak_of ?_ ?_; (focus (first | with_reducible rfl | (simp only [n0, n1, e, w0, w1, w2, w3, w4, w5, w6, w7, w8, w9, w10, w11, w12, w13, w14, w15, w16] <;> with_reducible rfl))); simp only [envAll_cons, envAll_nil, get_put, get_envOf, get_envL_cons, get_envL_nil, Nat.reduceEqDiff, if_true, if_false, reduceIte, Option.some.injEq, and_self, reduceCtorEq, List.getD_cons_zero, List.getD_cons_succ, Int.cast_ofNat_Int, and_true, true_and, n0, n1, e, w0, w1, w2, w3, w4, w5, w6, w7, w8, w9, w10, w11, w12, w13, w14, w15, w16])
      · repeat (first | simp only [c15_P, c15_odd, Nat.reduceBEq, layInts, layOnes, beq_self_eq_true, bne_self_eq_false, addPure, reduceIte, Nat.reduceEqDiff, reduceCtorEq, ne_eq, not_false_eq_true, not_true_eq_false, and_true, true_and, and_self, if_true, if_false, decide_true, decide_false, decide_eq_true_eq, exA, exA, tabs, exB, buildA, layA, rowPut, rowOr, rowSetAt, rowSet, rowTake, rowDrop, rowCell, rowAgg, mkAgg, AV.size, AV.isAggV, AV.parts, AV.one, AV.solid, headSize, psize, indexAddrA, indexA, fieldAddrA, fieldA, sliceA, boundsA, bndA, lenA, arrayAtA, rowOf, makeSliceA, intsOf, copyA, Nat.reduceAdd, Nat.reduceSub, Nat.reduceMul, Nat.reduceLeDiff, Nat.reduceLT, Nat.reduceGT, Int.reduceToNat, Int.reduceLE, Int.reduceLT, Int.reduceEq, Int.reduceNe, Int.reduceAdd, Int.reduceSub, Int.reduceMul, Int.reduceNeg, ge_iff_le, gt_iff_lt, or_true, true_or, or_false, false_or, not_true, not_false_iff, ite_true, ite_false, dite_true, take_app, take_blakeL, blakeL_len, run_range, c15_pure, c15_news, n10, N32_eq, n9, N31_eq, N58_eq, p9, F61_eq, fourL_len, p8, F74_eq, F75_32, F75_24, F75_16, F75_63, p7, F82_eq, p6, F34_eq, p5, F22_eq, p4, p3, p2, p1, F80_eq, F70_eq, F53_eq, F55_eq, F25_eq, F56_eq, F23_eq, n8, N30_nil, N30_ptr, N28_nil, N28_ptr, hashK_eq, hashR_eq, n7, n6, n5, N57_eq, N27_eq, N20_eq, N21_eq, addNews, allOf, hr, na, n0, n1, oldC_one, rowSet_oldC0, rowSet_oldCs, atK_13, w0, w1, w2, w3, w4, w5, w6, w7, w8, w9, w10, w11, w12, w13, w14, w15, w16] | simp (maxSteps := 1000000) (disch := omega) only [ar_nat, ar_u64, ar_add, ar_sub, ar_mul, ar_div, ar_mod, ar_dec_t, ar_dec_f, ar_beq_t, ar_beq_f, ar_bne_t, ar_bne_f, ar_guard, or_guard, ar_take, ar_take_drop, ar_drop, Int.toNat_natCast, Int.reduceToNat])
        repeat (with_reducible refine And.intro (by first | omega | assumption) ?_)
        have e : atK (oldC (i + 1)) (oldC i) (13 + 1) = [oldC (i + 1) 0, oldC (i + 1) 1, oldC (i + 1) 2, oldC (i + 1) 3, oldC (i + 1) 4, oldC (i + 1) 5, oldC (i + 1) 6, oldC (i + 1) 7, oldC (i + 1) 8, oldC (i + 1) 9, oldC (i + 1) 10, oldC (i + 1) 11, oldC (i + 1) 12, .ptr 3 0 (16 * (13 / 2) + 2 * i + 13 % 2), oldC i 14, oldC i 15] := by
          have q : colQ i 13 = 16 * (13 / 2) + 2 * i + 13 % 2 := by unfold colQ; first | rfl | omega
          rw [← q]; rfl
        (refine weak_of ?_ ?_; (focus (first | with_reducible rfl | (simp only [n0, n1, e, w0, w1, w2, w3, w4, w5, w6, w7, w8, w9, w10, w11, w12, w13, w14, w15, w16] <;> with_reducible rfl))); simp only [envAll_cons, envAll_nil, get_put, get_envOf, get_envL_cons, get_envL_nil, Nat.reduceEqDiff, if_true, if_false, reduceIte, Option.some.injEq, and_self, reduceCtorEq, List.getD_cons_zero, List.getD_cons_succ, Int.cast_ofNat_Int, and_true, true_and, n0, n1, e, w0, w1, w2, w3, w4, w5, w6, w7, w8, w9, w10, w11, w12, w13, w14, w15, w16])
      · repeat (first | simp only [c15_P, c15_odd, Nat.reduceBEq, layInts, layOnes, beq_self_eq_true, bne_self_eq_false, addPure, reduceIte, Nat.reduceEqDiff, reduceCtorEq, ne_eq, not_false_eq_true, not_true_eq_false, and_true, true_and, and_self, if_true, if_false, decide_true, decide_false, decide_eq_true_eq, exA, exA, tabs, exB, buildA, layA, rowPut, rowOr, rowSetAt, rowSet, rowTake, rowDrop, rowCell, rowAgg, mkAgg, AV.size, AV.isAggV, AV.parts, AV.one, AV.solid, headSize, psize, indexAddrA, indexA, fieldAddrA, fieldA, sliceA, boundsA, bndA, lenA, arrayAtA, rowOf, makeSliceA, intsOf, copyA, Nat.reduceAdd, Nat.reduceSub, Nat.reduceMul, Nat.reduceLeDiff, Nat.reduceLT, Nat.reduceGT, Int.reduceToNat, Int.reduceLE, Int.reduceLT, Int.reduceEq, Int.reduceNe, Int.reduceAdd, Int.reduceSub, Int.reduceMul, Int.reduceNeg, ge_iff_le, gt_iff_lt, or_true, true_or, or_false, false_or, not_true, not_false_iff, ite_true, ite_false, dite_true, take_app, take_blakeL, blakeL_len, run_range, c15_pure, c15_news, n10, N32_eq, n9, N31_eq, N58_eq, p9, F61_eq, fourL_len, p8, F74_eq, F75_32, F75_24, F75_16, F75_63, p7, F82_eq, p6, F34_eq, p5, F22_eq, p4, p3, p2, p1, F80_eq, F70_eq, F53_eq, F55_eq, F25_eq, F56_eq, F23_eq, n8, N30_nil, N30_ptr, N28_nil, N28_ptr, hashK_eq, hashR_eq, n7, n6, n5, N57_eq, N27_eq, N20_eq, N21_eq, addNews, allOf, hr, na, n0, n1, oldC_one, rowSet_oldC0, rowSet_oldCs, atK_14, w0, w1, w2, w3, w4, w5, w6, w7, w8, w9, w10, w11, w12, w13, w14, w15, w16] | simp (maxSteps := 1000000) (disch := omega) only [ar_nat, ar_u64, ar_add, ar_sub, ar_mul, ar_div, ar_mod, ar_dec_t, ar_dec_f, ar_beq_t, ar_beq_f, ar_bne_t, ar_bne_f, ar_guard, or_guard, ar_take, ar_take_drop, ar_drop, Int.toNat_natCast, Int.reduceToNat])
        repeat (with_reducible refine And.intro (by first | omega | assumption) ?_)
        have e : atK (oldC (i + 1)) (oldC i) (14 + 1) = [oldC (i + 1) 0, oldC (i + 1) 1, oldC (i + 1) 2, oldC (i + 1) 3, oldC (i + 1) 4, oldC (i + 1) 5, oldC (i + 1) 6, oldC (i + 1) 7, oldC (i + 1) 8, oldC (i + 1) 9, oldC (i + 1) 10, oldC (i + 1) 11, oldC (i + 1) 12, oldC (i + 1) 13, .ptr 3 0 (16 * (14 / 2) + 2 * i + 14 % 2), oldC i 15] := by
          have q : colQ i 14 = 16 * (14 / 2) + 2 * i + 14 % 2 := by unfold colQ; first | rfl | omega
          rw [← q]; rfl
        (refine weak_of ?_ ?_; (focus (first | with_reducible rfl | (simp only [n0, n1, e, w0, w1, w2, w3, w4, w5, w6, w7, w8, w9, w10, w11, w12, w13, w14, w15, w16] <;> with_reducible rfl))); simp only [envAll_cons, envAll_nil, get_put, get_envOf, get_envL_cons, get_envL_nil, Nat.reduceEqDiff, if_true, if_false, reduceIte, Option.some.injEq, and_self, reduceCtorEq, List.getD_cons_zero, List.getD_cons_succ, Int.cast_ofNat_Int, and_true, true_and, n0, n1, e, w0, w1, w2, w3, w4, w5, w6, w7, w8, w9, w10, w11, w12, w13, w14, w15, w16])
      · repeat (first | simp only [c15_P, c15_odd, Nat.reduceBEq, layInts, layOnes, beq_self_eq_true, bne_self_eq_false, addPure, reduceIte, Nat.reduceEqDiff, reduceCtorEq, ne_eq, not_false_eq_true, not_true_eq_false, and_true, true_and, and_self, if_true, if_false, decide_true, decide_false, decide_eq_true_eq, exA, exA, tabs, exB, buildA, layA, rowPut, rowOr, rowSetAt, rowSet, rowTake, rowDrop, rowCell, rowAgg, mkAgg, AV.size, AV.isAggV, AV.parts, AV.one, AV.solid, headSize, psize, indexAddrA, indexA, fieldAddrA, fieldA, sliceA, boundsA, bndA, lenA, arrayAtA, rowOf, makeSliceA, intsOf, copyA, Nat.reduceAdd, Nat.reduceSub, Nat.reduceMul, Nat.reduceLeDiff, Nat.reduceLT, Nat.reduceGT, Int.reduceToNat, Int.reduceLE, Int.reduceLT, Int.reduceEq, Int.reduceNe, Int.reduceAdd, Int.reduceSub, Int.reduceMul, Int.reduceNeg, ge_iff_le, gt_iff_lt, or_true, true_or, or_false, false_or, not_true, not_false_iff, ite_true, ite_false, dite_true, take_app, take_blakeL, blakeL_len, run_range, c15_pure, c15_news, n10, N32_eq, n9, N31_eq, N58_eq, p9, F61_eq, fourL_len, p8, F74_eq, F75_32, F75_24, F75_16, F75_63, p7, F82_eq, p6, F34_eq, p5, F22_eq, p4, p3, p2, p1, F80_eq, F70_eq, F53_eq, F55_eq, F25_eq, F56_eq, F23_eq, n8, N30_nil, N30_ptr, N28_nil, N28_ptr, hashK_eq, hashR_eq, n7, n6, n5, N57_eq, N27_eq, N20_eq, N21_eq, addNews, allOf, hr, na, n0, n1, oldC_one, rowSet_oldC0, rowSet_oldCs, atK_15, w0, w1, w2, w3, w4, w5, w6, w7, w8, w9, w10, w11, w12, w13, w14, w15, w16] | simp (maxSteps := 1000000) (disch := omega) only [ar_nat, ar_u64, ar_add, ar_sub, ar_mul, ar_div, ar_mod, ar_dec_t, ar_dec_f, ar_beq_t, ar_beq_f, ar_bne_t, ar_bne_f, ar_guard, or_guard, ar_take, ar_take_drop, ar_drop, Int.toNat_natCast, Int.reduceToNat])
        repeat (with_reducible refine And.intro (by first | omega | assumption) ?_)
        have e : atK (oldC (i + 1)) (oldC i) (15 + 1) = [oldC (i + 1) 0, oldC (i + 1) 1, oldC (i + 1) 2, oldC (i + 1) 3, oldC (i + 1) 4, oldC (i + 1) 5, oldC (i + 1) 6, oldC (i + 1) 7, oldC (i + 1) 8, oldC (i + 1) 9, oldC (i + 1) 10, oldC (i + 1) 11, oldC (i + 1) 12, oldC (i + 1) 13, oldC (i + 1) 14, .ptr 3 0 (16 * (15 / 2) + 2 * i + 15 % 2)] := by
          have q : colQ i 15 = 16 * (15 / 2) + 2 * i + 15 % 2 := by unfold colQ; first | rfl | omega
          rw [← q]; rfl
        (refine weak_of ?_ ?_; (focus (first | with_reducible rfl | (simp only [n0, n1, e, w0, w1, w2, w3, w4, w5, w6, w7, w8, w9, w10, w11, w12, w13, w14, w15, w16] <;> with_reducible rfl))); simp only [envAll_cons, envAll_nil, get_put, get_envOf, get_envL_cons, get_envL_nil, Nat.reduceEqDiff, if_true, if_false, reduceIte, Option.some.injEq, and_self, reduceCtorEq, List.getD_cons_zero, List.getD_cons_succ, Int.cast_ofNat_Int, and_true, true_and, n0, n1, e, w0, w1, w2, w3, w4, w5, w6, w7, w8, w9, w10, w11, w12, w13, w14, w15, w16])
    · repeat (first | simp only [c15_P, c15_odd, Nat.reduceBEq, layInts, layOnes, beq_self_eq_true, bne_self_eq_false, addPure, reduceIte, Nat.reduceEqDiff, reduceCtorEq, ne_eq, not_false_eq_true, not_true_eq_false, and_true, true_and, and_self, if_true, if_false, decide_true, decide_false, decide_eq_true_eq, exA, exA, tabs, exB, buildA, layA, rowPut, rowOr, rowSetAt, rowSet, rowTake, rowDrop, rowCell, rowAgg, mkAgg, AV.size, AV.isAggV, AV.parts, AV.one, AV.solid, headSize, psize, indexAddrA, indexA, fieldAddrA, fieldA, sliceA, boundsA, bndA, lenA, arrayAtA, rowOf, makeSliceA, intsOf, copyA, Nat.reduceAdd, Nat.reduceSub, Nat.reduceMul, Nat.reduceLeDiff, Nat.reduceLT, Nat.reduceGT, Int.reduceToNat, Int.reduceLE, Int.reduceLT, Int.reduceEq, Int.reduceNe, Int.reduceAdd, Int.reduceSub, Int.reduceMul, Int.reduceNeg, ge_iff_le, gt_iff_lt, or_true, true_or, or_false, false_or, not_true, not_false_iff, ite_true, ite_false, dite_true, take_app, take_blakeL, blakeL_len, run_range, c15_pure, c15_news, n10, N32_eq, n9, N31_eq, N58_eq, p9, F61_eq, fourL_len, p8, F74_eq, F75_32, F75_24, F75_16, F75_63, p7, F82_eq, p6, F34_eq, p5, F22_eq, p4, p3, p2, p1, F80_eq, F70_eq, F53_eq, F55_eq, F25_eq, F56_eq, F23_eq, n8, N30_nil, N30_ptr, N28_nil, N28_ptr, hashK_eq, hashR_eq, n7, n6, n5, N57_eq, N27_eq, N20_eq, N21_eq, addNews, allOf, hr, na, n0, n1, w0, w1, w2, w3, w4, w5, w6, w7, w8, w9, w10, w11, w12, w13, w14, w15, w16] | simp (maxSteps := 1000000) (disch := omega) only [ar_nat, ar_u64, ar_add, ar_sub, ar_mul, ar_div, ar_mod, ar_dec_t, ar_dec_f, ar_beq_t, ar_beq_f, ar_bne_t, ar_bne_f, ar_guard, or_guard, ar_take, ar_take_drop, ar_drop, Int.toNat_natCast, Int.reduceToNat])
      refine callC_fr [4, 3] (all_spec 128 (stirK colQ z i) (colQ i) (by intro j hj; unfold colQ; omega)) rfl rfl (by decide) ?_
      rintro _ _ ⟨rfl, rfl⟩
      repeat (first | simp only [c15_P, c15_odd, Nat.reduceBEq, layInts, layOnes, beq_self_eq_true, bne_self_eq_false, addPure, reduceIte, Nat.reduceEqDiff, reduceCtorEq, ne_eq, not_false_eq_true, not_true_eq_false, and_true, true_and, and_self, if_true, if_false, decide_true, decide_false, decide_eq_true_eq, exA, exA, tabs, exB, buildA, layA, rowPut, rowOr, rowSetAt, rowSet, rowTake, rowDrop, rowCell, rowAgg, mkAgg, AV.size, AV.isAggV, AV.parts, AV.one, AV.solid, headSize, psize, indexAddrA, indexA, fieldAddrA, fieldA, sliceA, boundsA, bndA, lenA, arrayAtA, rowOf, makeSliceA, intsOf, copyA, Nat.reduceAdd, Nat.reduceSub, Nat.reduceMul, Nat.reduceLeDiff, Nat.reduceLT, Nat.reduceGT, Int.reduceToNat, Int.reduceLE, Int.reduceLT, Int.reduceEq, Int.reduceNe, Int.reduceAdd, Int.reduceSub, Int.reduceMul, Int.reduceNeg, ge_iff_le, gt_iff_lt, or_true, true_or, or_false, false_or, not_true, not_false_iff, ite_true, ite_false, dite_true, take_app, take_blakeL, blakeL_len, run_range, c15_pure, c15_news, n10, N32_eq, n9, N31_eq, N58_eq, p9, F61_eq, fourL_len, p8, F74_eq, F75_32, F75_24, F75_16, F75_63, p7, F82_eq, p6, F34_eq, p5, F22_eq, p4, p3, p2, p1, F80_eq, F70_eq, F53_eq, F55_eq, F25_eq, F56_eq, F23_eq, n8, N30_nil, N30_ptr, N28_nil, N28_ptr, hashK_eq, hashR_eq, n7, n6, n5, N57_eq, N27_eq, N20_eq, N21_eq, addNews, allOf, hr, na, overwrite, renB, renL, AV.ren, frameMap, n0, n1] | simp (maxSteps := 1000000) (disch := omega) only [ar_nat, ar_u64, ar_add, ar_sub, ar_mul, ar_div, ar_mod, ar_dec_t, ar_dec_f, ar_beq_t, ar_beq_f, ar_bne_t, ar_bne_f, ar_guard, or_guard, ar_take, ar_take_drop, ar_drop, Int.toNat_natCast, Int.reduceToNat])
      have e : renL (frameMap [4, 3] 5) (ptr16 1 (colQ i)) = atK (oldC (i + 1)) (oldC (i + 1)) 0 := rfl
      (refine weak_of ?_ ?_; (focus (first | with_reducible rfl | (simp only [n0, n1, stirK, e] <;> with_reducible rfl))); simp only [envAll_cons, envAll_nil, get_put, get_envOf, get_envL_cons, get_envL_nil, Nat.reduceEqDiff, if_true, if_false, reduceIte, Option.some.injEq, and_self, reduceCtorEq, List.getD_cons_zero, List.getD_cons_succ, Int.cast_ofNat_Int, and_true, true_and, n0, n1, stirK, e])

  have h3l : (stirK colQ z 8).length = 128 := by rw [stirK_len, zl]
  repeat (first | simp only [c15_P, c15_odd, Nat.reduceBEq, layInts, layOnes, beq_self_eq_true, bne_self_eq_false, addPure, reduceIte, Nat.reduceEqDiff, reduceCtorEq, ne_eq, not_false_eq_true, not_true_eq_false, and_true, true_and, and_self, if_true, if_false, decide_true, decide_false, decide_eq_true_eq, exA, exA, tabs, exB, buildA, layA, rowPut, rowOr, rowSetAt, rowSet, rowTake, rowDrop, rowCell, rowAgg, mkAgg, AV.size, AV.isAggV, AV.parts, AV.one, AV.solid, headSize, psize, indexAddrA, indexA, fieldAddrA, fieldA, sliceA, boundsA, bndA, lenA, arrayAtA, rowOf, makeSliceA, intsOf, copyA, Nat.reduceAdd, Nat.reduceSub, Nat.reduceMul, Nat.reduceLeDiff, Nat.reduceLT, Nat.reduceGT, Int.reduceToNat, Int.reduceLE, Int.reduceLT, Int.reduceEq, Int.reduceNe, Int.reduceAdd, Int.reduceSub, Int.reduceMul, Int.reduceNeg, ge_iff_le, gt_iff_lt, or_true, true_or, or_false, false_or, not_true, not_false_iff, ite_true, ite_false, dite_true, take_app, take_blakeL, blakeL_len, run_range, c15_pure, c15_news, n10, N32_eq, n9, N31_eq, N58_eq, p9, F61_eq, fourL_len, p8, F74_eq, F75_32, F75_24, F75_16, F75_63, p7, F82_eq, p6, F34_eq, p5, F22_eq, p4, p3, p2, p1, F80_eq, F70_eq, F53_eq, F55_eq, F25_eq, F56_eq, F23_eq, n8, N30_nil, N30_ptr, N28_nil, N28_ptr, hashK_eq, hashR_eq, n7, n6, n5, N57_eq, N27_eq, N20_eq, N21_eq, addNews, allOf, hr, na] | simp (maxSteps := 1000000) (disch := omega) only [ar_nat, ar_u64, ar_add, ar_sub, ar_mul, ar_div, ar_mod, ar_dec_t, ar_dec_f, ar_beq_t, ar_beq_f, ar_bne_t, ar_bne_f, ar_guard, or_guard, ar_take, ar_take_drop, ar_drop, Int.toNat_natCast, Int.reduceToNat])
  generalize stirK colQ z 8 = u at h3l ⊢
  refine loop_count (good15 0) (fun i => ⟨envL [(2, .ptr 0 0 0), (4, .ptr 2 0 0), (6, .ptr 3 0 0), (63, .v (.int .i64 i))], [some [.arr 128 .u64 r], some [.arr 128 .u64 y], some [.arr 128 .u64 (List.replicate 128 0)], some [.arr 128 .u64 (xorK u r i)], some (atK (oldC 8) (oldC 8) 0)]⟩) 128 (by kernel_rfl) ?_ ?_ ?_
  · (refine weak_of ?_ ?_; (focus (first | with_reducible rfl | (simp only [xorK, n0] <;> with_reducible rfl))); simp only [envAll_cons, envAll_nil, get_put, get_envOf, get_envL_cons, get_envL_nil, Nat.reduceEqDiff, if_true, if_false, reduceIte, Option.some.injEq, and_self, reduceCtorEq, List.getD_cons_zero, List.getD_cons_succ, Int.cast_ofNat_Int, and_true, true_and, xorK, n0])
  · intro i hi
    repeat (first | simp only [c15_P, c15_odd, Nat.reduceBEq, layInts, layOnes, beq_self_eq_true, bne_self_eq_false, addPure, reduceIte, Nat.reduceEqDiff, reduceCtorEq, ne_eq, not_false_eq_true, not_true_eq_false, and_true, true_and, and_self, if_true, if_false, decide_true, decide_false, decide_eq_true_eq, exA, exA, tabs, exB, buildA, layA, rowPut, rowOr, rowSetAt, rowSet, rowTake, rowDrop, rowCell, rowAgg, mkAgg, AV.size, AV.isAggV, AV.parts, AV.one, AV.solid, headSize, psize, indexAddrA, indexA, fieldAddrA, fieldA, sliceA, boundsA, bndA, lenA, arrayAtA, rowOf, makeSliceA, intsOf, copyA, Nat.reduceAdd, Nat.reduceSub, Nat.reduceMul, Nat.reduceLeDiff, Nat.reduceLT, Nat.reduceGT, Int.reduceToNat, Int.reduceLE, Int.reduceLT, Int.reduceEq, Int.reduceNe, Int.reduceAdd, Int.reduceSub, Int.reduceMul, Int.reduceNeg, ge_iff_le, gt_iff_lt, or_true, true_or, or_false, false_or, not_true, not_false_iff, ite_true, ite_false, dite_true, take_app, take_blakeL, blakeL_len, run_range, c15_pure, c15_news, n10, N32_eq, n9, N31_eq, N58_eq, p9, F61_eq, fourL_len, p8, F74_eq, F75_32, F75_24, F75_16, F75_63, p7, F82_eq, p6, F34_eq, p5, F22_eq, p4, p3, p2, p1, F80_eq, F70_eq, F53_eq, F55_eq, F25_eq, F56_eq, F23_eq, n8, N30_nil, N30_ptr, N28_nil, N28_ptr, hashK_eq, hashR_eq, n7, n6, n5, N57_eq, N27_eq, N20_eq, N21_eq, addNews, allOf, hr, na] | simp (maxSteps := 1000000) (disch := omega) only [ar_nat, ar_u64, ar_add, ar_sub, ar_mul, ar_div, ar_mod, ar_dec_t, ar_dec_f, ar_beq_t, ar_beq_f, ar_bne_t, ar_bne_f, ar_guard, or_guard, ar_take, ar_take_drop, ar_drop, Int.toNat_natCast, Int.reduceToNat])
    repeat (with_reducible refine And.intro (by first | omega | assumption) ?_)
    (refine weak_of ?_ ?_; (focus (first | with_reducible rfl | (simp only [xorK] <;> with_reducible rfl))); simp only [envAll_cons, envAll_nil, get_put, get_envOf, get_envL_cons, get_envL_nil, Nat.reduceEqDiff, if_true, if_false, reduceIte, Option.some.injEq, and_self, reduceCtorEq, List.getD_cons_zero, List.getD_cons_succ, Int.cast_ofNat_Int, and_true, true_and, xorK])
  have h4l : (xorK u r 128).length = 128 := by rw [xorK_len, h3l]
  have h4t := take128 h4l
  repeat (first | simp only [c15_P, c15_odd, Nat.reduceBEq, layInts, layOnes, beq_self_eq_true, bne_self_eq_false, addPure, reduceIte, Nat.reduceEqDiff, reduceCtorEq, ne_eq, not_false_eq_true, not_true_eq_false, and_true, true_and, and_self, if_true, if_false, decide_true, decide_false, decide_eq_true_eq, exA, exA, tabs, exB, buildA, layA, rowPut, rowOr, rowSetAt, rowSet, rowTake, rowDrop, rowCell, rowAgg, mkAgg, AV.size, AV.isAggV, AV.parts, AV.one, AV.solid, headSize, psize, indexAddrA, indexA, fieldAddrA, fieldA, sliceA, boundsA, bndA, lenA, arrayAtA, rowOf, makeSliceA, intsOf, copyA, Nat.reduceAdd, Nat.reduceSub, Nat.reduceMul, Nat.reduceLeDiff, Nat.reduceLT, Nat.reduceGT, Int.reduceToNat, Int.reduceLE, Int.reduceLT, Int.reduceEq, Int.reduceNe, Int.reduceAdd, Int.reduceSub, Int.reduceMul, Int.reduceNeg, ge_iff_le, gt_iff_lt, or_true, true_or, or_false, false_or, not_true, not_false_iff, ite_true, ite_false, dite_true, take_app, take_blakeL, blakeL_len, run_range, c15_pure, c15_news, n10, N32_eq, n9, N31_eq, N58_eq, p9, F61_eq, fourL_len, p8, F74_eq, F75_32, F75_24, F75_16, F75_63, p7, F82_eq, p6, F34_eq, p5, F22_eq, p4, p3, p2, p1, F80_eq, F70_eq, F53_eq, F55_eq, F25_eq, F56_eq, F23_eq, n8, N30_nil, N30_ptr, N28_nil, N28_ptr, hashK_eq, hashR_eq, n7, n6, n5, N57_eq, N27_eq, N20_eq, N21_eq, addNews, allOf, hr, na, h4t] | simp (maxSteps := 1000000) (disch := omega) only [ar_nat, ar_u64, ar_add, ar_sub, ar_mul, ar_div, ar_mod, ar_dec_t, ar_dec_f, ar_beq_t, ar_beq_f, ar_bne_t, ar_bne_f, ar_guard, or_guard, ar_take, ar_take_drop, ar_drop, Int.toNat_natCast, Int.reduceToNat])
end Go.Proofs.Ytfnfmbikooeiaaa

namespace Go.Proofs.Ytfnfmbikooeiaaa
open Go.Ax
def rxK (x y : List Int) : Nat → List Int
  | 0 => List.replicate 128 0
  | i + 1 => (rxK x y i).set i (xorU (x.getD i 0) (y.getD i 0))
theorem rxK_len (x y : List Int) : ∀ i, (rxK x y i).length = 128
  | 0 => by simp [rxK]
  | i + 1 => by simp only [rxK, List.length_set]; exact rxK_len x y i
/-- sixteen words of a page are taken out -/
def gathK (z : List Int) (q : Nat → Nat) : Nat → List Int
  | 0 => List.replicate 16 0
  | k + 1 => (gathK z q k).set k (z.getD (q k) 0)
theorem gathK_len (z : List Int) (q : Nat → Nat) : ∀ i, (gathK z q i).length = 16
  | 0 => by simp [gathK]
  | i + 1 => by simp only [gathK, List.length_set]; exact gathK_len z q i
/-- and laid back -/
def scatK (z v : List Int) (q : Nat → Nat) : Nat → List Int
  | 0 => z
  | k + 1 => (scatK z v q k).set (q k) (v.getD k 0)
theorem scatK_len (z v : List Int) (q : Nat → Nat) : ∀ i, (scatK z v q i).length = z.length
  | 0 => rfl
  | i + 1 => by simp only [scatK, List.length_set]; exact scatK_len z v q i
def rstK (Q : Nat → Nat → Nat) (z : List Int) : Nat → List Int
  | 0 => z
  | i + 1 => scatK (rstK Q z i) (rstirL (gathK (rstK Q z i) (Q i) 16)) (Q i) 16
theorem rstK_len (Q : Nat → Nat → Nat) (z : List Int) : ∀ i, (rstK Q z i).length = z.length
  | 0 => rfl
  | i + 1 => by simp only [rstK, scatK_len]; exact rstK_len Q z i
def rpagesR (r : List Int) : List Int := xorK (rstK colQ (rstK rowQ r 8) 8) r 128
def rpagesL (x y : List Int) : List Int := rpagesR (rxK x y 128)
theorem take16 {l : List Int} (h : l.length = 16) : l.take 16 = l := List.take_of_length_le (by omega)
theorem rpages_spec (x y : List Int) (hx : x.length = 128) (hy : y.length = 128) :
    ACall Try.prog 41 [.arr 128 .u64 x, .arr 128 .u64 y] [] fun v _ => v = .arr 128 .u64 (rpagesL x y) := by
  have na : ∀ n : Nat, (0 : Int) ≤ n := fun n => Int.natCast_nonneg n
  have n0 : ((0 : Nat) : Int) = 0 := rfl
  refine acall_run (good16 0) Try.func41 rfl ⟨by kernel_rfl, by show 2 ≤ _; decide, by kernel_rfl, by kernel_rfl⟩ rfl ?_; have hr : Try.f41.results.toList = [.cell 4 53] := rfl
  repeat (first | simp only [c16_P, c16_odd, Nat.reduceBEq, layInts, layOnes, beq_self_eq_true, bne_self_eq_false, addPure, reduceIte, Nat.reduceEqDiff, reduceCtorEq, ne_eq, not_false_eq_true, not_true_eq_false, and_true, true_and, and_self, if_true, if_false, decide_true, decide_false, decide_eq_true_eq, exA, exA, tabs, exB, buildA, layA, rowPut, rowOr, rowSetAt, rowSet, rowTake, rowDrop, rowCell, rowAgg, mkAgg, AV.size, AV.isAggV, AV.parts, AV.one, AV.solid, headSize, psize, indexAddrA, indexA, fieldAddrA, fieldA, sliceA, boundsA, bndA, lenA, arrayAtA, rowOf, makeSliceA, intsOf, copyA, Nat.reduceAdd, Nat.reduceSub, Nat.reduceMul, Nat.reduceLeDiff, Nat.reduceLT, Nat.reduceGT, Int.reduceToNat, Int.reduceLE, Int.reduceLT, Int.reduceEq, Int.reduceNe, Int.reduceAdd, Int.reduceSub, Int.reduceMul, Int.reduceNeg, ge_iff_le, gt_iff_lt, or_true, true_or, or_false, false_or, not_true, not_false_iff, ite_true, ite_false, dite_true, take_app, take_blakeL, blakeL_len, run_range, c16_pure, c16_news, p10, F42_eq, F43_eq, n10, N32_eq, n9, N31_eq, N58_eq, p9, F61_eq, fourL_len, p8, F74_eq, F75_32, F75_24, F75_16, F75_63, p7, F82_eq, p6, F34_eq, p5, F22_eq, p4, p3, p2, p1, F80_eq, F70_eq, F53_eq, F55_eq, F25_eq, F56_eq, F23_eq, n8, N30_nil, N30_ptr, N28_nil, N28_ptr, hashK_eq, hashR_eq, n7, n6, n5, N57_eq, N27_eq, N20_eq, N21_eq, addNews, allOf, hr] | simp (maxSteps := 1000000) (disch := omega) only [ar_nat, ar_u64, ar_add, ar_sub, ar_mul, ar_div, ar_mod, ar_dec_t, ar_dec_f, ar_beq_t, ar_beq_f, ar_bne_t, ar_bne_f, ar_guard, or_guard, ar_take, ar_take_drop, ar_drop, Int.toNat_natCast, Int.reduceToNat])
  refine loop_count (good16 0) (fun i => ⟨envL [(2, .ptr 0 0 0), (3, .ptr 1 0 0), (4, .ptr 2 0 0), (5, .ptr 3 0 0), (6, .v (.int .i64 i))], [some [.arr 128 .u64 x], some [.arr 128 .u64 y], some [.arr 128 .u64 (List.replicate 128 0)], some [.arr 128 .u64 (rxK x y i)]]⟩) 128 (by kernel_rfl) ?_ ?_ ?_
  · (refine weak_of ?_ ?_; (focus (first | with_reducible rfl | (simp only [rxK] <;> with_reducible rfl))); simp only [envAll_cons, envAll_nil, get_put, get_envOf, get_envL_cons, get_envL_nil, Nat.reduceEqDiff, if_true, if_false, reduceIte, Option.some.injEq, and_self, reduceCtorEq, List.getD_cons_zero, List.getD_cons_succ, Int.cast_ofNat_Int, and_true, true_and, rxK])
  · intro i hi
    repeat (first | simp only [c16_P, c16_odd, Nat.reduceBEq, layInts, layOnes, beq_self_eq_true, bne_self_eq_false, addPure, reduceIte, Nat.reduceEqDiff, reduceCtorEq, ne_eq, not_false_eq_true, not_true_eq_false, and_true, true_and, and_self, if_true, if_false, decide_true, decide_false, decide_eq_true_eq, exA, exA, tabs, exB, buildA, layA, rowPut, rowOr, rowSetAt, rowSet, rowTake, rowDrop, rowCell, rowAgg, mkAgg, AV.size, AV.isAggV, AV.parts, AV.one, AV.solid, headSize, psize, indexAddrA, indexA, fieldAddrA, fieldA, sliceA, boundsA, bndA, lenA, arrayAtA, rowOf, makeSliceA, intsOf, copyA, Nat.reduceAdd, Nat.reduceSub, Nat.reduceMul, Nat.reduceLeDiff, Nat.reduceLT, Nat.reduceGT, Int.reduceToNat, Int.reduceLE, Int.reduceLT, Int.reduceEq, Int.reduceNe, Int.reduceAdd, Int.reduceSub, Int.reduceMul, Int.reduceNeg, ge_iff_le, gt_iff_lt, or_true, true_or, or_false, false_or, not_true, not_false_iff, ite_true, ite_false, dite_true, take_app, take_blakeL, blakeL_len, run_range, c16_pure, c16_news, p10, F42_eq, F43_eq, n10, N32_eq, n9, N31_eq, N58_eq, p9, F61_eq, fourL_len, p8, F74_eq, F75_32, F75_24, F75_16, F75_63, p7, F82_eq, p6, F34_eq, p5, F22_eq, p4, p3, p2, p1, F80_eq, F70_eq, F53_eq, F55_eq, F25_eq, F56_eq, F23_eq, n8, N30_nil, N30_ptr, N28_nil, N28_ptr, hashK_eq, hashR_eq, n7, n6, n5, N57_eq, N27_eq, N20_eq, N21_eq, addNews, allOf, hr, na] | simp (maxSteps := 1000000) (disch := omega) only [ar_nat, ar_u64, ar_add, ar_sub, ar_mul, ar_div, ar_mod, ar_dec_t, ar_dec_f, ar_beq_t, ar_beq_f, ar_bne_t, ar_bne_f, ar_guard, or_guard, ar_take, ar_take_drop, ar_drop, Int.toNat_natCast, Int.reduceToNat])
    repeat (with_reducible refine And.intro (by first | omega | assumption) ?_)
    (refine weak_of ?_ ?_; (focus (first | with_reducible rfl | (simp only [rxK] <;> with_reducible rfl))); simp only [envAll_cons, envAll_nil, get_put, get_envOf, get_envL_cons, get_envL_nil, Nat.reduceEqDiff, if_true, if_false, reduceIte, Option.some.injEq, and_self, reduceCtorEq, List.getD_cons_zero, List.getD_cons_succ, Int.cast_ofNat_Int, and_true, true_and, rxK])
  have h1l : (rxK x y 128).length = 128 := rxK_len x y 128
  have h1t : (rxK x y 128).take 128 = rxK x y 128 := take128 h1l
  repeat (first | simp only [c16_P, c16_odd, Nat.reduceBEq, layInts, layOnes, beq_self_eq_true, bne_self_eq_false, addPure, reduceIte, Nat.reduceEqDiff, reduceCtorEq, ne_eq, not_false_eq_true, not_true_eq_false, and_true, true_and, and_self, if_true, if_false, decide_true, decide_false, decide_eq_true_eq, exA, exA, tabs, exB, buildA, layA, rowPut, rowOr, rowSetAt, rowSet, rowTake, rowDrop, rowCell, rowAgg, mkAgg, AV.size, AV.isAggV, AV.parts, AV.one, AV.solid, headSize, psize, indexAddrA, indexA, fieldAddrA, fieldA, sliceA, boundsA, bndA, lenA, arrayAtA, rowOf, makeSliceA, intsOf, copyA, Nat.reduceAdd, Nat.reduceSub, Nat.reduceMul, Nat.reduceLeDiff, Nat.reduceLT, Nat.reduceGT, Int.reduceToNat, Int.reduceLE, Int.reduceLT, Int.reduceEq, Int.reduceNe, Int.reduceAdd, Int.reduceSub, Int.reduceMul, Int.reduceNeg, ge_iff_le, gt_iff_lt, or_true, true_or, or_false, false_or, not_true, not_false_iff, ite_true, ite_false, dite_true, take_app, take_blakeL, blakeL_len, run_range, c16_pure, c16_news, p10, F42_eq, F43_eq, n10, N32_eq, n9, N31_eq, N58_eq, p9, F61_eq, fourL_len, p8, F74_eq, F75_32, F75_24, F75_16, F75_63, p7, F82_eq, p6, F34_eq, p5, F22_eq, p4, p3, p2, p1, F80_eq, F70_eq, F53_eq, F55_eq, F25_eq, F56_eq, F23_eq, n8, N30_nil, N30_ptr, N28_nil, N28_ptr, hashK_eq, hashR_eq, n7, n6, n5, N57_eq, N27_eq, N20_eq, N21_eq, addNews, allOf, hr, na, h1t] | simp (maxSteps := 1000000) (disch := omega) only [ar_nat, ar_u64, ar_add, ar_sub, ar_mul, ar_div, ar_mod, ar_dec_t, ar_dec_f, ar_beq_t, ar_beq_f, ar_bne_t, ar_bne_f, ar_guard, or_guard, ar_take, ar_take_drop, ar_drop, Int.toNat_natCast, Int.reduceToNat])
  unfold rpagesL
  generalize rxK x y 128 = r at h1l h1t ⊢
  have rl : r.length = 128 := h1l
  refine loop_count (good16 0) (fun i => ⟨envL [(4, .ptr 2 0 0), (5, .ptr 3 0 0), (7, .ptr 4 0 0), (8, .v (.int .i64 i))], [some [.arr 128 .u64 x], some [.arr 128 .u64 y], some [.arr 128 .u64 (List.replicate 128 0)], some [.arr 128 .u64 r], some [.arr 128 .u64 (rstK rowQ r i)]]⟩) 8 (by kernel_rfl) ?_ ?_ ?_
  · (refine weak_of ?_ ?_; (focus (first | with_reducible rfl | (simp only [rstK, n0] <;> with_reducible rfl))); simp only [envAll_cons, envAll_nil, get_put, get_envOf, get_envL_cons, get_envL_nil, Nat.reduceEqDiff, if_true, if_false, reduceIte, Option.some.injEq, and_self, reduceCtorEq, List.getD_cons_zero, List.getD_cons_succ, Int.cast_ofNat_Int, and_true, true_and, rstK, n0])
  · intro i hi
    have hz := rstK_len rowQ r i
    rw [rl] at hz
    repeat (first | simp only [c16_P, c16_odd, Nat.reduceBEq, layInts, layOnes, beq_self_eq_true, bne_self_eq_false, addPure, reduceIte, Nat.reduceEqDiff, reduceCtorEq, ne_eq, not_false_eq_true, not_true_eq_false, and_true, true_and, and_self, if_true, if_false, decide_true, decide_false, decide_eq_true_eq, exA, exA, tabs, exB, buildA, layA, rowPut, rowOr, rowSetAt, rowSet, rowTake, rowDrop, rowCell, rowAgg, mkAgg, AV.size, AV.isAggV, AV.parts, AV.one, AV.solid, headSize, psize, indexAddrA, indexA, fieldAddrA, fieldA, sliceA, boundsA, bndA, lenA, arrayAtA, rowOf, makeSliceA, intsOf, copyA, Nat.reduceAdd, Nat.reduceSub, Nat.reduceMul, Nat.reduceLeDiff, Nat.reduceLT, Nat.reduceGT, Int.reduceToNat, Int.reduceLE, Int.reduceLT, Int.reduceEq, Int.reduceNe, Int.reduceAdd, Int.reduceSub, Int.reduceMul, Int.reduceNeg, ge_iff_le, gt_iff_lt, or_true, true_or, or_false, false_or, not_true, not_false_iff, ite_true, ite_false, dite_true, take_app, take_blakeL, blakeL_len, run_range, c16_pure, c16_news, p10, F42_eq, F43_eq, n10, N32_eq, n9, N31_eq, N58_eq, p9, F61_eq, fourL_len, p8, F74_eq, F75_32, F75_24, F75_16, F75_63, p7, F82_eq, p6, F34_eq, p5, F22_eq, p4, p3, p2, p1, F80_eq, F70_eq, F53_eq, F55_eq, F25_eq, F56_eq, F23_eq, n8, N30_nil, N30_ptr, N28_nil, N28_ptr, hashK_eq, hashR_eq, n7, n6, n5, N57_eq, N27_eq, N20_eq, N21_eq, addNews, allOf, hr, na] | simp (maxSteps := 1000000) (disch := omega) only [ar_nat, ar_u64, ar_add, ar_sub, ar_mul, ar_div, ar_mod, ar_dec_t, ar_dec_f, ar_beq_t, ar_beq_f, ar_bne_t, ar_bne_f, ar_guard, or_guard, ar_take, ar_take_drop, ar_drop, Int.toNat_natCast, Int.reduceToNat])
    refine loop_count (good16 0) (fun k => ⟨envL [(4, .ptr 2 0 0), (5, .ptr 3 0 0), (7, .ptr 4 0 0), (8, .v (.int .i64 i)), (9, .ptr 5 0 0), (10, .v (.int .i64 k))], [some [.arr 128 .u64 x], some [.arr 128 .u64 y], some [.arr 128 .u64 (List.replicate 128 0)], some [.arr 128 .u64 r], some [.arr 128 .u64 (rstK rowQ r i)], some [.arr 16 .u64 (gathK (rstK rowQ r i) (rowQ i) k)]]⟩) 16 (by kernel_rfl) ?_ ?_ ?_
    · (refine weak_of ?_ ?_; (focus (first | with_reducible rfl | (simp only [gathK, n0] <;> with_reducible rfl))); simp only [envAll_cons, envAll_nil, get_put, get_envOf, get_envL_cons, get_envL_nil, Nat.reduceEqDiff, if_true, if_false, reduceIte, Option.some.injEq, and_self, reduceCtorEq, List.getD_cons_zero, List.getD_cons_succ, Int.cast_ofNat_Int, and_true, true_and, gathK, n0])
    · intro k hk
      repeat (first | simp only [c16_P, c16_odd, Nat.reduceBEq, layInts, layOnes, beq_self_eq_true, bne_self_eq_false, addPure, reduceIte, Nat.reduceEqDiff, reduceCtorEq, ne_eq, not_false_eq_true, not_true_eq_false, and_true, true_and, and_self, if_true, if_false, decide_true, decide_false, decide_eq_true_eq, exA, exA, tabs, exB, buildA, layA, rowPut, rowOr, rowSetAt, rowSet, rowTake, rowDrop, rowCell, rowAgg, mkAgg, AV.size, AV.isAggV, AV.parts, AV.one, AV.solid, headSize, psize, indexAddrA, indexA, fieldAddrA, fieldA, sliceA, boundsA, bndA, lenA, arrayAtA, rowOf, makeSliceA, intsOf, copyA, Nat.reduceAdd, Nat.reduceSub, Nat.reduceMul, Nat.reduceLeDiff, Nat.reduceLT, Nat.reduceGT, Int.reduceToNat, Int.reduceLE, Int.reduceLT, Int.reduceEq, Int.reduceNe, Int.reduceAdd, Int.reduceSub, Int.reduceMul, Int.reduceNeg, ge_iff_le, gt_iff_lt, or_true, true_or, or_false, false_or, not_true, not_false_iff, ite_true, ite_false, dite_true, take_app, take_blakeL, blakeL_len, run_range, c16_pure, c16_news, p10, F42_eq, F43_eq, n10, N32_eq, n9, N31_eq, N58_eq, p9, F61_eq, fourL_len, p8, F74_eq, F75_32, F75_24, F75_16, F75_63, p7, F82_eq, p6, F34_eq, p5, F22_eq, p4, p3, p2, p1, F80_eq, F70_eq, F53_eq, F55_eq, F25_eq, F56_eq, F23_eq, n8, N30_nil, N30_ptr, N28_nil, N28_ptr, hashK_eq, hashR_eq, n7, n6, n5, N57_eq, N27_eq, N20_eq, N21_eq, addNews, allOf, hr, na] | simp (maxSteps := 1000000) (disch := omega) only [ar_nat, ar_u64, ar_add, ar_sub, ar_mul, ar_div, ar_mod, ar_dec_t, ar_dec_f, ar_beq_t, ar_beq_f, ar_bne_t, ar_bne_f, ar_guard, or_guard, ar_take, ar_take_drop, ar_drop, Int.toNat_natCast, Int.reduceToNat])
      repeat (with_reducible refine And.intro (by first | omega | assumption) ?_)
      (refine weak_of ?_ ?_; (focus (first | with_reducible rfl | (simp only [gathK, rowQ] <;> with_reducible rfl))); simp only [envAll_cons, envAll_nil, get_put, get_envOf, get_envL_cons, get_envL_nil, Nat.reduceEqDiff, if_true, if_false, reduceIte, Option.some.injEq, and_self, reduceCtorEq, List.getD_cons_zero, List.getD_cons_succ, Int.cast_ofNat_Int, and_true, true_and, gathK, rowQ])
    have hg := gathK_len (rstK rowQ r i) (rowQ i) 16
    have hg2 := take16 hg
    repeat (first | simp only [c16_P, c16_odd, Nat.reduceBEq, layInts, layOnes, beq_self_eq_true, bne_self_eq_false, addPure, reduceIte, Nat.reduceEqDiff, reduceCtorEq, ne_eq, not_false_eq_true, not_true_eq_false, and_true, true_and, and_self, if_true, if_false, decide_true, decide_false, decide_eq_true_eq, exA, exA, tabs, exB, buildA, layA, rowPut, rowOr, rowSetAt, rowSet, rowTake, rowDrop, rowCell, rowAgg, mkAgg, AV.size, AV.isAggV, AV.parts, AV.one, AV.solid, headSize, psize, indexAddrA, indexA, fieldAddrA, fieldA, sliceA, boundsA, bndA, lenA, arrayAtA, rowOf, makeSliceA, intsOf, copyA, Nat.reduceAdd, Nat.reduceSub, Nat.reduceMul, Nat.reduceLeDiff, Nat.reduceLT, Nat.reduceGT, Int.reduceToNat, Int.reduceLE, Int.reduceLT, Int.reduceEq, Int.reduceNe, Int.reduceAdd, Int.reduceSub, Int.reduceMul, Int.reduceNeg, ge_iff_le, gt_iff_lt, or_true, true_or, or_false, false_or, not_true, not_false_iff, ite_true, ite_false, dite_true, take_app, take_blakeL, blakeL_len, run_range, c16_pure, c16_news, p10, F42_eq, F43_eq, n10, N32_eq, n9, N31_eq, N58_eq, p9, F61_eq, fourL_len, p8, F74_eq, F75_32, F75_24, F75_16, F75_63, p7, F82_eq, p6, F34_eq, p5, F22_eq, p4, p3, p2, p1, F80_eq, F70_eq, F53_eq, F55_eq, F25_eq, F56_eq, F23_eq, n8, N30_nil, N30_ptr, N28_nil, N28_ptr, hashK_eq, hashR_eq, n7, n6, n5, N57_eq, N27_eq, N20_eq, N21_eq, addNews, allOf, hr, na, hg2, hg] | simp (maxSteps := 1000000) (disch := omega) only [ar_nat, ar_u64, ar_add, ar_sub, ar_mul, ar_div, ar_mod, ar_dec_t, ar_dec_f, ar_beq_t, ar_beq_f, ar_bne_t, ar_bne_f, ar_guard, or_guard, ar_take, ar_take_drop, ar_drop, Int.toNat_natCast, Int.reduceToNat])
    have hv : (rstirL (gathK (rstK rowQ r i) (rowQ i) 16)).length = 16 := by rw [rstirL_len, hg]
    have hv2 := take16 hv
    generalize hve : rstirL (gathK (rstK rowQ r i) (rowQ i) 16) = v at hv hv2 ⊢
    refine loop_count (good16 0) (fun k => ⟨envL [(4, .ptr 2 0 0), (5, .ptr 3 0 0), (7, .ptr 4 0 0), (8, .v (.int .i64 i)), (9, .ptr 5 0 0), (11, .v (.int .i64 k))], [some [.arr 128 .u64 x], some [.arr 128 .u64 y], some [.arr 128 .u64 (List.replicate 128 0)], some [.arr 128 .u64 r], some [.arr 128 .u64 (scatK (rstK rowQ r i) v (rowQ i) k)], some [.arr 16 .u64 v]]⟩) 16 (by kernel_rfl) ?_ ?_ ?_
    · (refine weak_of ?_ ?_; (focus (first | with_reducible rfl | (simp only [scatK, n0] <;> with_reducible rfl))); simp only [envAll_cons, envAll_nil, get_put, get_envOf, get_envL_cons, get_envL_nil, Nat.reduceEqDiff, if_true, if_false, reduceIte, Option.some.injEq, and_self, reduceCtorEq, List.getD_cons_zero, List.getD_cons_succ, Int.cast_ofNat_Int, and_true, true_and, scatK, n0])
    · intro k hk
      repeat (first | simp only [c16_P, c16_odd, Nat.reduceBEq, layInts, layOnes, beq_self_eq_true, bne_self_eq_false, addPure, reduceIte, Nat.reduceEqDiff, reduceCtorEq, ne_eq, not_false_eq_true, not_true_eq_false, and_true, true_and, and_self, if_true, if_false, decide_true, decide_false, decide_eq_true_eq, exA, exA, tabs, exB, buildA, layA, rowPut, rowOr, rowSetAt, rowSet, rowTake, rowDrop, rowCell, rowAgg, mkAgg, AV.size, AV.isAggV, AV.parts, AV.one, AV.solid, headSize, psize, indexAddrA, indexA, fieldAddrA, fieldA, sliceA, boundsA, bndA, lenA, arrayAtA, rowOf, makeSliceA, intsOf, copyA, Nat.reduceAdd, Nat.reduceSub, Nat.reduceMul, Nat.reduceLeDiff, Nat.reduceLT, Nat.reduceGT, Int.reduceToNat, Int.reduceLE, Int.reduceLT, Int.reduceEq, Int.reduceNe, Int.reduceAdd, Int.reduceSub, Int.reduceMul, Int.reduceNeg, ge_iff_le, gt_iff_lt, or_true, true_or, or_false, false_or, not_true, not_false_iff, ite_true, ite_false, dite_true, take_app, take_blakeL, blakeL_len, run_range, c16_pure, c16_news, p10, F42_eq, F43_eq, n10, N32_eq, n9, N31_eq, N58_eq, p9, F61_eq, fourL_len, p8, F74_eq, F75_32, F75_24, F75_16, F75_63, p7, F82_eq, p6, F34_eq, p5, F22_eq, p4, p3, p2, p1, F80_eq, F70_eq, F53_eq, F55_eq, F25_eq, F56_eq, F23_eq, n8, N30_nil, N30_ptr, N28_nil, N28_ptr, hashK_eq, hashR_eq, n7, n6, n5, N57_eq, N27_eq, N20_eq, N21_eq, addNews, allOf, hr, na] | simp (maxSteps := 1000000) (disch := omega) only [ar_nat, ar_u64, ar_add, ar_sub, ar_mul, ar_div, ar_mod, ar_dec_t, ar_dec_f, ar_beq_t, ar_beq_f, ar_bne_t, ar_bne_f, ar_guard, or_guard, ar_take, ar_take_drop, ar_drop, Int.toNat_natCast, Int.reduceToNat])
      repeat (with_reducible refine And.intro (by first | omega | assumption) ?_)
      (refine weak_of ?_ ?_; (focus (first | with_reducible rfl | (simp only [scatK, rowQ] <;> with_reducible rfl))); simp only [envAll_cons, envAll_nil, get_put, get_envOf, get_envL_cons, get_envL_nil, Nat.reduceEqDiff, if_true, if_false, reduceIte, Option.some.injEq, and_self, reduceCtorEq, List.getD_cons_zero, List.getD_cons_succ, Int.cast_ofNat_Int, and_true, true_and, scatK, rowQ])
    · repeat (first | simp only [c16_P, c16_odd, Nat.reduceBEq, layInts, layOnes, beq_self_eq_true, bne_self_eq_false, addPure, reduceIte, Nat.reduceEqDiff, reduceCtorEq, ne_eq, not_false_eq_true, not_true_eq_false, and_true, true_and, and_self, if_true, if_false, decide_true, decide_false, decide_eq_true_eq, exA, exA, tabs, exB, buildA, layA, rowPut, rowOr, rowSetAt, rowSet, rowTake, rowDrop, rowCell, rowAgg, mkAgg, AV.size, AV.isAggV, AV.parts, AV.one, AV.solid, headSize, psize, indexAddrA, indexA, fieldAddrA, fieldA, sliceA, boundsA, bndA, lenA, arrayAtA, rowOf, makeSliceA, intsOf, copyA, Nat.reduceAdd, Nat.reduceSub, Nat.reduceMul, Nat.reduceLeDiff, Nat.reduceLT, Nat.reduceGT, Int.reduceToNat, Int.reduceLE, Int.reduceLT, Int.reduceEq, Int.reduceNe, Int.reduceAdd, Int.reduceSub, Int.reduceMul, Int.reduceNeg, ge_iff_le, gt_iff_lt, or_true, true_or, or_false, false_or, not_true, not_false_iff, ite_true, ite_false, dite_true, take_app, take_blakeL, blakeL_len, run_range, c16_pure, c16_news, p10, F42_eq, F43_eq, n10, N32_eq, n9, N31_eq, N58_eq, p9, F61_eq, fourL_len, p8, F74_eq, F75_32, F75_24, F75_16, F75_63, p7, F82_eq, p6, F34_eq, p5, F22_eq, p4, p3, p2, p1, F80_eq, F70_eq, F53_eq, F55_eq, F25_eq, F56_eq, F23_eq, n8, N30_nil, N30_ptr, N28_nil, N28_ptr, hashK_eq, hashR_eq, n7, n6, n5, N57_eq, N27_eq, N20_eq, N21_eq, addNews, allOf, hr, na] | simp (maxSteps := 1000000) (disch := omega) only [ar_nat, ar_u64, ar_add, ar_sub, ar_mul, ar_div, ar_mod, ar_dec_t, ar_dec_f, ar_beq_t, ar_beq_f, ar_bne_t, ar_bne_f, ar_guard, or_guard, ar_take, ar_take_drop, ar_drop, Int.toNat_natCast, Int.reduceToNat])
      (refine weak_gc' [0, 1, 2, 3, 4] (by decide) (by simp) (by rfl) ?_ ?_; (focus (first | with_reducible rfl | (simp only [List.map_cons, List.map_nil, List.cons_append, List.nil_append, List.getElem?_cons_zero, List.getElem?_cons_succ, renB, renL, Option.map_some, Option.map_none, AV.ren, gcMap, List.getD_cons_zero, List.getD_cons_succ, rstK, hve] <;> with_reducible rfl))); simp only [List.map_cons, List.map_nil, List.length_cons, List.length_nil, Nat.reduceAdd, AV.ren, renL, gcMap, envAll_cons, envAll_nil, get_put, get_envOf, get_envL_cons, get_envL_nil, Nat.reduceEqDiff, if_true, if_false, reduceIte, Option.some.injEq, and_self, reduceCtorEq, List.getD_cons_zero, List.getD_cons_succ, Int.cast_ofNat_Int, and_true, true_and, rstK, hve])
  have h2l : (rstK rowQ r 8).length = 128 := by rw [rstK_len, rl]
  repeat (first | simp only [c16_P, c16_odd, Nat.reduceBEq, layInts, layOnes, beq_self_eq_true, bne_self_eq_false, addPure, reduceIte, Nat.reduceEqDiff, reduceCtorEq, ne_eq, not_false_eq_true, not_true_eq_false, and_true, true_and, and_self, if_true, if_false, decide_true, decide_false, decide_eq_true_eq, exA, exA, tabs, exB, buildA, layA, rowPut, rowOr, rowSetAt, rowSet, rowTake, rowDrop, rowCell, rowAgg, mkAgg, AV.size, AV.isAggV, AV.parts, AV.one, AV.solid, headSize, psize, indexAddrA, indexA, fieldAddrA, fieldA, sliceA, boundsA, bndA, lenA, arrayAtA, rowOf, makeSliceA, intsOf, copyA, Nat.reduceAdd, Nat.reduceSub, Nat.reduceMul, Nat.reduceLeDiff, Nat.reduceLT, Nat.reduceGT, Int.reduceToNat, Int.reduceLE, Int.reduceLT, Int.reduceEq, Int.reduceNe, Int.reduceAdd, Int.reduceSub, Int.reduceMul, Int.reduceNeg, ge_iff_le, gt_iff_lt, or_true, true_or, or_false, false_or, not_true, not_false_iff, ite_true, ite_false, dite_true, take_app, take_blakeL, blakeL_len, run_range, c16_pure, c16_news, p10, F42_eq, F43_eq, n10, N32_eq, n9, N31_eq, N58_eq, p9, F61_eq, fourL_len, p8, F74_eq, F75_32, F75_24, F75_16, F75_63, p7, F82_eq, p6, F34_eq, p5, F22_eq, p4, p3, p2, p1, F80_eq, F70_eq, F53_eq, F55_eq, F25_eq, F56_eq, F23_eq, n8, N30_nil, N30_ptr, N28_nil, N28_ptr, hashK_eq, hashR_eq, n7, n6, n5, N57_eq, N27_eq, N20_eq, N21_eq, addNews, allOf, hr, na] | simp (maxSteps := 1000000) (disch := omega) only [ar_nat, ar_u64, ar_add, ar_sub, ar_mul, ar_div, ar_mod, ar_dec_t, ar_dec_f, ar_beq_t, ar_beq_f, ar_bne_t, ar_bne_f, ar_guard, or_guard, ar_take, ar_take_drop, ar_drop, Int.toNat_natCast, Int.reduceToNat])
  have hR : rpagesR r = xorK (rstK colQ (rstK rowQ r 8) 8) r 128 := rfl
  rw [hR]
  generalize rstK rowQ r 8 = z at h2l ⊢
  have zl : z.length = 128 := h2l
  refine loop_count (good16 0) (fun i => ⟨envL [(4, .ptr 2 0 0), (5, .ptr 3 0 0), (7, .ptr 4 0 0), (12, .v (.int .i64 i))], [some [.arr 128 .u64 x], some [.arr 128 .u64 y], some [.arr 128 .u64 (List.replicate 128 0)], some [.arr 128 .u64 r], some [.arr 128 .u64 (rstK colQ z i)]]⟩) 8 (by kernel_rfl) ?_ ?_ ?_
  · (refine weak_of ?_ ?_; (focus (first | with_reducible rfl | (simp only [rstK, n0] <;> with_reducible rfl))); simp only [envAll_cons, envAll_nil, get_put, get_envOf, get_envL_cons, get_envL_nil, Nat.reduceEqDiff, if_true, if_false, reduceIte, Option.some.injEq, and_self, reduceCtorEq, List.getD_cons_zero, List.getD_cons_succ, Int.cast_ofNat_Int, and_true, true_and, rstK, n0])
  · intro i hi
    have hz := rstK_len colQ z i
    rw [zl] at hz
    repeat (first | simp only [c16_P, c16_odd, Nat.reduceBEq, layInts, layOnes, beq_self_eq_true, bne_self_eq_false, addPure, reduceIte, Nat.reduceEqDiff, reduceCtorEq, ne_eq, not_false_eq_true, not_true_eq_false, and_true, true_and, and_self, if_true, if_false, decide_true, decide_false, decide_eq_true_eq, exA, exA, tabs, exB, buildA, layA, rowPut, rowOr, rowSetAt, rowSet, rowTake, rowDrop, rowCell, rowAgg, mkAgg, AV.size, AV.isAggV, AV.parts, AV.one, AV.solid, headSize, psize, indexAddrA, indexA, fieldAddrA, fieldA, sliceA, boundsA, bndA, lenA, arrayAtA, rowOf, makeSliceA, intsOf, copyA, Nat.reduceAdd, Nat.reduceSub, Nat.reduceMul, Nat.reduceLeDiff, Nat.reduceLT, Nat.reduceGT, Int.reduceToNat, Int.reduceLE, Int.reduceLT, Int.reduceEq, Int.reduceNe, Int.reduceAdd, Int.reduceSub, Int.reduceMul, Int.reduceNeg, ge_iff_le, gt_iff_lt, or_true, true_or, or_false, false_or, not_true, not_false_iff, ite_true, ite_false, dite_true, take_app, take_blakeL, blakeL_len, run_range, c16_pure, c16_news, p10, F42_eq, F43_eq, n10, N32_eq, n9, N31_eq, N58_eq, p9, F61_eq, fourL_len, p8, F74_eq, F75_32, F75_24, F75_16, F75_63, p7, F82_eq, p6, F34_eq, p5, F22_eq, p4, p3, p2, p1, F80_eq, F70_eq, F53_eq, F55_eq, F25_eq, F56_eq, F23_eq, n8, N30_nil, N30_ptr, N28_nil, N28_ptr, hashK_eq, hashR_eq, n7, n6, n5, N57_eq, N27_eq, N20_eq, N21_eq, addNews, allOf, hr, na] | simp (maxSteps := 1000000) (disch := omega) only [ar_nat, ar_u64, ar_add, ar_sub, ar_mul, ar_div, ar_mod, ar_dec_t, ar_dec_f, ar_beq_t, ar_beq_f, ar_bne_t, ar_bne_f, ar_guard, or_guard, ar_take, ar_take_drop, ar_drop, Int.toNat_natCast, Int.reduceToNat])
    refine loop_count (good16 0) (fun k => ⟨envL [(4, .ptr 2 0 0), (5, .ptr 3 0 0), (7, .ptr 4 0 0), (12, .v (.int .i64 i)), (13, .ptr 5 0 0), (14, .v (.int .i64 k))], [some [.arr 128 .u64 x], some [.arr 128 .u64 y], some [.arr 128 .u64 (List.replicate 128 0)], some [.arr 128 .u64 r], some [.arr 128 .u64 (rstK colQ z i)], some [.arr 16 .u64 (gathK (rstK colQ z i) (colQ i) k)]]⟩) 16 (by kernel_rfl) ?_ ?_ ?_
    · (refine weak_of ?_ ?_; (focus (first | with_reducible rfl | (simp only [gathK, n0] <;> with_reducible rfl))); simp only [envAll_cons, envAll_nil, get_put, get_envOf, get_envL_cons, get_envL_nil, Nat.reduceEqDiff, if_true, if_false, reduceIte, Option.some.injEq, and_self, reduceCtorEq, List.getD_cons_zero, List.getD_cons_succ, Int.cast_ofNat_Int, and_true, true_and, gathK, n0])
    · intro k hk
      repeat (first | simp only [c16_P, c16_odd, Nat.reduceBEq, layInts, layOnes, beq_self_eq_true, bne_self_eq_false, addPure, reduceIte, Nat.reduceEqDiff, reduceCtorEq, ne_eq, not_false_eq_true, not_true_eq_false, and_true, true_and, and_self, if_true, if_false, decide_true, decide_false, decide_eq_true_eq, exA, exA, tabs, exB, buildA, layA, rowPut, rowOr, rowSetAt, rowSet, rowTake, rowDrop, rowCell, rowAgg, mkAgg, AV.size, AV.isAggV, AV.parts, AV.one, AV.solid, headSize, psize, indexAddrA, indexA, fieldAddrA, fieldA, sliceA, boundsA, bndA, lenA, arrayAtA, rowOf, makeSliceA, intsOf, copyA, Nat.reduceAdd, Nat.reduceSub, Nat.reduceMul, Nat.reduceLeDiff, Nat.reduceLT, Nat.reduceGT, Int.reduceToNat, Int.reduceLE, Int.reduceLT, Int.reduceEq, Int.reduceNe, Int.reduceAdd, Int.reduceSub, Int.reduceMul, Int.reduceNeg, ge_iff_le, gt_iff_lt, or_true, true_or, or_false, false_or, not_true, not_false_iff, ite_true, ite_false, dite_true, take_app, take_blakeL, blakeL_len, run_range, c16_pure, c16_news, p10, F42_eq, F43_eq, n10, N32_eq, n9, N31_eq, N58_eq, p9, F61_eq, fourL_len, p8, F74_eq, F75_32, F75_24, F75_16, F75_63, p7, F82_eq, p6, F34_eq, p5, F22_eq, p4, p3, p2, p1, F80_eq, F70_eq, F53_eq, F55_eq, F25_eq, F56_eq, F23_eq, n8, N30_nil, N30_ptr, N28_nil, N28_ptr, hashK_eq, hashR_eq, n7, n6, n5, N57_eq, N27_eq, N20_eq, N21_eq, addNews, allOf, hr, na] | simp (maxSteps := 1000000) (disch := omega) only [ar_nat, ar_u64, ar_add, ar_sub, ar_mul, ar_div, ar_mod, ar_dec_t, ar_dec_f, ar_beq_t, ar_beq_f, ar_bne_t, ar_bne_f, ar_guard, or_guard, ar_take, ar_take_drop, ar_drop, Int.toNat_natCast, Int.reduceToNat])
      repeat (with_reducible refine And.intro (by first | omega | assumption) ?_)
      (refine weak_of ?_ ?_; (focus (first | with_reducible rfl | (simp only [gathK, colQ] <;> with_reducible rfl))); simp only [envAll_cons, envAll_nil, get_put, get_envOf, get_envL_cons, get_envL_nil, Nat.reduceEqDiff, if_true, if_false, reduceIte, Option.some.injEq, and_self, reduceCtorEq, List.getD_cons_zero, List.getD_cons_succ, Int.cast_ofNat_Int, and_true, true_and, gathK, colQ])
    have hg := gathK_len (rstK colQ z i) (colQ i) 16
    have hg2 := take16 hg
    repeat (first | simp only [c16_P, c16_odd, Nat.reduceBEq, layInts, layOnes, beq_self_eq_true, bne_self_eq_false, addPure, reduceIte, Nat.reduceEqDiff, reduceCtorEq, ne_eq, not_false_eq_true, not_true_eq_false, and_true, true_and, and_self, if_true, if_false, decide_true, decide_false, decide_eq_true_eq, exA, exA, tabs, exB, buildA, layA, rowPut, rowOr, rowSetAt, rowSet, rowTake, rowDrop, rowCell, rowAgg, mkAgg, AV.size, AV.isAggV, AV.parts, AV.one, AV.solid, headSize, psize, indexAddrA, indexA, fieldAddrA, fieldA, sliceA, boundsA, bndA, lenA, arrayAtA, rowOf, makeSliceA, intsOf, copyA, Nat.reduceAdd, Nat.reduceSub, Nat.reduceMul, Nat.reduceLeDiff, Nat.reduceLT, Nat.reduceGT, Int.reduceToNat, Int.reduceLE, Int.reduceLT, Int.reduceEq, Int.reduceNe, Int.reduceAdd, Int.reduceSub, Int.reduceMul, Int.reduceNeg, ge_iff_le, gt_iff_lt, or_true, true_or, or_false, false_or, not_true, not_false_iff, ite_true, ite_false, dite_true, take_app, take_blakeL, blakeL_len, run_range, c16_pure, c16_news, p10, F42_eq, F43_eq, n10, N32_eq, n9, N31_eq, N58_eq, p9, F61_eq, fourL_len, p8, F74_eq, F75_32, F75_24, F75_16, F75_63, p7, F82_eq, p6, F34_eq, p5, F22_eq, p4, p3, p2, p1, F80_eq, F70_eq, F53_eq, F55_eq, F25_eq, F56_eq, F23_eq, n8, N30_nil, N30_ptr, N28_nil, N28_ptr, hashK_eq, hashR_eq, n7, n6, n5, N57_eq, N27_eq, N20_eq, N21_eq, addNews, allOf, hr, na, hg2, hg] | simp (maxSteps := 1000000) (disch := omega) only [ar_nat, ar_u64, ar_add, ar_sub, ar_mul, ar_div, ar_mod, ar_dec_t, ar_dec_f, ar_beq_t, ar_beq_f, ar_bne_t, ar_bne_f, ar_guard, or_guard, ar_take, ar_take_drop, ar_drop, Int.toNat_natCast, Int.reduceToNat])
    have hv : (rstirL (gathK (rstK colQ z i) (colQ i) 16)).length = 16 := by rw [rstirL_len, hg]
    have hv2 := take16 hv
    generalize hve : rstirL (gathK (rstK colQ z i) (colQ i) 16) = v at hv hv2 ⊢
    refine loop_count (good16 0) (fun k => ⟨envL [(4, .ptr 2 0 0), (5, .ptr 3 0 0), (7, .ptr 4 0 0), (12, .v (.int .i64 i)), (13, .ptr 5 0 0), (15, .v (.int .i64 k))], [some [.arr 128 .u64 x], some [.arr 128 .u64 y], some [.arr 128 .u64 (List.replicate 128 0)], some [.arr 128 .u64 r], some [.arr 128 .u64 (scatK (rstK colQ z i) v (colQ i) k)], some [.arr 16 .u64 v]]⟩) 16 (by kernel_rfl) ?_ ?_ ?_
    · (refine weak_of ?_ ?_; (focus (first | with_reducible rfl | (simp only [scatK, n0] <;> with_reducible rfl))); simp only [envAll_cons, envAll_nil, get_put, get_envOf, get_envL_cons, get_envL_nil, Nat.reduceEqDiff, if_true, if_false, reduceIte, Option.some.injEq, and_self, reduceCtorEq, List.getD_cons_zero, List.getD_cons_succ, Int.cast_ofNat_Int, and_true, true_and, scatK, n0])
    · intro k hk
      repeat (first | simp only [c16_P, c16_odd, Nat.reduceBEq, layInts, layOnes, beq_self_eq_true, bne_self_eq_false, addPure, reduceIte, Nat.reduceEqDiff, reduceCtorEq, ne_eq, not_false_eq_true, not_true_eq_false, and_true, true_and, and_self, if_true, if_false, decide_true, decide_false, decide_eq_true_eq, exA, exA, tabs, exB, buildA, layA, rowPut, rowOr, rowSetAt, rowSet, rowTake, rowDrop, rowCell, rowAgg, mkAgg, AV.size, AV.isAggV, AV.parts, AV.one, AV.solid, headSize, psize, indexAddrA, indexA, fieldAddrA, fieldA, sliceA, boundsA, bndA, lenA, arrayAtA, rowOf, makeSliceA, intsOf, copyA, Nat.reduceAdd, Nat.reduceSub, Nat.reduceMul, Nat.reduceLeDiff, Nat.reduceLT, Nat.reduceGT, Int.reduceToNat, Int.reduceLE, Int.reduceLT, Int.reduceEq, Int.reduceNe, Int.reduceAdd, Int.reduceSub, Int.reduceMul, Int.reduceNeg, ge_iff_le, gt_iff_lt, or_true, true_or, or_false, false_or, not_true, not_false_iff, ite_true, ite_false, dite_true, take_app, take_blakeL, blakeL_len, run_range, c16_pure, c16_news, p10, F42_eq, F43_eq, n10, N32_eq, n9, N31_eq, N58_eq, p9, F61_eq, fourL_len, p8, F74_eq, F75_32, F75_24, F75_16, F75_63, p7, F82_eq, p6, F34_eq, p5, F22_eq, p4, p3, p2, p1, F80_eq, F70_eq, F53_eq, F55_eq, F25_eq, F56_eq, F23_eq, n8, N30_nil, N30_ptr, N28_nil, N28_ptr, hashK_eq, hashR_eq, n7, n6, n5, N57_eq, N27_eq, N20_eq, N21_eq, addNews, allOf, hr, na] | simp (maxSteps := 1000000) (disch := omega) only [ar_nat, ar_u64, ar_add, ar_sub, ar_mul, ar_div, ar_mod, ar_dec_t, ar_dec_f, ar_beq_t, ar_beq_f, ar_bne_t, ar_bne_f, ar_guard, or_guard, ar_take, ar_take_drop, ar_drop, Int.toNat_natCast, Int.reduceToNat])
      repeat (with_reducible refine And.intro (by first | omega | assumption) ?_)
      (refine weak_of ?_ ?_; (focus (first | with_reducible rfl | (simp only [scatK, colQ] <;> with_reducible rfl))); simp only [envAll_cons, envAll_nil, get_put, get_envOf, get_envL_cons, get_envL_nil, Nat.reduceEqDiff, if_true, if_false, reduceIte, Option.some.injEq, and_self, reduceCtorEq, List.getD_cons_zero, List.getD_cons_succ, Int.cast_ofNat_Int, and_true, true_and, scatK, colQ])
    · repeat (first | simp only [c16_P, c16_odd, Nat.reduceBEq, layInts, layOnes, beq_self_eq_true, bne_self_eq_false, addPure, reduceIte, Nat.reduceEqDiff, reduceCtorEq, ne_eq, not_false_eq_true, not_true_eq_false, and_true, true_and, and_self, if_true, if_false, decide_true, decide_false, decide_eq_true_eq, exA, exA, tabs, exB, buildA, layA, rowPut, rowOr, rowSetAt, rowSet, rowTake, rowDrop, rowCell, rowAgg, mkAgg, AV.size, AV.isAggV, AV.parts, AV.one, AV.solid, headSize, psize, indexAddrA, indexA, fieldAddrA, fieldA, sliceA, boundsA, bndA, lenA, arrayAtA, rowOf, makeSliceA, intsOf, copyA, Nat.reduceAdd, Nat.reduceSub, Nat.reduceMul, Nat.reduceLeDiff, Nat.reduceLT, Nat.reduceGT, Int.reduceToNat, Int.reduceLE, Int.reduceLT, Int.reduceEq, Int.reduceNe, Int.reduceAdd, Int.reduceSub, Int.reduceMul, Int.reduceNeg, ge_iff_le, gt_iff_lt, or_true, true_or, or_false, false_or, not_true, not_false_iff, ite_true, ite_false, dite_true, take_app, take_blakeL, blakeL_len, run_range, c16_pure, c16_news, p10, F42_eq, F43_eq, n10, N32_eq, n9, N31_eq, N58_eq, p9, F61_eq, fourL_len, p8, F74_eq, F75_32, F75_24, F75_16, F75_63, p7, F82_eq, p6, F34_eq, p5, F22_eq, p4, p3, p2, p1, F80_eq, F70_eq, F53_eq, F55_eq, F25_eq, F56_eq, F23_eq, n8, N30_nil, N30_ptr, N28_nil, N28_ptr, hashK_eq, hashR_eq, n7, n6, n5, N57_eq, N27_eq, N20_eq, N21_eq, addNews, allOf, hr, na] | simp (maxSteps := 1000000) (disch := omega) only [ar_nat, ar_u64, ar_add, ar_sub, ar_mul, ar_div, ar_mod, ar_dec_t, ar_dec_f, ar_beq_t, ar_beq_f, ar_bne_t, ar_bne_f, ar_guard, or_guard, ar_take, ar_take_drop, ar_drop, Int.toNat_natCast, Int.reduceToNat])
      (refine weak_gc' [0, 1, 2, 3, 4] (by decide) (by simp) (by rfl) ?_ ?_; (focus (first | with_reducible rfl | (simp only [List.map_cons, List.map_nil, List.cons_append, List.nil_append, List.getElem?_cons_zero, List.getElem?_cons_succ, renB, renL, Option.map_some, Option.map_none, AV.ren, gcMap, List.getD_cons_zero, List.getD_cons_succ, rstK, hve] <;> with_reducible rfl))); simp only [List.map_cons, List.map_nil, List.length_cons, List.length_nil, Nat.reduceAdd, AV.ren, renL, gcMap, envAll_cons, envAll_nil, get_put, get_envOf, get_envL_cons, get_envL_nil, Nat.reduceEqDiff, if_true, if_false, reduceIte, Option.some.injEq, and_self, reduceCtorEq, List.getD_cons_zero, List.getD_cons_succ, Int.cast_ofNat_Int, and_true, true_and, rstK, hve])
  have h3l : (rstK colQ z 8).length = 128 := by rw [rstK_len, zl]
  repeat (first | simp only [c16_P, c16_odd, Nat.reduceBEq, layInts, layOnes, beq_self_eq_true, bne_self_eq_false, addPure, reduceIte, Nat.reduceEqDiff, reduceCtorEq, ne_eq, not_false_eq_true, not_true_eq_false, and_true, true_and, and_self, if_true, if_false, decide_true, decide_false, decide_eq_true_eq, exA, exA, tabs, exB, buildA, layA, rowPut, rowOr, rowSetAt, rowSet, rowTake, rowDrop, rowCell, rowAgg, mkAgg, AV.size, AV.isAggV, AV.parts, AV.one, AV.solid, headSize, psize, indexAddrA, indexA, fieldAddrA, fieldA, sliceA, boundsA, bndA, lenA, arrayAtA, rowOf, makeSliceA, intsOf, copyA, Nat.reduceAdd, Nat.reduceSub, Nat.reduceMul, Nat.reduceLeDiff, Nat.reduceLT, Nat.reduceGT, Int.reduceToNat, Int.reduceLE, Int.reduceLT, Int.reduceEq, Int.reduceNe, Int.reduceAdd, Int.reduceSub, Int.reduceMul, Int.reduceNeg, ge_iff_le, gt_iff_lt, or_true, true_or, or_false, false_or, not_true, not_false_iff, ite_true, ite_false, dite_true, take_app, take_blakeL, blakeL_len, run_range, c16_pure, c16_news, p10, F42_eq, F43_eq, n10, N32_eq, n9, N31_eq, N58_eq, p9, F61_eq, fourL_len, p8, F74_eq, F75_32, F75_24, F75_16, F75_63, p7, F82_eq, p6, F34_eq, p5, F22_eq, p4, p3, p2, p1, F80_eq, F70_eq, F53_eq, F55_eq, F25_eq, F56_eq, F23_eq, n8, N30_nil, N30_ptr, N28_nil, N28_ptr, hashK_eq, hashR_eq, n7, n6, n5, N57_eq, N27_eq, N20_eq, N21_eq, addNews, allOf, hr, na] | simp (maxSteps := 1000000) (disch := omega) only [ar_nat, ar_u64, ar_add, ar_sub, ar_mul, ar_div, ar_mod, ar_dec_t, ar_dec_f, ar_beq_t, ar_beq_f, ar_bne_t, ar_bne_f, ar_guard, or_guard, ar_take, ar_take_drop, ar_drop, Int.toNat_natCast, Int.reduceToNat])
  generalize rstK colQ z 8 = u at h3l ⊢
  refine loop_count (good16 0) (fun i => ⟨envL [(4, .ptr 2 0 0), (5, .ptr 3 0 0), (7, .ptr 4 0 0), (16, .v (.int .i64 i))], [some [.arr 128 .u64 x], some [.arr 128 .u64 y], some [.arr 128 .u64 (List.replicate 128 0)], some [.arr 128 .u64 r], some [.arr 128 .u64 (xorK u r i)]]⟩) 128 (by kernel_rfl) ?_ ?_ ?_
  · (refine weak_of ?_ ?_; (focus (first | with_reducible rfl | (simp only [xorK, n0] <;> with_reducible rfl))); simp only [envAll_cons, envAll_nil, get_put, get_envOf, get_envL_cons, get_envL_nil, Nat.reduceEqDiff, if_true, if_false, reduceIte, Option.some.injEq, and_self, reduceCtorEq, List.getD_cons_zero, List.getD_cons_succ, Int.cast_ofNat_Int, and_true, true_and, xorK, n0])
  · intro i hi
    repeat (first | simp only [c16_P, c16_odd, Nat.reduceBEq, layInts, layOnes, beq_self_eq_true, bne_self_eq_false, addPure, reduceIte, Nat.reduceEqDiff, reduceCtorEq, ne_eq, not_false_eq_true, not_true_eq_false, and_true, true_and, and_self, if_true, if_false, decide_true, decide_false, decide_eq_true_eq, exA, exA, tabs, exB, buildA, layA, rowPut, rowOr, rowSetAt, rowSet, rowTake, rowDrop, rowCell, rowAgg, mkAgg, AV.size, AV.isAggV, AV.parts, AV.one, AV.solid, headSize, psize, indexAddrA, indexA, fieldAddrA, fieldA, sliceA, boundsA, bndA, lenA, arrayAtA, rowOf, makeSliceA, intsOf, copyA, Nat.reduceAdd, Nat.reduceSub, Nat.reduceMul, Nat.reduceLeDiff, Nat.reduceLT, Nat.reduceGT, Int.reduceToNat, Int.reduceLE, Int.reduceLT, Int.reduceEq, Int.reduceNe, Int.reduceAdd, Int.reduceSub, Int.reduceMul, Int.reduceNeg, ge_iff_le, gt_iff_lt, or_true, true_or, or_false, false_or, not_true, not_false_iff, ite_true, ite_false, dite_true, take_app, take_blakeL, blakeL_len, run_range, c16_pure, c16_news, p10, F42_eq, F43_eq, n10, N32_eq, n9, N31_eq, N58_eq, p9, F61_eq, fourL_len, p8, F74_eq, F75_32, F75_24, F75_16, F75_63, p7, F82_eq, p6, F34_eq, p5, F22_eq, p4, p3, p2, p1, F80_eq, F70_eq, F53_eq, F55_eq, F25_eq, F56_eq, F23_eq, n8, N30_nil, N30_ptr, N28_nil, N28_ptr, hashK_eq, hashR_eq, n7, n6, n5, N57_eq, N27_eq, N20_eq, N21_eq, addNews, allOf, hr, na] | simp (maxSteps := 1000000) (disch := omega) only [ar_nat, ar_u64, ar_add, ar_sub, ar_mul, ar_div, ar_mod, ar_dec_t, ar_dec_f, ar_beq_t, ar_beq_f, ar_bne_t, ar_bne_f, ar_guard, or_guard, ar_take, ar_take_drop, ar_drop, Int.toNat_natCast, Int.reduceToNat])
    repeat (with_reducible refine And.intro (by first | omega | assumption) ?_)
    (refine weak_of ?_ ?_; (focus (first | with_reducible rfl | (simp only [xorK] <;> with_reducible rfl))); simp only [envAll_cons, envAll_nil, get_put, get_envOf, get_envL_cons, get_envL_nil, Nat.reduceEqDiff, if_true, if_false, reduceIte, Option.some.injEq, and_self, reduceCtorEq, List.getD_cons_zero, List.getD_cons_succ, Int.cast_ofNat_Int, and_true, true_and, xorK])
  have h4l : (xorK u r 128).length = 128 := by rw [xorK_len, h3l]
  have h4t := take128 h4l
  repeat (first | simp only [c16_P, c16_odd, Nat.reduceBEq, layInts, layOnes, beq_self_eq_true, bne_self_eq_false, addPure, reduceIte, Nat.reduceEqDiff, reduceCtorEq, ne_eq, not_false_eq_true, not_true_eq_false, and_true, true_and, and_self, if_true, if_false, decide_true, decide_false, decide_eq_true_eq, exA, exA, tabs, exB, buildA, layA, rowPut, rowOr, rowSetAt, rowSet, rowTake, rowDrop, rowCell, rowAgg, mkAgg, AV.size, AV.isAggV, AV.parts, AV.one, AV.solid, headSize, psize, indexAddrA, indexA, fieldAddrA, fieldA, sliceA, boundsA, bndA, lenA, arrayAtA, rowOf, makeSliceA, intsOf, copyA, Nat.reduceAdd, Nat.reduceSub, Nat.reduceMul, Nat.reduceLeDiff, Nat.reduceLT, Nat.reduceGT, Int.reduceToNat, Int.reduceLE, Int.reduceLT, Int.reduceEq, Int.reduceNe, Int.reduceAdd, Int.reduceSub, Int.reduceMul, Int.reduceNeg, ge_iff_le, gt_iff_lt, or_true, true_or, or_false, false_or, not_true, not_false_iff, ite_true, ite_false, dite_true, take_app, take_blakeL, blakeL_len, run_range, c16_pure, c16_news, p10, F42_eq, F43_eq, n10, N32_eq, n9, N31_eq, N58_eq, p9, F61_eq, fourL_len, p8, F74_eq, F75_32, F75_24, F75_16, F75_63, p7, F82_eq, p6, F34_eq, p5, F22_eq, p4, p3, p2, p1, F80_eq, F70_eq, F53_eq, F55_eq, F25_eq, F56_eq, F23_eq, n8, N30_nil, N30_ptr, N28_nil, N28_ptr, hashK_eq, hashR_eq, n7, n6, n5, N57_eq, N27_eq, N20_eq, N21_eq, addNews, allOf, hr, na, h4t] | simp (maxSteps := 1000000) (disch := omega) only [ar_nat, ar_u64, ar_add, ar_sub, ar_mul, ar_div, ar_mod, ar_dec_t, ar_dec_f, ar_beq_t, ar_beq_f, ar_bne_t, ar_bne_f, ar_guard, or_guard, ar_take, ar_take_drop, ar_drop, Int.toNat_natCast, Int.reduceToNat])
end Go.Proofs.Ytfnfmbikooeiaaa

namespace Go.Proofs.Ytfnfmbikooeiaaa
open Go.Ax
theorem extD {l m : List Int} (hl : l.length = m.length) (h : ∀ i, i < l.length → l.getD i 0 = m.getD i 0) : l = m := by
  apply List.ext_getElem hl
  intro i h1 h2
  have := h i h1
  simpa [List.getD_eq_getElem?_getD, h1, h2] using this
theorem getD_set (l : List Int) (i j : Nat) (x : Int) (hi : i < l.length) : (l.set i x).getD j 0 = if i = j then x else l.getD j 0 := by
  simp only [List.getD_eq_getElem?_getD, List.getElem?_set]
  split
  · rename_i h; subst h; simp [hi]
  · rfl
theorem scatK_at (z v : List Int) (q : Nat → Nat) : ∀ n, (∀ i j, i < n → j < n → q i = q j → i = j) → (∀ i, i < n → q i < z.length) → ∀ k, k < n → (scatK z v q n).getD (q k) 0 = v.getD k 0
  | 0, _, _, k, hk => by omega
  | n + 1, hi, hl, k, hk => by
    simp only [scatK]
    rw [getD_set _ _ _ _ (by rw [scatK_len]; exact hl n (by omega))]
    split
    · rename_i h
      rw [hi n k (by omega) hk h]
    · rename_i h
      exact scatK_at z v q n (fun i j a b => hi i j (by omega) (by omega)) (fun i a => hl i (by omega)) k (by
        have : k ≠ n := by rintro rfl; exact h rfl
        omega)
theorem scatK_out (z v : List Int) (q : Nat → Nat) : ∀ n j, (∀ i, i < n → q i < z.length) → (∀ i, i < n → q i ≠ j) → (scatK z v q n).getD j 0 = z.getD j 0
  | 0, j, _, _ => rfl
  | n + 1, j, hl, hj => by
    simp only [scatK]
    rw [getD_set _ _ _ _ (by rw [scatK_len]; exact hl n (by omega)), if_neg (hj n (by omega))]
    exact scatK_out z v q n j (fun i a => hl i (by omega)) (fun i a => hj i (by omega))
theorem scatK_set (z v : List Int) (q : Nat → Nat) (n a : Nat) (t : Int) (hi : ∀ i j, i < n → j < n → q i = q j → i = j) (hl : ∀ i, i < n → q i < z.length) (ha : a < n) (hv : n ≤ v.length) :
    (scatK z v q n).set (q a) t = scatK z (v.set a t) q n := by
  refine extD (by simp [scatK_len]) ?_
  intro j hj
  rw [getD_set _ _ _ _ (by rw [scatK_len]; exact hl a ha)]
  by_cases h : ∃ k, k < n ∧ q k = j
  · obtain ⟨k, hk, rfl⟩ := h
    rw [scatK_at z _ q n hi hl k hk, scatK_at z _ q n hi hl k hk, getD_set _ _ _ _ (by omega)]
    by_cases hak : a = k
    · subst hak; rw [if_pos rfl, if_pos rfl]
    · rw [if_neg hak, if_neg (fun e => hak (hi a k ha hk e))]
  · have hn : ∀ i, i < n → q i ≠ j := fun i a e => h ⟨i, a, e⟩
    rw [scatK_out z _ q n j hl hn, scatK_out z _ q n j hl hn, if_neg (hn a ha)]
section
variable {z : List Int} {q : Nat → Nat} (hi : ∀ i j, i < 16 → j < 16 → q i = q j → i = j) (hl : ∀ i, i < 16 → q i < z.length)
include hi hl
theorem grow_scat {v : List Int} (hv : v.length = 16) {x y : Nat} (hx : x < 16) (hy : y < 16) : growL (scatK z v q 16) (q x) (q y) = scatK z (growL v x y) q 16 := by
  unfold growL
  rw [scatK_at z v q 16 hi hl x hx, scatK_at z v q 16 hi hl y hy, scatK_set z v q 16 x _ hi hl hx (by omega)]
theorem turn_scat {v : List Int} (hv : v.length = 16) {x y : Nat} (hx : x < 16) (hy : y < 16) (n : Int) : turnL (scatK z v q 16) (q x) (q y) n = scatK z (turnL v x y n) q 16 := by
  unfold turnL
  rw [scatK_at z v q 16 hi hl x hx, scatK_at z v q 16 hi hl y hy, scatK_set z v q 16 x _ hi hl hx (by omega)]
theorem step_scat {v : List Int} (hv : v.length = 16) {x y w : Nat} (hx : x < 16) (hy : y < 16) (hw : w < 16) (n : Int) : stepL (scatK z v q 16) (q x) (q y) (q w) n = scatK z (stepL v x y w n) q 16 := by
  unfold stepL
  rw [grow_scat hi hl hv hx hy, turn_scat hi hl (by simp [growL, hv]) hw hx]
theorem stir_scat {v : List Int} (hv : v.length = 16) {a b c d : Nat} (ha : a < 16) (hb : b < 16) (hc : c < 16) (hd : d < 16) : stirL (scatK z v q 16) (q a) (q b) (q c) (q d) = scatK z (stirL v a b c d) q 16 := by
  have hs : ∀ (v : List Int) x y w n, (stepL v x y w n).length = v.length := by intro v x y w n; simp [stepL, growL, turnL]
  unfold stirL
  rw [step_scat hi hl hv ha hb hd, step_scat hi hl (by rw [hs, hv]) hc hd hb, step_scat hi hl (by rw [hs, hs, hv]) ha hb hd, step_scat hi hl (by rw [hs, hs, hs, hv]) hc hd hb]
theorem all_scat {v : List Int} (hv : v.length = 16) : ∀ i, allK (scatK z v q 16) q i = scatK z (allK v (fun j => j) i) q 16
  | 0 => rfl
  | i + 1 => by
    simp only [allK]
    rw [all_scat hv i]
    have hL : (allK v (fun j => j) i).length = 16 := by rw [allK_len, hv]
    exact stir_scat hi hl hL (by omega) (by omega) (by omega) (by omega)
end
theorem gathK_at (z : List Int) (q : Nat → Nat) : ∀ n, n ≤ 16 → ∀ k, k < n → (gathK z q n).getD k 0 = z.getD (q k) 0
  | 0, _, k, hk => by omega
  | n + 1, hn, k, hk => by
    simp only [gathK]
    rw [getD_set _ _ _ _ (by rw [gathK_len]; omega)]
    split
    · rename_i h; rw [h]
    · exact gathK_at z q n (by omega) k (by omega)
theorem scat_gath (z : List Int) (q : Nat → Nat) (hi : ∀ i j, i < 16 → j < 16 → q i = q j → i = j) (hl : ∀ i, i < 16 → q i < z.length) : scatK z (gathK z q 16) q 16 = z := by
  refine extD (by rw [scatK_len]) ?_
  intro j hj
  by_cases h : ∃ k, k < 16 ∧ q k = j
  · obtain ⟨k, hk, rfl⟩ := h
    rw [scatK_at z _ q 16 hi hl k hk, gathK_at z q 16 (by omega) k hk]
  · exact scatK_out z _ q 16 j hl (fun i a e => h ⟨i, a, e⟩)
/-- stirring places where they are -/
theorem all_where (z : List Int) (q : Nat → Nat) (hi : ∀ i j, i < 16 → j < 16 → q i = q j → i = j) (hl : ∀ i, i < 16 → q i < z.length) :
    allK z q 8 = scatK z (allK (gathK z q 16) (fun j => j) 8) q 16 := by
  rw [← all_scat hi hl (gathK_len z q 16), scat_gath z q hi hl]
theorem rowQ_ok (i : Nat) : ∀ a b, a < 16 → b < 16 → rowQ i a = rowQ i b → a = b := by unfold rowQ; omega
theorem colQ_ok (i : Nat) (h : i < 8) : ∀ a b, a < 16 → b < 16 → colQ i a = colQ i b → a = b := by unfold colQ; omega
theorem rowQ_lt {i : Nat} (h : i < 8) {n : Nat} (hn : n = 128) : ∀ a, a < 16 → rowQ i a < n := by unfold rowQ; omega
theorem colQ_lt {i : Nat} (h : i < 8) {n : Nat} (hn : n = 128) : ∀ a, a < 16 → colQ i a < n := by unfold colQ; omega
theorem NonNeg.scat {z v : List Int} (hz : NonNeg z) (hv : NonNeg v) (q : Nat → Nat) : ∀ n, NonNeg (scatK z v q n)
  | 0 => hz
  | n + 1 => (NonNeg.scat hz hv q n).set _ (hv n)
theorem NonNeg.rep (n : Nat) : NonNeg (List.replicate n 0) := by
  intro i
  rw [List.getD_eq_getElem?_getD, List.getElem?_replicate]
  split <;> simp
theorem NonNeg.gath {z : List Int} (hz : NonNeg z) (q : Nat → Nat) : ∀ n, NonNeg (gathK z q n)
  | 0 => NonNeg.rep 16
  | n + 1 => (NonNeg.gath hz q n).set _ (hz _)
theorem stirK_nn (Q : Nat → Nat → Nat) {z : List Int} (hz : NonNeg z) : ∀ i, NonNeg (stirK Q z i)
  | 0 => hz
  | i + 1 => allK_nn (stirK_nn Q hz i) (Q i) 8
theorem rst_stir (Q : Nat → Nat → Nat) {z : List Int} (hz : NonNeg z) (hl : z.length = 128) (h1 : ∀ i, i < 8 → ∀ a b, a < 16 → b < 16 → Q i a = Q i b → a = b) (h2 : ∀ i, i < 8 → ∀ a, a < 16 → Q i a < 128) :
    ∀ i, i ≤ 8 → rstK Q z i = stirK Q z i
  | 0, _ => rfl
  | i + 1, h => by
    have hs : (stirK Q z i).length = 128 := by rw [stirK_len, hl]
    simp only [rstK, stirK]
    rw [rst_stir Q hz hl h1 h2 i (by omega), all_where _ _ (h1 i (by omega)) (by rw [hs]; exact h2 i (by omega)), ← stir_law ((stirK_nn Q hz i).gath (Q i) 16)]
theorem xorK_at (x y : List Int) : ∀ n, n ≤ x.length → ∀ k, (xorK x y n).getD k 0 = if k < n then xorU (x.getD k 0) (y.getD k 0) else x.getD k 0
  | 0, _, k => by simp [xorK]
  | n + 1, hn, k => by
    simp only [xorK]
    rw [getD_set _ _ _ _ (by rw [xorK_len]; omega), xorK_at x y n (by omega) n, xorK_at x y n (by omega) k, if_neg (Nat.lt_irrefl n)]
    by_cases h : n = k
    · subst h; rw [if_pos rfl, if_pos (by omega)]
    · rw [if_neg h]
      by_cases h2 : k < n
      · rw [if_pos h2, if_pos (by omega)]
      · rw [if_neg h2, if_neg (by omega)]
theorem rxK_at (x y : List Int) : ∀ n, n ≤ 128 → ∀ k, k < n → (rxK x y n).getD k 0 = xorU (x.getD k 0) (y.getD k 0)
  | 0, _, k, hk => by omega
  | n + 1, hn, k, hk => by
    simp only [rxK]
    rw [getD_set _ _ _ _ (by rw [rxK_len]; omega)]
    split
    · rename_i h; rw [h]
    · exact rxK_at x y n (by omega) k (by omega)
theorem rx_xor (x y : List Int) (hx : x.length = 128) : rxK x y 128 = xorK x y 128 := by
  refine extD (by rw [rxK_len, xorK_len, hx]) ?_
  intro i h
  rw [rxK_len] at h
  rw [rxK_at x y 128 (by omega) i h, xorK_at x y 128 (by omega) i, if_pos h]
theorem xorU_nn (x y : Int) : 0 ≤ xorU x y := u64_nn _
theorem xorK_nn {x : List Int} (y : List Int) (hx : NonNeg x) : ∀ n, NonNeg (xorK x y n)
  | 0 => hx
  | n + 1 => (xorK_nn y hx n).set _ (xorU_nn _ _)
/-- two pages mixed: the program's way is the reference's -/
theorem pages_law {x y : List Int} (hx : x.length = 128) (nx : NonNeg x) : rpagesL x y = pagesL x y := by
  unfold rpagesL pagesL rpagesR pagesR
  rw [rx_xor x y hx]
  have hr : (xorK x y 128).length = 128 := by rw [xorK_len, hx]
  have nr := xorK_nn y nx 128
  generalize xorK x y 128 = r at hr nr ⊢
  rw [rst_stir rowQ nr hr (fun i _ => rowQ_ok i) (fun i h => rowQ_lt h rfl) 8 (by omega)]
  rw [rst_stir colQ (stirK_nn rowQ nr 8) (by rw [stirK_len, hr]) (fun i h => colQ_ok i h) (fun i h => colQ_lt h rfl) 8 (by omega)]
theorem xorU_comm (x y : Int) : xorU x y = xorU y x := by unfold xorU; rw [BitVec.xor_comm]
theorem xorU_self (x : Int) : xorU x x = 0 := by unfold xorU; rw [BitVec.xor_self]; rfl
theorem pages_comm {x y : List Int} (hx : x.length = 128) (hy : y.length = 128) : pagesL y x = pagesL x y := by
  unfold pagesL
  rw [show xorK y x 128 = xorK x y 128 from extD (by rw [xorK_len, xorK_len, hx, hy]) (by
    intro i h
    rw [xorK_len, hy] at h
    rw [xorK_at y x 128 (by omega), xorK_at x y 128 (by omega), if_pos h, if_pos h, xorU_comm])]
/-- a list of zeros -/
theorem set_zero {z : List Int} (hz : z = List.replicate z.length 0) (i : Nat) {x : Int} (hx : x = 0) : z.set i x = z := by
  subst hx
  generalize z.length = n at hz
  subst hz
  apply List.ext_getElem?
  intro j
  rw [List.getElem?_set]
  split
  · rename_i h
    subst h
    rw [List.getElem?_replicate]
    simp
  · rfl
theorem zero_at {z : List Int} (hz : z = List.replicate z.length 0) (i : Nat) : z.getD i 0 = 0 := by
  rw [hz, List.getD_eq_getElem?_getD, List.getElem?_replicate]
  split <;> simp
theorem stir_zero {z : List Int} (hz : z = List.replicate z.length 0) (a b c d : Nat) : stirL z a b c d = z := by
  have h1 : ∀ x y, growL z x y = z := by
    intro x y
    unfold growL
    rw [zero_at hz x, zero_at hz y]
    exact set_zero hz x (by decide)
  have h2 : ∀ x y n, (n = -32 ∨ n = -24 ∨ n = -16 ∨ n = -63) → turnL z x y n = z := by
    intro x y n hn
    unfold turnL
    rw [zero_at hz x, zero_at hz y]
    refine set_zero hz x ?_
    rcases hn with rfl | rfl | rfl | rfl <;> decide
  unfold stirL stepL
  rw [h1, h2 _ _ _ (by simp), h1, h2 _ _ _ (by simp), h1, h2 _ _ _ (by simp), h1, h2 _ _ _ (by simp)]
theorem all_zero {z : List Int} (hz : z = List.replicate z.length 0) (q : Nat → Nat) : ∀ i, allK z q i = z
  | 0 => rfl
  | i + 1 => by simp only [allK]; rw [all_zero hz q i, stir_zero hz]
theorem stirK_zero {z : List Int} (hz : z = List.replicate z.length 0) (Q : Nat → Nat → Nat) : ∀ i, stirK Q z i = z
  | 0 => rfl
  | i + 1 => by simp only [stirK]; rw [stirK_zero hz Q i, all_zero hz]
theorem pages_self {x : List Int} (hx : x.length = 128) : pagesL x x = List.replicate 128 0 := by
  have h0 : xorK x x 128 = List.replicate 128 0 := by
    refine extD (by rw [xorK_len, hx]; simp) ?_
    intro i h
    rw [xorK_len, hx] at h
    rw [xorK_at x x 128 (by omega), if_pos h, xorU_self, List.getD_eq_getElem?_getD, List.getElem?_replicate, if_pos h]; rfl
  unfold pagesL pagesR
  rw [h0]
  have hz : List.replicate 128 (0 : Int) = List.replicate (List.replicate 128 (0 : Int)).length 0 := by simp
  rw [stirK_zero hz, stirK_zero hz]
  refine extD (by rw [xorK_len]) ?_
  intro i h
  rw [xorK_len] at h
  simp only [List.length_replicate] at h
  rw [xorK_at _ _ 128 (by simp), if_pos h, xorU_self, List.getD_eq_getElem?_getD, List.getElem?_replicate, if_pos h]; rfl
end Go.Proofs.Ytfnfmbikooeiaaa

namespace Go.Proofs.Ytfnfmbikooeiaaa
open Go.Ax
/-- a word's bytes are laid behind one another -/
theorem orU_add (x c : Nat) (k : Nat) (hk : k < 8) (hx : x < 2 ^ (8 * k)) (hc : c < 256) :
    orU (x : Int) (shl .u64 (IntKind.u64.wrap (c : Int)) ((8 * k : Nat) : Int)) = ((x + c * 2 ^ (8 * k) : Nat) : Int) := by
  have hp : 2 ^ (8 * k) * 256 ≤ 18446744073709551616 := by
    have h1 : 2 ^ (8 * k) ≤ 2 ^ 56 := Nat.pow_le_pow_right (by omega) (by omega)
    have h2 : (2 : Nat) ^ 56 * 256 = 18446744073709551616 := by decide
    omega
  have hcp : c * 2 ^ (8 * k) ≤ 255 * 2 ^ (8 * k) := Nat.mul_le_mul_right _ (by omega)
  have hs : shl .u64 (IntKind.u64.wrap (c : Int)) ((8 * k : Nat) : Int) = ((c * 2 ^ (8 * k) : Nat) : Int) := by
    have hm : min ((8 * k : Nat) : Int).toNat IntKind.u64.bits = 8 * k := by
      have : IntKind.u64.bits = 64 := rfl
      rw [Int.toNat_natCast, this]; omega
    unfold shl
    have hcw : IntKind.u64.wrap (c : Int) = c := by rw [wrap_u64', Int.emod_eq_of_lt (by omega) (by omega)]
    have hpw : (c : Int) * 2 ^ (8 * k) = ((c * 2 ^ (8 * k) : Nat) : Int) := by rw [Int.natCast_mul, Int.natCast_pow]; rfl
    rw [hm, hcw, hpw, wrap_u64']
    exact Int.emod_eq_of_lt (by omega) (by omega)
  rw [hs]
  unfold orU
  have h1 : (BitVec.ofInt IntKind.u64.bits (x : Int)).toNat = x := by
    rw [BitVec.toNat_ofInt]
    show ((x : Int) % ((2 ^ 64 : Nat) : Int)).toNat = x
    omega
  have h2 : (BitVec.ofInt IntKind.u64.bits ((c * 2 ^ (8 * k) : Nat) : Int)).toNat = c * 2 ^ (8 * k) := by
    rw [BitVec.toNat_ofInt]
    show (((c * 2 ^ (8 * k) : Nat) : Int) % ((2 ^ 64 : Nat) : Int)).toNat = _
    omega
  rw [BitVec.toNat_or, h1, h2]
  have h3 : x ||| c * 2 ^ (8 * k) = x + c * 2 ^ (8 * k) := by
    rw [Nat.or_comm, ← Nat.shiftLeft_eq, ← Nat.shiftLeft_add_eq_or_of_lt hx, Nat.shiftLeft_eq]; omega
  rw [h3, wrap_u64']
  omega
/-- so many bytes make a number -/
def leK (c : Nat → Nat) : Nat → Nat
  | 0 => 0
  | k + 1 => leK c k + c k * 2 ^ (8 * k)
theorem leK_lt (c : Nat → Nat) (hc : ∀ k, c k < 256) : ∀ k, leK c k < 2 ^ (8 * k)
  | 0 => by simp [leK]
  | k + 1 => by
    have h1 := leK_lt c hc k
    have h2 := hc k
    have h3 : 2 ^ (8 * (k + 1)) = 256 * 2 ^ (8 * k) := by rw [show 8 * (k + 1) = 8 + 8 * k by omega, Nat.pow_add]
    have h4 : c k * 2 ^ (8 * k) ≤ 255 * 2 ^ (8 * k) := Nat.mul_le_mul_right _ (by omega)
    simp only [leK]; omega
/-- bytes -/
def Bts (b : List Int) : Prop := ∀ i, 0 ≤ b.getD i 0 ∧ b.getD i 0 < 256
def Wds (b : List Int) : Prop := ∀ i, 0 ≤ b.getD i 0 ∧ b.getD i 0 < 18446744073709551616
theorem chunkK_at (b p : List Int) (hb : Bts b) (j : Nat) (hj : j < p.length) (hz : p.getD j 0 = 0) : ∀ k, k ≤ 8 → (chunkK b p j k).getD j 0 = (leK (fun m => (b.getD (8 * j + m) 0).toNat) k : Nat)
  | 0, _ => hz
  | k + 1, hk => by
    simp only [chunkK, wordB, leK]
    rw [getD_set _ _ _ _ (by rw [chunkK_len]; exact hj), if_pos rfl, chunkK_at b p hb j hj hz k (by omega)]
    have h1 := hb (8 * j + k)
    have h2 := orU_add (leK (fun m => (b.getD (8 * j + m) 0).toNat) k) (b.getD (8 * j + k) 0).toNat k (by omega) (leK_lt _ (fun m => by have := hb (8 * j + m); omega) k) (by omega)
    rw [Int.toNat_of_nonneg h1.1] at h2
    exact h2
theorem chunkK_other (b p : List Int) (j i : Nat) (hj : j < p.length) (hij : i ≠ j) : ∀ k, (chunkK b p j k).getD i 0 = p.getD i 0
  | 0 => rfl
  | k + 1 => by
    simp only [chunkK, wordB]
    rw [getD_set _ _ _ _ (by rw [chunkK_len]; exact hj), if_neg (fun e => hij e.symm)]
    exact chunkK_other b p j i hj hij k
theorem rpage_at (b : List Int) (hb : Bts b) : ∀ n, n ≤ 128 → ∀ j, j < 128 → (rpageK b (8 * n)).getD j 0 = if j < n then ((leK (fun m => (b.getD (8 * j + m) 0).toNat) 8 : Nat) : Int) else 0
  | 0, _, j, hj => by
    show (List.replicate 128 (0 : Int)).getD j 0 = _
    rw [List.getD_eq_getElem?_getD, List.getElem?_replicate, if_pos hj]; rfl
  | n + 1, hn, j, hj => by
    have h1 := chunkK_rpage b n 8 (by omega)
    rw [show 8 * (n + 1) = 8 * n + 8 by omega, ← h1]
    have hl := rpageK_len b (8 * n)
    by_cases h : j = n
    · subst h
      rw [chunkK_at b _ hb j (by omega) (by rw [rpage_at b hb j (by omega) j hj, if_neg (Nat.lt_irrefl j)]) 8 (by omega), if_pos (by omega)]
    · rw [chunkK_other b _ n j (by omega) h, rpage_at b hb n (by omega) j hj]
      by_cases h2 : j < n
      · rw [if_pos h2, if_pos (by omega)]
      · rw [if_neg h2, if_neg (by omega)]
theorem leK_8 (c : Nat → Nat) : leK c 8 = c 0 + c 1 * 256 + c 2 * 65536 + c 3 * 16777216 + c 4 * 4294967296 + c 5 * 1099511627776 + c 6 * 281474976710656 + c 7 * 72057594037927936 := by
  simp [leK]
theorem shr_at (w : Nat) (k : Nat) (hk : k < 8) : IntKind.u8.wrap (shr .u64 (w : Int) ((8 * k : Nat) : Int)) = ((w / 2 ^ (8 * k) % 256 : Nat) : Int) := by
  have hm : min ((8 * k : Nat) : Int).toNat IntKind.u64.bits = 8 * k := by
    have : IntKind.u64.bits = 64 := rfl
    rw [Int.toNat_natCast, this]; omega
  unfold shr
  rw [hm, Int.fdiv_eq_ediv_of_nonneg _ (Int.pow_nonneg (by omega)), wrap_u8']
  rw [Int.natCast_emod, Int.natCast_ediv, Int.natCast_pow]; rfl
theorem leK_div (c : Nat → Nat) (hc : ∀ k, c k < 256) (k : Nat) (hk : k < 8) : leK c 8 / 2 ^ (8 * k) % 256 = c k := by
  rw [leK_8]
  have h0 := hc 0
  have h1 := hc 1
  have h2 := hc 2
  have h3 := hc 3
  have h4 := hc 4
  have h5 := hc 5
  have h6 := hc 6
  have h7 := hc 7
  rcases (by omega : k = 0 ∨ k = 1 ∨ k = 2 ∨ k = 3 ∨ k = 4 ∨ k = 5 ∨ k = 6 ∨ k = 7) with rfl | rfl | rfl | rfl | rfl | rfl | rfl | rfl <;> simp only [Nat.reduceMul, Nat.reducePow] <;> omega
theorem leK_div2 (w : Nat) (hw : w < 18446744073709551616) : leK (fun k => w / 2 ^ (8 * k) % 256) 8 = w := by
  rw [leK_8]
  simp only [Nat.reduceMul, Nat.reducePow]
  omega
theorem bytesP_at (p : List Int) (i : Nat) (h : i < 1024) : (bytesP p 1024).getD i 0 = byteAt p i := by
  simp [bytesP, List.getD_eq_getElem?_getD, h]
theorem bytesP_bts (p : List Int) : Bts (bytesP p 1024) := by
  intro i
  rcases Nat.lt_or_ge i 1024 with h | h
  · rw [bytesP_at p i h]; unfold byteAt; rw [wrap_u8']; omega
  · rw [List.getD_eq_getElem?_getD, List.getElem?_eq_none (by rw [bytesP_len]; exact h)]; simp
/-- a page's bytes are the page -/
theorem page_bytes (p : List Int) (hp : p.length = 128) (hw : Wds p) : rpageK (bytesP p 1024) 1024 = p := by
  refine extD (by rw [rpageK_len, hp]) ?_
  intro j hj
  rw [rpageK_len] at hj
  have h1 := rpage_at (bytesP p 1024) (bytesP_bts p) 128 (by omega) j hj
  rw [if_pos hj, show (8 : Nat) * 128 = 1024 from rfl] at h1
  refine h1.trans ?_
  have hwj := hw j
  have h2 : leK (fun m => ((bytesP p 1024).getD (8 * j + m) 0).toNat) 8 = leK (fun m => (p.getD j 0).toNat / 2 ^ (8 * m) % 256) 8 := by
    have hc : ∀ m, m < 8 → ((bytesP p 1024).getD (8 * j + m) 0).toNat = (p.getD j 0).toNat / 2 ^ (8 * m) % 256 := by
      intro m hm
      rw [bytesP_at p _ (by omega)]
      unfold byteAt
      rw [show (8 * j + m) / 8 = j by omega, show (8 * j + m) % 8 = m by omega]
      have := shr_at (p.getD j 0).toNat m hm
      rw [Int.toNat_of_nonneg hwj.1] at this
      rw [this, Int.toNat_natCast]
    have : ∀ n, n ≤ 8 → leK (fun m => ((bytesP p 1024).getD (8 * j + m) 0).toNat) n = leK (fun m => (p.getD j 0).toNat / 2 ^ (8 * m) % 256) n := by
      intro n
      induction n with
      | zero => intro _; simp only [leK]
      | succ n ih => intro hn; simp only [leK]; rw [ih (by omega), hc n (by omega)]
    exact this 8 (by omega)
  rw [h2, leK_div2 _ (by omega), Int.toNat_of_nonneg hwj.1]
/-- bytes of a page of bytes are the bytes -/
theorem bytes_page (b : List Int) (hb : b.length = 1024) (hB : Bts b) : bytesP (rpageK b 1024) 1024 = b := by
  refine extD (by rw [bytesP_len, hb]) ?_
  intro i hi
  rw [bytesP_len] at hi
  rw [bytesP_at _ i hi]
  unfold byteAt
  have h1 := rpage_at b hB 128 (by omega) (i / 8) (by omega)
  rw [if_pos (by omega)] at h1
  rw [show (8 : Nat) * 128 = 1024 from rfl] at h1
  rw [h1, shr_at _ _ (by omega), leK_div _ (fun k => by have := hB (8 * (i / 8) + k); omega) _ (by omega)]
  rw [show 8 * (i / 8) + i % 8 = i by omega, Int.toNat_of_nonneg (hB i).1]
end Go.Proofs.Ytfnfmbikooeiaaa

namespace Go.Proofs.Ytfnfmbikooeiaaa
open Go.Ax
/-- mix.Pages -/
def F40 : List AV → Option AV
  | [.arr 128 .u64 x, .arr 128 .u64 y] => oguard (x.length = 128 ∧ y.length = 128) (some (.arr 128 .u64 (pagesL x y)))
  | _ => none
theorem F40_eq (x y : List Int) : F40 [.arr 128 .u64 x, .arr 128 .u64 y] = oguard (x.length = 128 ∧ y.length = 128) (some (.arr 128 .u64 (pagesL x y))) := rfl
/-- casketref07.Pages -/
def F41 : List AV → Option AV
  | [.arr 128 .u64 x, .arr 128 .u64 y] => oguard (x.length = 128 ∧ y.length = 128) (some (.arr 128 .u64 (rpagesL x y)))
  | _ => none
theorem F41_eq (x y : List Int) : F41 [.arr 128 .u64 x, .arr 128 .u64 y] = oguard (x.length = 128 ∧ y.length = 128) (some (.arr 128 .u64 (rpagesL x y))) := rfl
/-- a page's bytes, not to be reckoned -/
noncomputable def pageB (p : List Int) : List Int := Classical.choose (p := fun l => l = bytesP p 1024) ⟨_, rfl⟩
theorem pageB_eq (p : List Int) : pageB p = bytesP p 1024 := Classical.choose_spec (p := fun l => l = bytesP p 1024) ⟨_, rfl⟩
theorem pageB_len (p : List Int) : (pageB p).length = 1024 := by rw [pageB_eq, bytesP_len]
theorem pageB_take (p : List Int) : (pageB p).take 1024 = pageB p := List.take_of_length_le (by rw [pageB_len]; omega)
/-- a page of bytes, not to be reckoned -/
noncomputable def pageOf (b : List Int) : List Int := Classical.choose (p := fun l => l = rpageK b 1024) ⟨_, rfl⟩
theorem pageOf_eq (b : List Int) : pageOf b = rpageK b 1024 := Classical.choose_spec (p := fun l => l = rpageK b 1024) ⟨_, rfl⟩
theorem pageOf_len (b : List Int) : (pageOf b).length = 128 := by rw [pageOf_eq, rpageK_len]
theorem pageOf_take (b : List Int) : (pageOf b).take 128 = pageOf b := take128 (pageOf_len b)
/-- mix.Bytes, casketref07.Bytes -/
noncomputable def N36 (h : List Blk) : List AV → Option Out
  | [.arr 128 .u64 p] => oguard (p.length = 128) (some (.cap 0 fun c => (.sl h.length 0 1 0 1024 c, h ++ [some [.arr 1024 .u8 (pageB p)]])))
  | _ => none
theorem N36_eq (h : List Blk) (p : List Int) : N36 h [.arr 128 .u64 p] = oguard (p.length = 128) (some (.cap 0 fun c => (.sl h.length 0 1 0 1024 c, h ++ [some [.arr 1024 .u8 (pageB p)]]))) := rfl
/-- mix.Page, casketref07.Page -/
noncomputable def pageO (h : List Blk) (b : List Int) : Option Out :=
  osel (decide (b.length = 1024)) (some (.one (.tup [.arr 128 .u64 (pageOf b), .v (.int .i64 0)]) h))
    (some (.one (.tup [.arr 128 .u64 (List.replicate 128 0), .v (.int .i64 1)]) h))
noncomputable def N37 (h : List Blk) : List AV → Option Out
  | [m] => (u8Of h m).bind (pageO h)
  | _ => none
theorem N37_eq (h : List Blk) (m : AV) : N37 h [m] = (u8Of h m).bind (pageO h) := rfl
noncomputable def p11 : FuncId → Option (List AV → Option AV) := addPure (addPure p10 40 F40) 41 F41
noncomputable def n11 : FuncId → Option (List Blk → List AV → Option Out) := addNews (addNews (addNews (addNews n10 36 N36) 39 N36) 37 N37) 38 N37
noncomputable def c17 (k : Nat) : Cfg := ⟨Try.prog, k, p11, [], n11, none⟩
theorem c17_odd (k : Nat) : (c17 k).odd = [] := rfl
theorem c17_P (k : Nat) : (c17 k).P = Try.prog := rfl
theorem c17_pure (k : Nat) : (c17 k).pure = p11 := rfl
theorem c17_news (k : Nat) : (c17 k).news = n11 := rfl
/-- nothing but the value is told -/
theorem ACall.bare {f : FuncId} {args : List AV} {v0 : AV} (hv : ∀ g, v0.ren g = v0) (hc : ACall Try.prog f args [] fun v _ => v = v0) : ACall Try.prog f args [] fun v h' => v = v0 ∧ h' = [] := by
  refine ACall.weak (C := c16 0) rfl hc ?_
  rintro v h' rfl
  exact ⟨_, _, weak_gc' (L := [(0, v)]) [] (by decide) (by simp) (by rfl) rfl ⟨by rw [hv]; rfl, trivial⟩, rfl, rfl⟩
theorem bytes_news {f : FuncId} (hs : ∀ p : List Int, p.length = 128 → ACall Try.prog f [.arr 128 .u64 p] [] fun v h' => ∃ c, v = .sl 0 0 1 0 1024 c ∧ h' = [some [.arr 1024 .u8 (bytesP p 1024)]])
    (h : List Blk) (args : List AV) (out : Out) (hN : N36 h args = some out) : (out.all fun _ h' => ∃ ext, h' = h ++ ext) ∧ ∀ κ, out.all κ → ACall Try.prog f args h κ := by
  unfold N36 at hN
  split at hN
  · rename_i p
    obtain ⟨hp, hN⟩ := oguard_some hN
    cases hN
    refine ⟨fun c _ => ⟨_, rfl⟩, fun κ hκ => news_ok (args := [.arr 128 .u64 p]) (hs p hp) (by rintro _ _ ⟨c, rfl, rfl⟩; exact ⟨rfl, rfl⟩) (fun g => rfl) ⟨Frz.same _, trivial⟩ ?_ hκ⟩
    rintro _ _ ⟨c, rfl, rfl⟩
    exact ⟨c, Nat.zero_le _, by rw [pageB_eq]; rfl⟩
  · cases hN
theorem page_news {f : FuncId} (hs : ∀ b : List Int, b.length = 1024 → ACall Try.prog f [.roI .u8 b] [] fun v _ => v = .tup [.arr 128 .u64 (rpageK b 1024), .v (.int .i64 0)])
    (hb : ∀ b : List Int, b.length ≠ 1024 → ACall Try.prog f [.roI .u8 b] [] fun v _ => v = .tup [.arr 128 .u64 (List.replicate 128 0), .v (.int .i64 1)])
    (h : List Blk) (args : List AV) (out : Out) (hN : N37 h args = some out) : (out.all fun _ h' => ∃ ext, h' = h ++ ext) ∧ ∀ κ, out.all κ → ACall Try.prog f args h κ := by
  unfold N37 at hN
  split at hN
  · rename_i m
    obtain ⟨b, hm, hN⟩ := Option.bind_eq_some_iff.1 hN
    unfold pageO at hN
    by_cases hl : b.length = 1024
    · rw [osel_pos (decide_eq_true hl)] at hN
      cases hN
      rw [pageOf_eq]
      refine ⟨⟨[], by simp⟩, fun κ hκ => news_ok (args := [m]) (ACall.bare (fun g => rfl) (hs b hl)) (by rintro _ _ ⟨rfl, rfl⟩; exact ⟨rfl, rfl⟩) (fun g => rfl) ⟨u8Of_frz hm, trivial⟩ ?_ hκ⟩
      rintro _ _ ⟨rfl, rfl⟩
      exact ⟨rfl, by simp⟩
    · rw [osel_neg (decide_eq_false hl)] at hN
      cases hN
      refine ⟨⟨[], by simp⟩, fun κ hκ => news_ok (args := [m]) (ACall.bare (fun g => rfl) (hb b hl)) (by rintro _ _ ⟨rfl, rfl⟩; exact ⟨rfl, rfl⟩) (fun g => rfl) ⟨u8Of_frz hm, trivial⟩ ?_ hκ⟩
      rintro _ _ ⟨rfl, rfl⟩
      exact ⟨rfl, by simp⟩
  · cases hN
theorem good17 (k : Nat) : (c17 k).Good := by
  refine Cfg.Good.addN (Cfg.Good.addN (Cfg.Good.addN (Cfg.Good.addN (Cfg.Good.add (Cfg.Good.add (good16 k) ?_ k) ?_ k) ?_ k) ?_ k) ?_ k) ?_ k
  · intro args v hF h κ hκ
    unfold F40 at hF
    split at hF
    · obtain ⟨⟨h1, h2⟩, hF⟩ := oguard_some hF
      cases hF
      exact pure_call (mpages_spec _ _ h1 h2) (fun g => rfl) (fun g => rfl) h κ hκ
    · cases hF
  · intro args v hF h κ hκ
    unfold F41 at hF
    split at hF
    · obtain ⟨⟨h1, h2⟩, hF⟩ := oguard_some hF
      cases hF
      exact pure_call (rpages_spec _ _ h1 h2) (fun g => rfl) (fun g => rfl) h κ hκ
    · cases hF
  · exact fun h args out hN => bytes_news mbytes_spec h args out hN
  · exact fun h args out hN => bytes_news rbytes_spec h args out hN
  · exact fun h args out hN => page_news mpage_spec mpage_bad h args out hN
  · exact fun h args out hN => page_news rpage_spec rpage_bad h args out hN
theorem rpage_zero (n : Nat) : ∀ i, rpageK (List.replicate n 0) i = List.replicate 128 0
  | 0 => rfl
  | i + 1 => by
    have hz : List.replicate 128 (0 : Int) = List.replicate (List.replicate 128 (0 : Int)).length 0 := by simp
    have h0 : (List.replicate n (0 : Int)).getD i 0 = 0 := by
      rw [List.getD_eq_getElem?_getD, List.getElem?_replicate]
      split <;> rfl
    simp only [rpageK, wordB]
    rw [rpage_zero n i, h0, zero_at hz]
    refine set_zero hz _ ?_
    have : shl IntKind.u64 (IntKind.u64.wrap 0) ((8 * (i % 8) : Nat) : Int) = 0 := by
      unfold shl
      simp [wrap_u64']
    rw [this]; rfl
end Go.Proofs.Ytfnfmbikooeiaaa

namespace Go.Proofs.Ytfnfmbikooeiaaa
open Go.Ax
theorem mix_lives : ACall Try.prog 33 [] [] fun v _ => v = .v (.bool true) := by
  have hz : pageOf (List.replicate 1024 0) = List.replicate 128 0 := by rw [pageOf_eq]; exact rpage_zero 1024 1024
  have hw1 : (((whichN 10 0 : Nat) : Int) == 9) = true := by decide +kernel
  have hw2 : (((whichN 10 4294967295 : Nat) : Int) == 0) = true := by decide +kernel
  have ht1 : List.take 1024 (List.replicate 1024 (0 : Int)) = List.replicate 1024 0 := List.take_of_length_le (by simp)
  have ht2 : List.take 128 (List.replicate 128 (0 : Int)) = List.replicate 128 0 := List.take_of_length_le (by simp)
  refine acall_run (good17 0) Try.func33 rfl ⟨by kernel_rfl, by show 0 ≤ _; decide, by kernel_rfl, by kernel_rfl⟩ rfl ?_; have hr : Try.f33.results.toList = [.tmp 0] := rfl
  repeat (first | simp only [c17_P, c17_odd, Nat.reduceBEq, layInts, layOnes, beq_self_eq_true, bne_self_eq_false, addPure, reduceIte, Nat.reduceEqDiff, reduceCtorEq, ne_eq, not_false_eq_true, not_true_eq_false, and_true, true_and, and_self, if_true, if_false, decide_true, decide_false, decide_eq_true_eq, exA, exA, tabs, exB, buildA, layA, rowPut, rowOr, rowSetAt, rowSet, rowTake, rowDrop, rowCell, rowAgg, mkAgg, AV.size, AV.isAggV, AV.parts, AV.one, AV.solid, headSize, psize, indexAddrA, indexA, fieldAddrA, fieldA, sliceA, boundsA, bndA, lenA, arrayAtA, rowOf, makeSliceA, intsOf, copyA, Nat.reduceAdd, Nat.reduceSub, Nat.reduceMul, Nat.reduceLeDiff, Nat.reduceLT, Nat.reduceGT, Int.reduceToNat, Int.reduceLE, Int.reduceLT, Int.reduceEq, Int.reduceNe, Int.reduceAdd, Int.reduceSub, Int.reduceMul, Int.reduceNeg, ge_iff_le, gt_iff_lt, or_true, true_or, or_false, false_or, not_true, not_false_iff, ite_true, ite_false, dite_true, take_app, take_blakeL, blakeL_len, run_range, c17_pure, c17_news, p11, F40_eq, F41_eq, n11, N36_eq, N37_eq, pageO, p10, F42_eq, F43_eq, n10, N32_eq, n9, N31_eq, N58_eq, p9, F61_eq, fourL_len, p8, F74_eq, F75_32, F75_24, F75_16, F75_63, p7, F82_eq, p6, F34_eq, p5, F22_eq, p4, p3, p2, p1, F80_eq, F70_eq, F53_eq, F55_eq, F25_eq, F56_eq, F23_eq, n8, N30_nil, N30_ptr, N28_nil, N28_ptr, hashK_eq, hashR_eq, n7, n6, n5, N57_eq, N27_eq, N20_eq, N21_eq, addNews, allOf, hr, hz, hw1, hw2, ht1, ht2] | simp (maxSteps := 1000000) (disch := omega) only [ar_nat, ar_u64, ar_add, ar_sub, ar_mul, ar_div, ar_mod, ar_dec_t, ar_dec_f, ar_beq_t, ar_beq_f, ar_bne_t, ar_bne_f, ar_guard, or_guard, ar_take, ar_take_drop, ar_drop, Int.toNat_natCast, Int.reduceToNat])
  intro c _
  repeat (first | simp only [c17_P, c17_odd, Nat.reduceBEq, layInts, layOnes, beq_self_eq_true, bne_self_eq_false, addPure, reduceIte, Nat.reduceEqDiff, reduceCtorEq, ne_eq, not_false_eq_true, not_true_eq_false, and_true, true_and, and_self, if_true, if_false, decide_true, decide_false, decide_eq_true_eq, exA, exA, tabs, exB, buildA, layA, rowPut, rowOr, rowSetAt, rowSet, rowTake, rowDrop, rowCell, rowAgg, mkAgg, AV.size, AV.isAggV, AV.parts, AV.one, AV.solid, headSize, psize, indexAddrA, indexA, fieldAddrA, fieldA, sliceA, boundsA, bndA, lenA, arrayAtA, rowOf, makeSliceA, intsOf, copyA, Nat.reduceAdd, Nat.reduceSub, Nat.reduceMul, Nat.reduceLeDiff, Nat.reduceLT, Nat.reduceGT, Int.reduceToNat, Int.reduceLE, Int.reduceLT, Int.reduceEq, Int.reduceNe, Int.reduceAdd, Int.reduceSub, Int.reduceMul, Int.reduceNeg, ge_iff_le, gt_iff_lt, or_true, true_or, or_false, false_or, not_true, not_false_iff, ite_true, ite_false, dite_true, take_app, take_blakeL, blakeL_len, run_range, c17_pure, c17_news, p11, F40_eq, F41_eq, n11, N36_eq, N37_eq, pageO, p10, F42_eq, F43_eq, n10, N32_eq, n9, N31_eq, N58_eq, p9, F61_eq, fourL_len, p8, F74_eq, F75_32, F75_24, F75_16, F75_63, p7, F82_eq, p6, F34_eq, p5, F22_eq, p4, p3, p2, p1, F80_eq, F70_eq, F53_eq, F55_eq, F25_eq, F56_eq, F23_eq, n8, N30_nil, N30_ptr, N28_nil, N28_ptr, hashK_eq, hashR_eq, n7, n6, n5, N57_eq, N27_eq, N20_eq, N21_eq, addNews, allOf, hr, hz, hw1, hw2, ht1, ht2] | simp (maxSteps := 1000000) (disch := omega) only [ar_nat, ar_u64, ar_add, ar_sub, ar_mul, ar_div, ar_mod, ar_dec_t, ar_dec_f, ar_beq_t, ar_beq_f, ar_bne_t, ar_bne_f, ar_guard, or_guard, ar_take, ar_take_drop, ar_drop, Int.toNat_natCast, Int.reduceToNat])
  intro c1 _
  repeat (first | simp only [c17_P, c17_odd, Nat.reduceBEq, layInts, layOnes, beq_self_eq_true, bne_self_eq_false, addPure, reduceIte, Nat.reduceEqDiff, reduceCtorEq, ne_eq, not_false_eq_true, not_true_eq_false, and_true, true_and, and_self, if_true, if_false, decide_true, decide_false, decide_eq_true_eq, exA, exA, tabs, exB, buildA, layA, rowPut, rowOr, rowSetAt, rowSet, rowTake, rowDrop, rowCell, rowAgg, mkAgg, AV.size, AV.isAggV, AV.parts, AV.one, AV.solid, headSize, psize, indexAddrA, indexA, fieldAddrA, fieldA, sliceA, boundsA, bndA, lenA, arrayAtA, rowOf, makeSliceA, intsOf, copyA, Nat.reduceAdd, Nat.reduceSub, Nat.reduceMul, Nat.reduceLeDiff, Nat.reduceLT, Nat.reduceGT, Int.reduceToNat, Int.reduceLE, Int.reduceLT, Int.reduceEq, Int.reduceNe, Int.reduceAdd, Int.reduceSub, Int.reduceMul, Int.reduceNeg, ge_iff_le, gt_iff_lt, or_true, true_or, or_false, false_or, not_true, not_false_iff, ite_true, ite_false, dite_true, take_app, take_blakeL, blakeL_len, run_range, c17_pure, c17_news, p11, F40_eq, F41_eq, n11, N36_eq, N37_eq, pageO, p10, F42_eq, F43_eq, n10, N32_eq, n9, N31_eq, N58_eq, p9, F61_eq, fourL_len, p8, F74_eq, F75_32, F75_24, F75_16, F75_63, p7, F82_eq, p6, F34_eq, p5, F22_eq, p4, p3, p2, p1, F80_eq, F70_eq, F53_eq, F55_eq, F25_eq, F56_eq, F23_eq, n8, N30_nil, N30_ptr, N28_nil, N28_ptr, hashK_eq, hashR_eq, n7, n6, n5, N57_eq, N27_eq, N20_eq, N21_eq, addNews, allOf, hr, hz, hw1, hw2, ht1, ht2] | simp (maxSteps := 1000000) (disch := omega) only [ar_nat, ar_u64, ar_add, ar_sub, ar_mul, ar_div, ar_mod, ar_dec_t, ar_dec_f, ar_beq_t, ar_beq_f, ar_bne_t, ar_bne_f, ar_guard, or_guard, ar_take, ar_take_drop, ar_drop, Int.toNat_natCast, Int.reduceToNat])
end Go.Proofs.Ytfnfmbikooeiaaa

namespace Go.Proofs.Ytfnfmbikooeiaaa
open Go.Ax
/-- casketlaw07.lives -/
def F33 : List AV → Option AV
  | [] => some (.v (.bool true))
  | _ => none
theorem F33_eq : F33 [] = some (.v (.bool true)) := rfl
noncomputable def p12 : FuncId → Option (List AV → Option AV) := addPure p11 33 F33
noncomputable def c18 (k : Nat) : Cfg := ⟨Try.prog, k, p12, [], n11, none⟩
theorem c18_odd (k : Nat) : (c18 k).odd = [] := rfl
theorem c18_P (k : Nat) : (c18 k).P = Try.prog := rfl
theorem c18_pure (k : Nat) : (c18 k).pure = p12 := rfl
theorem c18_news (k : Nat) : (c18 k).news = n11 := rfl
theorem good18 (k : Nat) : (c18 k).Good := by
  refine Cfg.Good.add (good17 k) ?_ k
  intro args v hF h κ hκ
  unfold F33 at hF
  split at hF
  · cases hF
    exact pure_call mix_lives (fun g => rfl) (fun g => rfl) h κ hκ
  · cases hF
theorem longL_len (n : Nat) (all : List Int) : (longL n all).length = n := by
  unfold longL
  split
  · rw [blakeL_len]
  · rw [List.length_append, out64_len, blakeL_len]; omega
theorem longL_take (n : Nat) (all : List Int) : (longL n all).take n = longL n all := List.take_of_length_le (by rw [longL_len]; omega)
theorem law_long (n : Int) (a b : List Int) (hl : a.length ≤ 1048576 ∧ b.length ≤ 1048576) :
    ACall Try.prog 9 [.v (.int .i64 n), .roI .u8 a, .roI .u8 b] [] fun v _ => v = .v (.bool true) := by
  by_cases hb : n < 1 ∨ 65536 < n
  · refine acall_run (good18 0) Try.func9 rfl ⟨by kernel_rfl, by show 3 ≤ _; decide, by kernel_rfl, by kernel_rfl⟩ rfl ?_; have hr : Try.f9.results.toList = [.tmp 6] := rfl
    repeat (first | simp only [c18_P, c18_odd, Nat.reduceBEq, layInts, layOnes, beq_self_eq_true, bne_self_eq_false, addPure, reduceIte, Nat.reduceEqDiff, reduceCtorEq, ne_eq, not_false_eq_true, not_true_eq_false, and_true, true_and, and_self, if_true, if_false, decide_true, decide_false, decide_eq_true_eq, exA, exA, tabs, exB, buildA, layA, rowPut, rowOr, rowSetAt, rowSet, rowTake, rowDrop, rowCell, rowAgg, mkAgg, AV.size, AV.isAggV, AV.parts, AV.one, AV.solid, headSize, psize, indexAddrA, indexA, fieldAddrA, fieldA, sliceA, boundsA, bndA, lenA, arrayAtA, rowOf, makeSliceA, intsOf, copyA, Nat.reduceAdd, Nat.reduceSub, Nat.reduceMul, Nat.reduceLeDiff, Nat.reduceLT, Nat.reduceGT, Int.reduceToNat, Int.reduceLE, Int.reduceLT, Int.reduceEq, Int.reduceNe, Int.reduceAdd, Int.reduceSub, Int.reduceMul, Int.reduceNeg, ge_iff_le, gt_iff_lt, or_true, true_or, or_false, false_or, not_true, not_false_iff, ite_true, ite_false, dite_true, take_app, take_blakeL, blakeL_len, run_range, c18_pure, c18_news, p12, F33_eq, p11, F40_eq, F41_eq, n11, N36_eq, N37_eq, pageO, p10, F42_eq, F43_eq, n10, N32_eq, n9, N31_eq, N58_eq, p9, F61_eq, fourL_len, p8, F74_eq, F75_32, F75_24, F75_16, F75_63, p7, F82_eq, p6, F34_eq, p5, F22_eq, p4, p3, p2, p1, F80_eq, F70_eq, F53_eq, F55_eq, F25_eq, F56_eq, F23_eq, n8, N30_nil, N30_ptr, N28_nil, N28_ptr, hashK_eq, hashR_eq, n7, n6, n5, N57_eq, N27_eq, N20_eq, N21_eq, addNews, allOf, hr] | simp (maxSteps := 1000000) (disch := omega) only [ar_nat, ar_u64, ar_add, ar_sub, ar_mul, ar_div, ar_mod, ar_dec_t, ar_dec_f, ar_beq_t, ar_beq_f, ar_bne_t, ar_bne_f, ar_guard, or_guard, ar_take, ar_take_drop, ar_drop, Int.toNat_natCast, Int.reduceToNat])
    repeat' (first | omega | exact trivial | intro _ | refine And.intro ?_ ?_)
  · refine acall_run (good18 0) Try.func9 rfl ⟨by kernel_rfl, by show 3 ≤ _; decide, by kernel_rfl, by kernel_rfl⟩ rfl ?_; have hr : Try.f9.results.toList = [.tmp 6] := rfl
    repeat (first | simp only [c18_P, c18_odd, Nat.reduceBEq, layInts, layOnes, beq_self_eq_true, bne_self_eq_false, addPure, reduceIte, Nat.reduceEqDiff, reduceCtorEq, ne_eq, not_false_eq_true, not_true_eq_false, and_true, true_and, and_self, if_true, if_false, decide_true, decide_false, decide_eq_true_eq, exA, exA, tabs, exB, buildA, layA, rowPut, rowOr, rowSetAt, rowSet, rowTake, rowDrop, rowCell, rowAgg, mkAgg, AV.size, AV.isAggV, AV.parts, AV.one, AV.solid, headSize, psize, indexAddrA, indexA, fieldAddrA, fieldA, sliceA, boundsA, bndA, lenA, arrayAtA, rowOf, makeSliceA, intsOf, copyA, Nat.reduceAdd, Nat.reduceSub, Nat.reduceMul, Nat.reduceLeDiff, Nat.reduceLT, Nat.reduceGT, Int.reduceToNat, Int.reduceLE, Int.reduceLT, Int.reduceEq, Int.reduceNe, Int.reduceAdd, Int.reduceSub, Int.reduceMul, Int.reduceNeg, ge_iff_le, gt_iff_lt, or_true, true_or, or_false, false_or, not_true, not_false_iff, ite_true, ite_false, dite_true, take_app, take_blakeL, blakeL_len, run_range, c18_pure, c18_news, p12, F33_eq, p11, F40_eq, F41_eq, n11, N36_eq, N37_eq, pageO, p10, F42_eq, F43_eq, n10, N32_eq, n9, N31_eq, N58_eq, p9, F61_eq, fourL_len, p8, F74_eq, F75_32, F75_24, F75_16, F75_63, p7, F82_eq, p6, F34_eq, p5, F22_eq, p4, p3, p2, p1, F80_eq, F70_eq, F53_eq, F55_eq, F25_eq, F56_eq, F23_eq, n8, N30_nil, N30_ptr, N28_nil, N28_ptr, hashK_eq, hashR_eq, n7, n6, n5, N57_eq, N27_eq, N20_eq, N21_eq, addNews, allOf, hr, hb] | simp (maxSteps := 1000000) (disch := omega) only [ar_nat, ar_u64, ar_add, ar_sub, ar_mul, ar_div, ar_mod, ar_dec_t, ar_dec_f, ar_beq_t, ar_beq_f, ar_bne_t, ar_bne_f, ar_guard, or_guard, ar_take, ar_take_drop, ar_drop, Int.toNat_natCast, Int.reduceToNat])
    repeat' (first | omega | exact trivial | intro _ | refine And.intro ?_ ?_)
theorem which_zero (n : Nat) : whichN n 0 = n - 1 := by unfold whichN; simp
theorem which_lt (n j : Nat) (h : 1 ≤ n) : whichN n j < n := by unfold whichN; omega
theorem which_mono (n a b : Nat) (h : a ≤ b) : whichN n b ≤ whichN n a := by
  unfold whichN
  have h1 : a * a ≤ b * b := Nat.mul_le_mul h h
  have h2 : a * a / 4294967296 ≤ b * b / 4294967296 := Nat.div_le_div_right h1
  have h3 : n * (a * a / 4294967296) ≤ n * (b * b / 4294967296) := Nat.mul_le_mul_left _ h2
  have h4 := Nat.div_le_div_right (c := 4294967296) h3
  omega
theorem law_which (n j : Int) (hj : 0 ≤ j ∧ j < 4294967296) : ACall Try.prog 10 [.v (.int .i64 n), .v (.int .u32 j)] [] fun v _ => v = .v (.bool true) := by
  by_cases hb : n < 1
  · refine acall_run (good18 0) Try.func10 rfl ⟨by kernel_rfl, by show 2 ≤ _; decide, by kernel_rfl, by kernel_rfl⟩ rfl ?_; have hr : Try.f10.results.toList = [.tmp 4] := rfl
    repeat (first | simp only [c18_P, c18_odd, Nat.reduceBEq, layInts, layOnes, beq_self_eq_true, bne_self_eq_false, addPure, reduceIte, Nat.reduceEqDiff, reduceCtorEq, ne_eq, not_false_eq_true, not_true_eq_false, and_true, true_and, and_self, if_true, if_false, decide_true, decide_false, decide_eq_true_eq, exA, exA, tabs, exB, buildA, layA, rowPut, rowOr, rowSetAt, rowSet, rowTake, rowDrop, rowCell, rowAgg, mkAgg, AV.size, AV.isAggV, AV.parts, AV.one, AV.solid, headSize, psize, indexAddrA, indexA, fieldAddrA, fieldA, sliceA, boundsA, bndA, lenA, arrayAtA, rowOf, makeSliceA, intsOf, copyA, Nat.reduceAdd, Nat.reduceSub, Nat.reduceMul, Nat.reduceLeDiff, Nat.reduceLT, Nat.reduceGT, Int.reduceToNat, Int.reduceLE, Int.reduceLT, Int.reduceEq, Int.reduceNe, Int.reduceAdd, Int.reduceSub, Int.reduceMul, Int.reduceNeg, ge_iff_le, gt_iff_lt, or_true, true_or, or_false, false_or, not_true, not_false_iff, ite_true, ite_false, dite_true, take_app, take_blakeL, blakeL_len, run_range, c18_pure, c18_news, p12, F33_eq, p11, F40_eq, F41_eq, n11, N36_eq, N37_eq, pageO, p10, F42_eq, F43_eq, n10, N32_eq, n9, N31_eq, N58_eq, p9, F61_eq, fourL_len, p8, F74_eq, F75_32, F75_24, F75_16, F75_63, p7, F82_eq, p6, F34_eq, p5, F22_eq, p4, p3, p2, p1, F80_eq, F70_eq, F53_eq, F55_eq, F25_eq, F56_eq, F23_eq, n8, N30_nil, N30_ptr, N28_nil, N28_ptr, hashK_eq, hashR_eq, n7, n6, n5, N57_eq, N27_eq, N20_eq, N21_eq, addNews, allOf, hr, hb] | simp (maxSteps := 1000000) (disch := omega) only [ar_nat, ar_u64, ar_add, ar_sub, ar_mul, ar_div, ar_mod, ar_dec_t, ar_dec_f, ar_beq_t, ar_beq_f, ar_bne_t, ar_bne_f, ar_guard, or_guard, ar_take, ar_take_drop, ar_drop, Int.toNat_natCast, Int.reduceToNat])
    repeat' (first | omega | exact trivial | intro _ | refine And.intro ?_ ?_)
  · by_cases hb2 : 2147483647 < n
    · refine acall_run (good18 0) Try.func10 rfl ⟨by kernel_rfl, by show 2 ≤ _; decide, by kernel_rfl, by kernel_rfl⟩ rfl ?_; have hr : Try.f10.results.toList = [.tmp 4] := rfl
      repeat (first | simp only [c18_P, c18_odd, Nat.reduceBEq, layInts, layOnes, beq_self_eq_true, bne_self_eq_false, addPure, reduceIte, Nat.reduceEqDiff, reduceCtorEq, ne_eq, not_false_eq_true, not_true_eq_false, and_true, true_and, and_self, if_true, if_false, decide_true, decide_false, decide_eq_true_eq, exA, exA, tabs, exB, buildA, layA, rowPut, rowOr, rowSetAt, rowSet, rowTake, rowDrop, rowCell, rowAgg, mkAgg, AV.size, AV.isAggV, AV.parts, AV.one, AV.solid, headSize, psize, indexAddrA, indexA, fieldAddrA, fieldA, sliceA, boundsA, bndA, lenA, arrayAtA, rowOf, makeSliceA, intsOf, copyA, Nat.reduceAdd, Nat.reduceSub, Nat.reduceMul, Nat.reduceLeDiff, Nat.reduceLT, Nat.reduceGT, Int.reduceToNat, Int.reduceLE, Int.reduceLT, Int.reduceEq, Int.reduceNe, Int.reduceAdd, Int.reduceSub, Int.reduceMul, Int.reduceNeg, ge_iff_le, gt_iff_lt, or_true, true_or, or_false, false_or, not_true, not_false_iff, ite_true, ite_false, dite_true, take_app, take_blakeL, blakeL_len, run_range, c18_pure, c18_news, p12, F33_eq, p11, F40_eq, F41_eq, n11, N36_eq, N37_eq, pageO, p10, F42_eq, F43_eq, n10, N32_eq, n9, N31_eq, N58_eq, p9, F61_eq, fourL_len, p8, F74_eq, F75_32, F75_24, F75_16, F75_63, p7, F82_eq, p6, F34_eq, p5, F22_eq, p4, p3, p2, p1, F80_eq, F70_eq, F53_eq, F55_eq, F25_eq, F56_eq, F23_eq, n8, N30_nil, N30_ptr, N28_nil, N28_ptr, hashK_eq, hashR_eq, n7, n6, n5, N57_eq, N27_eq, N20_eq, N21_eq, addNews, allOf, hr] | simp (maxSteps := 1000000) (disch := omega) only [ar_nat, ar_u64, ar_add, ar_sub, ar_mul, ar_div, ar_mod, ar_dec_t, ar_dec_f, ar_beq_t, ar_beq_f, ar_bne_t, ar_bne_f, ar_guard, or_guard, ar_take, ar_take_drop, ar_drop, Int.toNat_natCast, Int.reduceToNat])
      repeat' (first | omega | exact trivial | intro _ | refine And.intro ?_ ?_)
    · obtain ⟨n, rfl⟩ := Int.eq_ofNat_of_zero_le (show 0 ≤ n by omega)
      obtain ⟨j, rfl⟩ := Int.eq_ofNat_of_zero_le hj.1
      have e1 := which_zero n
      have e2 := which_lt n j (by omega)
      have e3 : IntKind.i64.wrap ((n : Int) - 1) = ((n - 1 : Nat) : Int) := by rw [wrap_i64_id _ (by omega)]; omega
      refine acall_run (good18 0) Try.func10 rfl ⟨by kernel_rfl, by show 2 ≤ _; decide, by kernel_rfl, by kernel_rfl⟩ rfl ?_; have hr : Try.f10.results.toList = [.tmp 4] := rfl
      repeat (first | simp only [c18_P, c18_odd, Nat.reduceBEq, layInts, layOnes, beq_self_eq_true, bne_self_eq_false, addPure, reduceIte, Nat.reduceEqDiff, reduceCtorEq, ne_eq, not_false_eq_true, not_true_eq_false, and_true, true_and, and_self, if_true, if_false, decide_true, decide_false, decide_eq_true_eq, exA, exA, tabs, exB, buildA, layA, rowPut, rowOr, rowSetAt, rowSet, rowTake, rowDrop, rowCell, rowAgg, mkAgg, AV.size, AV.isAggV, AV.parts, AV.one, AV.solid, headSize, psize, indexAddrA, indexA, fieldAddrA, fieldA, sliceA, boundsA, bndA, lenA, arrayAtA, rowOf, makeSliceA, intsOf, copyA, Nat.reduceAdd, Nat.reduceSub, Nat.reduceMul, Nat.reduceLeDiff, Nat.reduceLT, Nat.reduceGT, Int.reduceToNat, Int.reduceLE, Int.reduceLT, Int.reduceEq, Int.reduceNe, Int.reduceAdd, Int.reduceSub, Int.reduceMul, Int.reduceNeg, ge_iff_le, gt_iff_lt, or_true, true_or, or_false, false_or, not_true, not_false_iff, ite_true, ite_false, dite_true, take_app, take_blakeL, blakeL_len, run_range, c18_pure, c18_news, p12, F33_eq, p11, F40_eq, F41_eq, n11, N36_eq, N37_eq, pageO, p10, F42_eq, F43_eq, n10, N32_eq, n9, N31_eq, N58_eq, p9, F61_eq, fourL_len, p8, F74_eq, F75_32, F75_24, F75_16, F75_63, p7, F82_eq, p6, F34_eq, p5, F22_eq, p4, p3, p2, p1, F80_eq, F70_eq, F53_eq, F55_eq, F25_eq, F56_eq, F23_eq, n8, N30_nil, N30_ptr, N28_nil, N28_ptr, hashK_eq, hashR_eq, n7, n6, n5, N57_eq, N27_eq, N20_eq, N21_eq, addNews, allOf, hr, e1, e3] | simp (maxSteps := 1000000) (disch := omega) only [ar_nat, ar_u64, ar_add, ar_sub, ar_mul, ar_div, ar_mod, ar_dec_t, ar_dec_f, ar_beq_t, ar_beq_f, ar_bne_t, ar_bne_f, ar_guard, or_guard, ar_take, ar_take_drop, ar_drop, Int.toNat_natCast, Int.reduceToNat])
theorem law_rising (n a b : Int) (ha : 0 ≤ a ∧ a < 4294967296) (hb : 0 ≤ b ∧ b < 4294967296) : ACall Try.prog 12 [.v (.int .i64 n), .v (.int .u32 a), .v (.int .u32 b)] [] fun v _ => v = .v (.bool true) := by
  by_cases hn : n < 1 ∨ 2147483647 < n
  · rcases hn with hn | hn
    · by_cases hab : a > b
      · refine acall_run (good18 0) Try.func12 rfl ⟨by kernel_rfl, by show 3 ≤ _; decide, by kernel_rfl, by kernel_rfl⟩ rfl ?_; have hr : Try.f12.results.toList = [.tmp 6] := rfl
        repeat (first | simp only [c18_P, c18_odd, Nat.reduceBEq, layInts, layOnes, beq_self_eq_true, bne_self_eq_false, addPure, reduceIte, Nat.reduceEqDiff, reduceCtorEq, ne_eq, not_false_eq_true, not_true_eq_false, and_true, true_and, and_self, if_true, if_false, decide_true, decide_false, decide_eq_true_eq, exA, exA, tabs, exB, buildA, layA, rowPut, rowOr, rowSetAt, rowSet, rowTake, rowDrop, rowCell, rowAgg, mkAgg, AV.size, AV.isAggV, AV.parts, AV.one, AV.solid, headSize, psize, indexAddrA, indexA, fieldAddrA, fieldA, sliceA, boundsA, bndA, lenA, arrayAtA, rowOf, makeSliceA, intsOf, copyA, Nat.reduceAdd, Nat.reduceSub, Nat.reduceMul, Nat.reduceLeDiff, Nat.reduceLT, Nat.reduceGT, Int.reduceToNat, Int.reduceLE, Int.reduceLT, Int.reduceEq, Int.reduceNe, Int.reduceAdd, Int.reduceSub, Int.reduceMul, Int.reduceNeg, ge_iff_le, gt_iff_lt, or_true, true_or, or_false, false_or, not_true, not_false_iff, ite_true, ite_false, dite_true, take_app, take_blakeL, blakeL_len, run_range, c18_pure, c18_news, p12, F33_eq, p11, F40_eq, F41_eq, n11, N36_eq, N37_eq, pageO, p10, F42_eq, F43_eq, n10, N32_eq, n9, N31_eq, N58_eq, p9, F61_eq, fourL_len, p8, F74_eq, F75_32, F75_24, F75_16, F75_63, p7, F82_eq, p6, F34_eq, p5, F22_eq, p4, p3, p2, p1, F80_eq, F70_eq, F53_eq, F55_eq, F25_eq, F56_eq, F23_eq, n8, N30_nil, N30_ptr, N28_nil, N28_ptr, hashK_eq, hashR_eq, n7, n6, n5, N57_eq, N27_eq, N20_eq, N21_eq, addNews, allOf, hr] | simp (maxSteps := 1000000) (disch := omega) only [ar_nat, ar_u64, ar_add, ar_sub, ar_mul, ar_div, ar_mod, ar_dec_t, ar_dec_f, ar_beq_t, ar_beq_f, ar_bne_t, ar_bne_f, ar_guard, or_guard, ar_take, ar_take_drop, ar_drop, Int.toNat_natCast, Int.reduceToNat])
        repeat' (first | omega | exact trivial | intro _ | refine And.intro ?_ ?_)
      · refine acall_run (good18 0) Try.func12 rfl ⟨by kernel_rfl, by show 3 ≤ _; decide, by kernel_rfl, by kernel_rfl⟩ rfl ?_; have hr : Try.f12.results.toList = [.tmp 6] := rfl
        repeat (first | simp only [c18_P, c18_odd, Nat.reduceBEq, layInts, layOnes, beq_self_eq_true, bne_self_eq_false, addPure, reduceIte, Nat.reduceEqDiff, reduceCtorEq, ne_eq, not_false_eq_true, not_true_eq_false, and_true, true_and, and_self, if_true, if_false, decide_true, decide_false, decide_eq_true_eq, exA, exA, tabs, exB, buildA, layA, rowPut, rowOr, rowSetAt, rowSet, rowTake, rowDrop, rowCell, rowAgg, mkAgg, AV.size, AV.isAggV, AV.parts, AV.one, AV.solid, headSize, psize, indexAddrA, indexA, fieldAddrA, fieldA, sliceA, boundsA, bndA, lenA, arrayAtA, rowOf, makeSliceA, intsOf, copyA, Nat.reduceAdd, Nat.reduceSub, Nat.reduceMul, Nat.reduceLeDiff, Nat.reduceLT, Nat.reduceGT, Int.reduceToNat, Int.reduceLE, Int.reduceLT, Int.reduceEq, Int.reduceNe, Int.reduceAdd, Int.reduceSub, Int.reduceMul, Int.reduceNeg, ge_iff_le, gt_iff_lt, or_true, true_or, or_false, false_or, not_true, not_false_iff, ite_true, ite_false, dite_true, take_app, take_blakeL, blakeL_len, run_range, c18_pure, c18_news, p12, F33_eq, p11, F40_eq, F41_eq, n11, N36_eq, N37_eq, pageO, p10, F42_eq, F43_eq, n10, N32_eq, n9, N31_eq, N58_eq, p9, F61_eq, fourL_len, p8, F74_eq, F75_32, F75_24, F75_16, F75_63, p7, F82_eq, p6, F34_eq, p5, F22_eq, p4, p3, p2, p1, F80_eq, F70_eq, F53_eq, F55_eq, F25_eq, F56_eq, F23_eq, n8, N30_nil, N30_ptr, N28_nil, N28_ptr, hashK_eq, hashR_eq, n7, n6, n5, N57_eq, N27_eq, N20_eq, N21_eq, addNews, allOf, hr] | simp (maxSteps := 1000000) (disch := omega) only [ar_nat, ar_u64, ar_add, ar_sub, ar_mul, ar_div, ar_mod, ar_dec_t, ar_dec_f, ar_beq_t, ar_beq_f, ar_bne_t, ar_bne_f, ar_guard, or_guard, ar_take, ar_take_drop, ar_drop, Int.toNat_natCast, Int.reduceToNat])
        repeat' (first | omega | exact trivial | intro _ | refine And.intro ?_ ?_)
    · by_cases hab : a > b
      · refine acall_run (good18 0) Try.func12 rfl ⟨by kernel_rfl, by show 3 ≤ _; decide, by kernel_rfl, by kernel_rfl⟩ rfl ?_; have hr : Try.f12.results.toList = [.tmp 6] := rfl
        repeat (first | simp only [c18_P, c18_odd, Nat.reduceBEq, layInts, layOnes, beq_self_eq_true, bne_self_eq_false, addPure, reduceIte, Nat.reduceEqDiff, reduceCtorEq, ne_eq, not_false_eq_true, not_true_eq_false, and_true, true_and, and_self, if_true, if_false, decide_true, decide_false, decide_eq_true_eq, exA, exA, tabs, exB, buildA, layA, rowPut, rowOr, rowSetAt, rowSet, rowTake, rowDrop, rowCell, rowAgg, mkAgg, AV.size, AV.isAggV, AV.parts, AV.one, AV.solid, headSize, psize, indexAddrA, indexA, fieldAddrA, fieldA, sliceA, boundsA, bndA, lenA, arrayAtA, rowOf, makeSliceA, intsOf, copyA, Nat.reduceAdd, Nat.reduceSub, Nat.reduceMul, Nat.reduceLeDiff, Nat.reduceLT, Nat.reduceGT, Int.reduceToNat, Int.reduceLE, Int.reduceLT, Int.reduceEq, Int.reduceNe, Int.reduceAdd, Int.reduceSub, Int.reduceMul, Int.reduceNeg, ge_iff_le, gt_iff_lt, or_true, true_or, or_false, false_or, not_true, not_false_iff, ite_true, ite_false, dite_true, take_app, take_blakeL, blakeL_len, run_range, c18_pure, c18_news, p12, F33_eq, p11, F40_eq, F41_eq, n11, N36_eq, N37_eq, pageO, p10, F42_eq, F43_eq, n10, N32_eq, n9, N31_eq, N58_eq, p9, F61_eq, fourL_len, p8, F74_eq, F75_32, F75_24, F75_16, F75_63, p7, F82_eq, p6, F34_eq, p5, F22_eq, p4, p3, p2, p1, F80_eq, F70_eq, F53_eq, F55_eq, F25_eq, F56_eq, F23_eq, n8, N30_nil, N30_ptr, N28_nil, N28_ptr, hashK_eq, hashR_eq, n7, n6, n5, N57_eq, N27_eq, N20_eq, N21_eq, addNews, allOf, hr] | simp (maxSteps := 1000000) (disch := omega) only [ar_nat, ar_u64, ar_add, ar_sub, ar_mul, ar_div, ar_mod, ar_dec_t, ar_dec_f, ar_beq_t, ar_beq_f, ar_bne_t, ar_bne_f, ar_guard, or_guard, ar_take, ar_take_drop, ar_drop, Int.toNat_natCast, Int.reduceToNat])
        repeat' (first | omega | exact trivial | intro _ | refine And.intro ?_ ?_)
      · refine acall_run (good18 0) Try.func12 rfl ⟨by kernel_rfl, by show 3 ≤ _; decide, by kernel_rfl, by kernel_rfl⟩ rfl ?_; have hr : Try.f12.results.toList = [.tmp 6] := rfl
        repeat (first | simp only [c18_P, c18_odd, Nat.reduceBEq, layInts, layOnes, beq_self_eq_true, bne_self_eq_false, addPure, reduceIte, Nat.reduceEqDiff, reduceCtorEq, ne_eq, not_false_eq_true, not_true_eq_false, and_true, true_and, and_self, if_true, if_false, decide_true, decide_false, decide_eq_true_eq, exA, exA, tabs, exB, buildA, layA, rowPut, rowOr, rowSetAt, rowSet, rowTake, rowDrop, rowCell, rowAgg, mkAgg, AV.size, AV.isAggV, AV.parts, AV.one, AV.solid, headSize, psize, indexAddrA, indexA, fieldAddrA, fieldA, sliceA, boundsA, bndA, lenA, arrayAtA, rowOf, makeSliceA, intsOf, copyA, Nat.reduceAdd, Nat.reduceSub, Nat.reduceMul, Nat.reduceLeDiff, Nat.reduceLT, Nat.reduceGT, Int.reduceToNat, Int.reduceLE, Int.reduceLT, Int.reduceEq, Int.reduceNe, Int.reduceAdd, Int.reduceSub, Int.reduceMul, Int.reduceNeg, ge_iff_le, gt_iff_lt, or_true, true_or, or_false, false_or, not_true, not_false_iff, ite_true, ite_false, dite_true, take_app, take_blakeL, blakeL_len, run_range, c18_pure, c18_news, p12, F33_eq, p11, F40_eq, F41_eq, n11, N36_eq, N37_eq, pageO, p10, F42_eq, F43_eq, n10, N32_eq, n9, N31_eq, N58_eq, p9, F61_eq, fourL_len, p8, F74_eq, F75_32, F75_24, F75_16, F75_63, p7, F82_eq, p6, F34_eq, p5, F22_eq, p4, p3, p2, p1, F80_eq, F70_eq, F53_eq, F55_eq, F25_eq, F56_eq, F23_eq, n8, N30_nil, N30_ptr, N28_nil, N28_ptr, hashK_eq, hashR_eq, n7, n6, n5, N57_eq, N27_eq, N20_eq, N21_eq, addNews, allOf, hr] | simp (maxSteps := 1000000) (disch := omega) only [ar_nat, ar_u64, ar_add, ar_sub, ar_mul, ar_div, ar_mod, ar_dec_t, ar_dec_f, ar_beq_t, ar_beq_f, ar_bne_t, ar_bne_f, ar_guard, or_guard, ar_take, ar_take_drop, ar_drop, Int.toNat_natCast, Int.reduceToNat])
        repeat' (first | omega | exact trivial | intro _ | refine And.intro ?_ ?_)
  · obtain ⟨n, rfl⟩ := Int.eq_ofNat_of_zero_le (show 0 ≤ n by omega)
    obtain ⟨a, rfl⟩ := Int.eq_ofNat_of_zero_le ha.1
    obtain ⟨b, rfl⟩ := Int.eq_ofNat_of_zero_le hb.1
    by_cases hab : (a : Int) > b
    · have e1 := which_mono n b a (by omega)
      refine acall_run (good18 0) Try.func12 rfl ⟨by kernel_rfl, by show 3 ≤ _; decide, by kernel_rfl, by kernel_rfl⟩ rfl ?_; have hr : Try.f12.results.toList = [.tmp 6] := rfl
      repeat (first | simp only [c18_P, c18_odd, Nat.reduceBEq, layInts, layOnes, beq_self_eq_true, bne_self_eq_false, addPure, reduceIte, Nat.reduceEqDiff, reduceCtorEq, ne_eq, not_false_eq_true, not_true_eq_false, and_true, true_and, and_self, if_true, if_false, decide_true, decide_false, decide_eq_true_eq, exA, exA, tabs, exB, buildA, layA, rowPut, rowOr, rowSetAt, rowSet, rowTake, rowDrop, rowCell, rowAgg, mkAgg, AV.size, AV.isAggV, AV.parts, AV.one, AV.solid, headSize, psize, indexAddrA, indexA, fieldAddrA, fieldA, sliceA, boundsA, bndA, lenA, arrayAtA, rowOf, makeSliceA, intsOf, copyA, Nat.reduceAdd, Nat.reduceSub, Nat.reduceMul, Nat.reduceLeDiff, Nat.reduceLT, Nat.reduceGT, Int.reduceToNat, Int.reduceLE, Int.reduceLT, Int.reduceEq, Int.reduceNe, Int.reduceAdd, Int.reduceSub, Int.reduceMul, Int.reduceNeg, ge_iff_le, gt_iff_lt, or_true, true_or, or_false, false_or, not_true, not_false_iff, ite_true, ite_false, dite_true, take_app, take_blakeL, blakeL_len, run_range, c18_pure, c18_news, p12, F33_eq, p11, F40_eq, F41_eq, n11, N36_eq, N37_eq, pageO, p10, F42_eq, F43_eq, n10, N32_eq, n9, N31_eq, N58_eq, p9, F61_eq, fourL_len, p8, F74_eq, F75_32, F75_24, F75_16, F75_63, p7, F82_eq, p6, F34_eq, p5, F22_eq, p4, p3, p2, p1, F80_eq, F70_eq, F53_eq, F55_eq, F25_eq, F56_eq, F23_eq, n8, N30_nil, N30_ptr, N28_nil, N28_ptr, hashK_eq, hashR_eq, n7, n6, n5, N57_eq, N27_eq, N20_eq, N21_eq, addNews, allOf, hr] | simp (maxSteps := 1000000) (disch := omega) only [ar_nat, ar_u64, ar_add, ar_sub, ar_mul, ar_div, ar_mod, ar_dec_t, ar_dec_f, ar_beq_t, ar_beq_f, ar_bne_t, ar_bne_f, ar_guard, or_guard, ar_take, ar_take_drop, ar_drop, Int.toNat_natCast, Int.reduceToNat])
      repeat' (first | omega | exact trivial | intro _ | refine And.intro ?_ ?_)
    · have e1 := which_mono n a b (by omega)
      refine acall_run (good18 0) Try.func12 rfl ⟨by kernel_rfl, by show 3 ≤ _; decide, by kernel_rfl, by kernel_rfl⟩ rfl ?_; have hr : Try.f12.results.toList = [.tmp 6] := rfl
      repeat (first | simp only [c18_P, c18_odd, Nat.reduceBEq, layInts, layOnes, beq_self_eq_true, bne_self_eq_false, addPure, reduceIte, Nat.reduceEqDiff, reduceCtorEq, ne_eq, not_false_eq_true, not_true_eq_false, and_true, true_and, and_self, if_true, if_false, decide_true, decide_false, decide_eq_true_eq, exA, exA, tabs, exB, buildA, layA, rowPut, rowOr, rowSetAt, rowSet, rowTake, rowDrop, rowCell, rowAgg, mkAgg, AV.size, AV.isAggV, AV.parts, AV.one, AV.solid, headSize, psize, indexAddrA, indexA, fieldAddrA, fieldA, sliceA, boundsA, bndA, lenA, arrayAtA, rowOf, makeSliceA, intsOf, copyA, Nat.reduceAdd, Nat.reduceSub, Nat.reduceMul, Nat.reduceLeDiff, Nat.reduceLT, Nat.reduceGT, Int.reduceToNat, Int.reduceLE, Int.reduceLT, Int.reduceEq, Int.reduceNe, Int.reduceAdd, Int.reduceSub, Int.reduceMul, Int.reduceNeg, ge_iff_le, gt_iff_lt, or_true, true_or, or_false, false_or, not_true, not_false_iff, ite_true, ite_false, dite_true, take_app, take_blakeL, blakeL_len, run_range, c18_pure, c18_news, p12, F33_eq, p11, F40_eq, F41_eq, n11, N36_eq, N37_eq, pageO, p10, F42_eq, F43_eq, n10, N32_eq, n9, N31_eq, N58_eq, p9, F61_eq, fourL_len, p8, F74_eq, F75_32, F75_24, F75_16, F75_63, p7, F82_eq, p6, F34_eq, p5, F22_eq, p4, p3, p2, p1, F80_eq, F70_eq, F53_eq, F55_eq, F25_eq, F56_eq, F23_eq, n8, N30_nil, N30_ptr, N28_nil, N28_ptr, hashK_eq, hashR_eq, n7, n6, n5, N57_eq, N27_eq, N20_eq, N21_eq, addNews, allOf, hr] | simp (maxSteps := 1000000) (disch := omega) only [ar_nat, ar_u64, ar_add, ar_sub, ar_mul, ar_div, ar_mod, ar_dec_t, ar_dec_f, ar_beq_t, ar_beq_f, ar_bne_t, ar_bne_f, ar_guard, or_guard, ar_take, ar_take_drop, ar_drop, Int.toNat_natCast, Int.reduceToNat])
      repeat' (first | omega | exact trivial | intro _ | refine And.intro ?_ ?_)
end Go.Proofs.Ytfnfmbikooeiaaa

namespace Go.Proofs.Ytfnfmbikooeiaaa
open Go.Ax
open Go.ChangeShapes Go.WideShapes Go.ChangeAt Go.RowKit
theorem own_none : ownKnob Try.prog.godebug = none := by kernel_rfl
namespace bulks
theorem length_le {H : Type} (l : List (DataW H)) : l.length ≤ Rows.uptoBulkAll l := by
  induction l with
  | nil => simp [Rows.uptoBulkAll]
  | cons x r ih =>
    have : 1 ≤ Rows.uptoBulk x := by
      cases x with
      | lit l => cases l <;> simp [Rows.uptoBulk]
      | _ => simp [Rows.uptoBulk]
    simp only [Rows.uptoBulkAll, List.length_cons]; omega
theorem bound {H : Type} {l : List (DataW H)} (hk : Rows.uptoSmall H l = true) : Rows.uptoBulkAll l ≤ 1048576 := of_decide_eq_true hk
theorem ints_len {H : Type} {k : IntKind} {l : List Int} {d : DataW H} (h : (l = [] ∧ d = .nil) ∨ ∃ sp, d = .slice (lits k l) sp) : l.length ≤ Rows.uptoBulk d := by
  rcases h with ⟨rfl, rfl⟩ | ⟨sp, rfl⟩
  · simp
  · have := length_le (lits (H := H) k l)
    have h2 : (lits (H := H) k l).length = l.length := by simp [lits]
    simp only [Rows.uptoBulk]; omega
end bulks
theorem relVs_mk0 {X : Nat → Prop} {w : World} {ρ : List (Option Nat)} : relVs X w ρ [] [] := by simp only [relVs]
theorem relVs_mk {X : Nat → Prop} {w : World} {ρ : List (Option Nat)} {x : AV} {xs : List AV} {v : Value} {vs : List Value} (h : AV.relV X w ρ x v) (hs : relVs X w ρ xs vs) : relVs X w ρ (x :: xs) (v :: vs) := by
  simp only [relVs]; exact ⟨v, vs, rfl, h, hs⟩
theorem cel5 : Try.prog.cellsOf 5 = 1 := by kernel_rfl
theorem cel29 : Try.prog.cellsOf 29 = 1 := by kernel_rfl
theorem cel30 : Try.prog.cellsOf 30 = 8 := by kernel_rfl
theorem cel31 : Try.prog.cellsOf 31 = 128 := by kernel_rfl

end Go.Proofs.Ytfnfmbikooeiaaa

namespace Go.Proofs.Ytfnfmbikooeiaaa
open Go.Ax
open Go.ChangeShapes Go.WideShapes Go.ChangeAt Go.RowKit
theorem cel49 : Try.prog.cellsOf 49 = 1 := by kernel_rfl
theorem cel53 : Try.prog.cellsOf 53 = 128 := by kernel_rfl
theorem cel60 : Try.prog.cellsOf 60 = 16 := by kernel_rfl
theorem wf_u64 {m : Int} (h : (Lit.int .u64 m).wf = true) : 0 ≤ m ∧ m < 18446744073709551616 := by
  have : 0 ≤ m ∧ m ≤ 18446744073709551615 := by simpa [Lit.wf, IntKind.min, IntKind.max, IntKind.signed, IntKind.bits] using h
  omega
theorem wf_u32 {m : Int} (h : (Lit.int .u32 m).wf = true) : 0 ≤ m ∧ m < 4294967296 := by
  have : 0 ≤ m ∧ m ≤ 4294967295 := by simpa [Lit.wf, IntKind.min, IntKind.max, IntKind.signed, IntKind.bits] using h
  omega
theorem wf_u8 {m : Int} (h : (Lit.int .u8 m).wf = true) : 0 ≤ m ∧ m < 256 := by
  have : 0 ≤ m ∧ m ≤ 255 := by simpa [Lit.wf, IntKind.min, IntKind.max, IntKind.signed, IntKind.bits] using h
  omega
theorem getD_all {l : List Int} {p : Int → Prop} (h0 : p 0) (h : ∀ m ∈ l, p m) (i : Nat) : p (l.getD i 0) := by
  rw [List.getD_eq_getElem?_getD]
  cases hi : l[i]? with
  | none => exact h0
  | some x => exact h x (List.mem_of_getElem? hi)
theorem wds_of {l : List Int} (h : ∀ m ∈ l, (Lit.int .u64 m).wf = true) : Wds l := fun i => getD_all (p := fun m => 0 ≤ m ∧ m < 18446744073709551616) (by decide) (fun m hm => wf_u64 (h m hm)) i
theorem nn_of {l : List Int} (h : ∀ m ∈ l, (Lit.int .u64 m).wf = true) : NonNeg l := fun i => (wds_of h i).1
theorem bts_of {l : List Int} (h : ∀ m ∈ l, (Lit.int .u8 m).wf = true) : Bts l := fun i => getD_all (p := fun m => 0 ≤ m ∧ m < 256) (by decide) (fun m hm => wf_u8 (h m hm)) i

end Go.Proofs.Ytfnfmbikooeiaaa
