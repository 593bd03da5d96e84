/- The law MixBytes answers true for every page and all bytes. -/
import Derived.Test.YtfnfmbikooeiaaaMe
import Derived.Test.YtfnfmbikooeiaaaRows
import Derived.WalkKit
import Derived.ProofKit
set_option linter.unusedSimpArgs false
set_option linter.unusedVariables false
set_option maxHeartbeats 4000000
set_option maxRecDepth 100000
namespace Go.Proofs.Ytfnfmbikooeiaaa
open Go.Ax
theorem law_bytes (p b : List Int) (hp : p.length = 128) (hw : Wds p) (hB : Bts b) : ACall Try.prog 11 [.arr 128 .u64 p, .roI .u8 b] [] fun v _ => v = .v (.bool true) := by
  have ht := take128 hp
  have hl := pageB_len p
  have ht2 := pageB_take p
  have hpb : pageOf (pageB p) = p := by rw [pageOf_eq, pageB_eq]; exact page_bytes p hp hw
  have hrl := pageOf_len b
  have hrt := pageOf_take b
  have hrz := take128 (List.length_replicate (n := 128) (a := (0 : Int)))
  by_cases hb : b.length = 1024
  · have hbp : pageB (pageOf b) = b := by rw [pageOf_eq, pageB_eq]; exact bytes_page b hb hB
    have hbt : b.take 1024 = b := List.take_of_length_le (by omega)
    refine acall_run (good18 0) Try.func11 rfl ⟨by kernel_rfl, by show 2 ≤ _; decide, by kernel_rfl, by kernel_rfl⟩ rfl ?_; have hr : Try.f11.results.toList = [.tmp 4] := rfl
    repeat (first | simp only [c18_P, c18_odd, Nat.reduceBEq, layInts, layOnes, beq_self_eq_true, bne_self_eq_false, addPure, reduceIte, Nat.reduceEqDiff, reduceCtorEq, ne_eq, not_false_eq_true, not_true_eq_false, and_true, true_and, and_self, if_true, if_false, decide_true, decide_false, decide_eq_true_eq, exA, exA, tabs, exB, buildA, layA, rowPut, rowOr, rowSetAt, rowSet, rowTake, rowDrop, rowCell, rowAgg, mkAgg, AV.size, AV.isAggV, AV.parts, AV.one, AV.solid, headSize, psize, indexAddrA, indexA, fieldAddrA, fieldA, sliceA, boundsA, bndA, lenA, arrayAtA, rowOf, makeSliceA, intsOf, copyA, Nat.reduceAdd, Nat.reduceSub, Nat.reduceMul, Nat.reduceLeDiff, Nat.reduceLT, Nat.reduceGT, Int.reduceToNat, Int.reduceLE, Int.reduceLT, Int.reduceEq, Int.reduceNe, Int.reduceAdd, Int.reduceSub, Int.reduceMul, Int.reduceNeg, ge_iff_le, gt_iff_lt, or_true, true_or, or_false, false_or, not_true, not_false_iff, ite_true, ite_false, dite_true, take_app, take_blakeL, blakeL_len, run_range, c18_pure, c18_news, p12, F33_eq, p11, F40_eq, F41_eq, n11, N36_eq, N37_eq, pageO, p10, F42_eq, F43_eq, n10, N32_eq, n9, N31_eq, N58_eq, p9, F61_eq, fourL_len, p8, F74_eq, F75_32, F75_24, F75_16, F75_63, p7, F82_eq, p6, F34_eq, p5, F22_eq, p4, p3, p2, p1, F80_eq, F70_eq, F53_eq, F55_eq, F25_eq, F56_eq, F23_eq, n8, N30_nil, N30_ptr, N28_nil, N28_ptr, hashK_eq, hashR_eq, n7, n6, n5, N57_eq, N27_eq, N20_eq, N21_eq, addNews, allOf, hr, ht, hp, hl, ht2, hpb, hb, hrt, hrl, hbp, hbt] | simp (maxSteps := 1000000) (disch := omega) only [ar_nat, ar_u64, ar_add, ar_sub, ar_mul, ar_div, ar_mod, ar_dec_t, ar_dec_f, ar_beq_t, ar_beq_f, ar_bne_t, ar_bne_f, ar_guard, or_guard, ar_take, ar_take_drop, ar_drop, Int.toNat_natCast, Int.reduceToNat])
    repeat' (first | omega | exact trivial | intro _ | refine And.intro ?_ ?_)
  · refine acall_run (good18 0) Try.func11 rfl ⟨by kernel_rfl, by show 2 ≤ _; decide, by kernel_rfl, by kernel_rfl⟩ rfl ?_; have hr : Try.f11.results.toList = [.tmp 4] := rfl
    repeat (first | simp only [c18_P, c18_odd, Nat.reduceBEq, layInts, layOnes, beq_self_eq_true, bne_self_eq_false, addPure, reduceIte, Nat.reduceEqDiff, reduceCtorEq, ne_eq, not_false_eq_true, not_true_eq_false, and_true, true_and, and_self, if_true, if_false, decide_true, decide_false, decide_eq_true_eq, exA, exA, tabs, exB, buildA, layA, rowPut, rowOr, rowSetAt, rowSet, rowTake, rowDrop, rowCell, rowAgg, mkAgg, AV.size, AV.isAggV, AV.parts, AV.one, AV.solid, headSize, psize, indexAddrA, indexA, fieldAddrA, fieldA, sliceA, boundsA, bndA, lenA, arrayAtA, rowOf, makeSliceA, intsOf, copyA, Nat.reduceAdd, Nat.reduceSub, Nat.reduceMul, Nat.reduceLeDiff, Nat.reduceLT, Nat.reduceGT, Int.reduceToNat, Int.reduceLE, Int.reduceLT, Int.reduceEq, Int.reduceNe, Int.reduceAdd, Int.reduceSub, Int.reduceMul, Int.reduceNeg, ge_iff_le, gt_iff_lt, or_true, true_or, or_false, false_or, not_true, not_false_iff, ite_true, ite_false, dite_true, take_app, take_blakeL, blakeL_len, run_range, c18_pure, c18_news, p12, F33_eq, p11, F40_eq, F41_eq, n11, N36_eq, N37_eq, pageO, p10, F42_eq, F43_eq, n10, N32_eq, n9, N31_eq, N58_eq, p9, F61_eq, fourL_len, p8, F74_eq, F75_32, F75_24, F75_16, F75_63, p7, F82_eq, p6, F34_eq, p5, F22_eq, p4, p3, p2, p1, F80_eq, F70_eq, F53_eq, F55_eq, F25_eq, F56_eq, F23_eq, n8, N30_nil, N30_ptr, N28_nil, N28_ptr, hashK_eq, hashR_eq, n7, n6, n5, N57_eq, N27_eq, N20_eq, N21_eq, addNews, allOf, hr, ht, hp, hl, ht2, hpb, hb, hrz] | simp (maxSteps := 1000000) (disch := omega) only [ar_nat, ar_u64, ar_add, ar_sub, ar_mul, ar_div, ar_mod, ar_dec_t, ar_dec_f, ar_beq_t, ar_beq_f, ar_bne_t, ar_bne_f, ar_guard, or_guard, ar_take, ar_take_drop, ar_drop, Int.toNat_natCast, Int.reduceToNat])
    repeat' (first | omega | exact trivial | intro _ | refine And.intro ?_ ?_)
end Go.Proofs.Ytfnfmbikooeiaaa

namespace Go.Proofs.Ytfnfmbikooeiaaa
open Go.Ax
open Go.ChangeShapes Go.WideShapes Go.ChangeAt Go.RowKit
set_option maxRecDepth 100000 in
/-- MixBytes: what the walk gives -/
theorem mixBytes_any (H : Type) (enc : TypeId × Value → H) (W : World) (base : Nat) (args : Array Value) (ds gs : List (DataW H)) (before : List MemPlace)
    (hval : ∀ (j : Nat) t v, Try.f11.params[j]? = some t → args[j]? = some v → Value.okWide Try.prog W .any base t v)
    (hW : DataW.Whole enc Try.prog Try.f11.params.toList Rows.mixBytesSpec.vars false W args.toList ds gs before) :
    Calls Try.prog 11 args W fun e W' => ∃ v, e = .returned v ∧ Rows.mixBytesSpec.post enc Try.prog Try.f11 false true false false W args v W' := by
  have hW' := hW
  obtain ⟨p, q, hA0, hV, rfl, hfz, hnd⟩ := hW
  have hA : DataW.TrodAll enc Try.prog W 0 (fun _ => true) true Try.f11.params.toList args.toList ds p := hA0
  rw [Try.params11] at hA hval
  obtain ⟨v0, vs0, d0, ds0, p0, q0, hv0, rfl, rfl, h0, r0⟩ := trodAll_cons hA
  obtain ⟨v1, vs1, d1, ds1, p1, q1, hv1, rfl, rfl, h1, r1⟩ := trodAll_cons r0
  obtain ⟨hvn, rfl, rfl⟩ := trodAll_nil r1
  obtain rfl : args = #[v0, v1] := by
    apply Array.ext'
    rw [hv0, hv1, hvn]
  obtain ⟨rfl, rfl⟩ := trodVars_none hV
  have hX : ∀ r, ¬ XOf (fun _ => False) ([] : List (Option Nat)) [] r := by rintro r (h | ⟨b, hb, _⟩) <;> simp_all
  obtain ⟨p, e0, b0, w0⟩ := open_arr' (X := XOf (fun _ => False) [] []) Try.underlying53 Try.underlying29 cel29 cel53 (hval 0 53 v0 rfl rfl) h0
  obtain ⟨b, e1, b1, w1⟩ := open_ints' (X := XOf (fun _ => False) [] []) Try.underlying22 Try.underlying5 cel5 hX (hval 1 22 v1 rfl rfl) h1
  refine law_post (P := Try.prog) (L := [3, 4, 5, 22, 29, 49, 53, 60]) (by kernel_rfl) (by rw [Try.params11]; decide) rfl Try.underlying4 rfl rfl hW' (avs := _) ?_ (law_bytes p b b0 (wds_of w0) (bts_of w1))
  exact relVs_mk e0 (relVs_mk e1 (relVs_mk0))
set_option maxRecDepth 100000 in
theorem mixBytes_liftedAny (os : Os) (started : os.Started) (H : Type) (enc : TypeId × Value → H) :
    ReturnsInHanded {} Try.checked os 11 .any (Rows.mixBytesSpec.pre6 enc Try.prog Try.f11 Rows.mixBytesRow.domain false) (Rows.mixBytesSpec.post enc Try.prog Try.f11 false true false false) := by
  refine returnsInHanded_of_change (C := Try.checked) own_none started (by kernel_rfl) Try.func11
    (ChangeSpec.witness6 (enc := enc) (C := Try.checked) false ⟨#[], #[.agg (Array.replicate 128 (.int .u64 0)), .slice none 0 0], []⟩ 8 (by kernel_rfl) (by kernel_rfl) (by kernel_rfl) (by kernel_rfl)) ?_
  intro W base args ds gs before hval hW _ _
  exact mixBytes_any H enc W base args ds gs before hval hW
theorem mixBytes_any_proved : Rows.MixBytesSaid :=
  OpenClaim.holds_of_wide 11 Try.f11 rfl rfl rfl rfl rfl rfl rfl ⟨rfl, rfl, rfl, rfl, rfl⟩ rfl rfl rfl rfl rfl (by kernel_rfl) Try.func11 (by kernel_rfl)
    (of_decide_eq_true (by kernel_rfl)) (by unfold Func.isWrapper; first | (rw [if_pos (by decide +kernel)]; kernel_rfl) | (rw [if_neg (by decide +kernel)]; exact ⟨rfl, rfl⟩))
    (fun os started H enc _ => mixBytes_liftedAny os started H enc)
end Go.Proofs.Ytfnfmbikooeiaaa
