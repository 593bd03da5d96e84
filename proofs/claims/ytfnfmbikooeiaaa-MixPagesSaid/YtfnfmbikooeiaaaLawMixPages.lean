/- The law MixPages answers true for every two pages and all words. -/
import Derived.Test.YtfnfmbikooeiaaaMe
import Derived.Test.YtfnfmbikooeiaaaRows
import Derived.WalkKit
import Derived.ProofKit
set_option linter.unusedSimpArgs false
set_option linter.unusedVariables false
set_option maxHeartbeats 4000000
set_option maxRecDepth 100000
namespace Go.Proofs.Ytfnfmbikooeiaaa
open Go.Ax
theorem law_pages (x y v : List Int) (hx : x.length = 128) (hy : y.length = 128) (hv : v.length = 16) (nx : NonNeg x) (nv : NonNeg v) :
    ACall Try.prog 14 [.arr 128 .u64 x, .arr 128 .u64 y, .arr 16 .u64 v] [] fun r _ => r = .v (.bool true) := by
  have e1 := pages_law (y := y) hx nx
  have e2 := pages_comm hx hy
  have e3 := pages_self hx
  have e4 := stir_law nv
  have t1 := take128 hx
  have t2 := take128 hy
  have t3 := take16 hv
  have l1 : (pagesL x y).length = 128 := by rw [pagesL_len, hx]
  have t4 := take128 l1
  refine acall_run (good18 0) Try.func14 rfl ⟨by kernel_rfl, by show 3 ≤ _; decide, by kernel_rfl, by kernel_rfl⟩ rfl ?_; have hr : Try.f14.results.toList = [.tmp 6] := rfl
  repeat (first | simp only [c18_P, c18_odd, Nat.reduceBEq, layInts, layOnes, beq_self_eq_true, bne_self_eq_false, addPure, reduceIte, Nat.reduceEqDiff, reduceCtorEq, ne_eq, not_false_eq_true, not_true_eq_false, and_true, true_and, and_self, if_true, if_false, decide_true, decide_false, decide_eq_true_eq, exA, exA, tabs, exB, buildA, layA, rowPut, rowOr, rowSetAt, rowSet, rowTake, rowDrop, rowCell, rowAgg, mkAgg, AV.size, AV.isAggV, AV.parts, AV.one, AV.solid, headSize, psize, indexAddrA, indexA, fieldAddrA, fieldA, sliceA, boundsA, bndA, lenA, arrayAtA, rowOf, makeSliceA, intsOf, copyA, Nat.reduceAdd, Nat.reduceSub, Nat.reduceMul, Nat.reduceLeDiff, Nat.reduceLT, Nat.reduceGT, Int.reduceToNat, Int.reduceLE, Int.reduceLT, Int.reduceEq, Int.reduceNe, Int.reduceAdd, Int.reduceSub, Int.reduceMul, Int.reduceNeg, ge_iff_le, gt_iff_lt, or_true, true_or, or_false, false_or, not_true, not_false_iff, ite_true, ite_false, dite_true, take_app, take_blakeL, blakeL_len, run_range, c18_pure, c18_news, p12, F33_eq, p11, F40_eq, F41_eq, n11, N36_eq, N37_eq, pageO, p10, F42_eq, F43_eq, n10, N32_eq, n9, N31_eq, N58_eq, p9, F61_eq, fourL_len, p8, F74_eq, F75_32, F75_24, F75_16, F75_63, p7, F82_eq, p6, F34_eq, p5, F22_eq, p4, p3, p2, p1, F80_eq, F70_eq, F53_eq, F55_eq, F25_eq, F56_eq, F23_eq, n8, N30_nil, N30_ptr, N28_nil, N28_ptr, hashK_eq, hashR_eq, n7, n6, n5, N57_eq, N27_eq, N20_eq, N21_eq, addNews, allOf, hr, hx, hy, hv, e1, e2, e3, e4, t1, t2, t3, t4, l1] | simp (maxSteps := 1000000) (disch := omega) only [ar_nat, ar_u64, ar_add, ar_sub, ar_mul, ar_div, ar_mod, ar_dec_t, ar_dec_f, ar_beq_t, ar_beq_f, ar_bne_t, ar_bne_f, ar_guard, or_guard, ar_take, ar_take_drop, ar_drop, Int.toNat_natCast, Int.reduceToNat])
end Go.Proofs.Ytfnfmbikooeiaaa

namespace Go.Proofs.Ytfnfmbikooeiaaa
open Go.Ax
open Go.ChangeShapes Go.WideShapes Go.ChangeAt Go.RowKit
set_option maxRecDepth 100000 in
/-- MixPages: what the walk gives -/
theorem mixPages_any (H : Type) (enc : TypeId × Value → H) (W : World) (base : Nat) (args : Array Value) (ds gs : List (DataW H)) (before : List MemPlace)
    (hval : ∀ (j : Nat) t v, Try.f14.params[j]? = some t → args[j]? = some v → Value.okWide Try.prog W .any base t v)
    (hW : DataW.Whole enc Try.prog Try.f14.params.toList Rows.mixPagesSpec.vars false W args.toList ds gs before) :
    Calls Try.prog 14 args W fun e W' => ∃ v, e = .returned v ∧ Rows.mixPagesSpec.post enc Try.prog Try.f14 false true false false W args v W' := by
  have hW' := hW
  obtain ⟨p, q, hA0, hV, rfl, hfz, hnd⟩ := hW
  have hA : DataW.TrodAll enc Try.prog W 0 (fun _ => true) true Try.f14.params.toList args.toList ds p := hA0
  rw [Try.params14] at hA hval
  obtain ⟨v0, vs0, d0, ds0, p0, q0, hv0, rfl, rfl, h0, r0⟩ := trodAll_cons hA
  obtain ⟨v1, vs1, d1, ds1, p1, q1, hv1, rfl, rfl, h1, r1⟩ := trodAll_cons r0
  obtain ⟨v2, vs2, d2, ds2, p2, q2, hv2, rfl, rfl, h2, r2⟩ := trodAll_cons r1
  obtain ⟨hvn, rfl, rfl⟩ := trodAll_nil r2
  obtain rfl : args = #[v0, v1, v2] := by
    apply Array.ext'
    rw [hv0, hv1, hv2, hvn]
  obtain ⟨rfl, rfl⟩ := trodVars_none hV
  have hX : ∀ r, ¬ XOf (fun _ => False) ([] : List (Option Nat)) [] r := by rintro r (h | ⟨b, hb, _⟩) <;> simp_all
  obtain ⟨x, e0, b0, w0⟩ := open_arr' (X := XOf (fun _ => False) [] []) Try.underlying53 Try.underlying29 cel29 cel53 (hval 0 53 v0 rfl rfl) h0
  obtain ⟨y, e1, b1, w1⟩ := open_arr' (X := XOf (fun _ => False) [] []) Try.underlying53 Try.underlying29 cel29 cel53 (hval 1 53 v1 rfl rfl) h1
  obtain ⟨v, e2, b2, w2⟩ := open_arr' (X := XOf (fun _ => False) [] []) Try.underlying60 Try.underlying29 cel29 cel60 (hval 2 60 v2 rfl rfl) h2
  refine law_post (P := Try.prog) (L := [3, 4, 5, 22, 29, 49, 53, 60]) (by kernel_rfl) (by rw [Try.params14]; decide) rfl Try.underlying4 rfl rfl hW' (avs := _) ?_ (law_pages x y v b0 b1 b2 (nn_of w0) (nn_of w2))
  exact relVs_mk e0 (relVs_mk e1 (relVs_mk e2 (relVs_mk0)))
set_option maxRecDepth 100000 in
theorem mixPages_liftedAny (os : Os) (started : os.Started) (H : Type) (enc : TypeId × Value → H) :
    ReturnsInHanded {} Try.checked os 14 .any (Rows.mixPagesSpec.pre6 enc Try.prog Try.f14 Rows.mixPagesRow.domain false) (Rows.mixPagesSpec.post enc Try.prog Try.f14 false true false false) := by
  refine returnsInHanded_of_change (C := Try.checked) own_none started (by kernel_rfl) Try.func14
    (ChangeSpec.witness6 (enc := enc) (C := Try.checked) false ⟨#[], #[.agg (Array.replicate 128 (.int .u64 0)), .agg (Array.replicate 128 (.int .u64 0)), .agg (Array.replicate 16 (.int .u64 0))], []⟩ 8 (by kernel_rfl) (by kernel_rfl) (by kernel_rfl) (by kernel_rfl)) ?_
  intro W base args ds gs before hval hW _ _
  exact mixPages_any H enc W base args ds gs before hval hW
theorem mixPages_any_proved : Rows.MixPagesSaid :=
  OpenClaim.holds_of_wide 14 Try.f14 rfl rfl rfl rfl rfl rfl rfl ⟨rfl, rfl, rfl, rfl, rfl⟩ rfl rfl rfl rfl rfl (by kernel_rfl) Try.func14 (by kernel_rfl)
    (of_decide_eq_true (by kernel_rfl)) (by unfold Func.isWrapper; first | (rw [if_pos (by decide +kernel)]; kernel_rfl) | (rw [if_neg (by decide +kernel)]; exact ⟨rfl, rfl⟩))
    (fun os started H enc _ => mixPages_liftedAny os started H enc)
end Go.Proofs.Ytfnfmbikooeiaaa
