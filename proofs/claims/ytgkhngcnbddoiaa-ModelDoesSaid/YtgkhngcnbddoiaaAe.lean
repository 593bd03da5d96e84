/- Part of the proof. -/
import Derived.Test.YtgkhngcnbddoiaaAd
import Derived.Test.YtgkhngcnbddoiaaRows
import Derived.WalkKit
import Derived.ProofKit
set_option linter.unusedSimpArgs false
set_option linter.unusedVariables false
set_option maxHeartbeats 4000000
set_option maxRecDepth 100000
namespace Go.Proofs.Ytgkhngcnbddoiaa
open Go.Ax
def cntP (P : List (Bool × ByteArray)) : Nat → Nat
  | 0 => 0
  | j + 1 => if (P.getD j (false, default)).1 = true then cntP P j + 1 else cntP P j
theorem cntP_le (P : List (Bool × ByteArray)) : ∀ j, cntP P j ≤ j
  | 0 => Nat.le_refl _
  | j + 1 => by
    have := cntP_le P j
    simp only [cntP]
    split <;> omega
def xSlotRevoke (x : Rs) (n : Int) : Int × Rs :=
  if x.op = true then (if xpl x n = 0 then (if (x.P.getD n.toNat (false, default)).1 = true then (if cntP x.P x.P.length = 1 then (210, x) else (0, { x with P := x.P.set n.toNat (false, (⟨#[]⟩ : ByteArray)), R := up x.R })) else (4, x)) else (xpl x n, x)) else (6, x)
theorem xslotRevoke_spec (x : Rs) (n : Int) (hs : x.P.length ≤ 1048576) : ACall Try.prog 44 [.ptr 0 0 0, .v (.int .i64 n)] (rblk x) fun v h' => v = .v (.int .i64 (xSlotRevoke x n).1) ∧ h' = rblk (xSlotRevoke x n).2 := by
  have na : ∀ n : Nat, (0 : Int) ≤ n := fun n => Int.natCast_nonneg n
  cases h1 : x.op
  · unfold rblk rfL
    simp only [xSlotRevoke, h1, if_false, Bool.false_eq_true]; refine acall_run (good17 4) Try.func44 rfl ⟨by kernel_rfl, by show 2 ≤ _; decide, by kernel_rfl, by kernel_rfl⟩ rfl ?_; have hr : Try.f44.results.toList = [.tmp 4] := rfl; repeat (first | simp only [c17_P, c17_odd, c17_ro, Nat.reduceBEq, reduceIte, Nat.reduceEqDiff, reduceCtorEq, ne_eq, if_true, if_false, exA, exA, tabs, exB, exD, buildA, rowOr, rowSetAt, rowAgg, mkAgg, AV.isAggV, AV.parts, AV.one, AV.solid, headSize, indexAddrA, indexA, fieldAddrA, fieldA, sliceA, boundsA, bndA, lenA, arrayAtA, rowOf, makeSliceA, intsOf, copyA, Nat.reduceAdd, Nat.reduceSub, Nat.reduceMul, Nat.reduceLeDiff, Nat.reduceLT, Nat.reduceGT, Int.reduceToNat, Int.reduceLE, Int.reduceLT, Int.reduceEq, Int.reduceNe, Int.reduceAdd, Int.reduceSub, Int.reduceMul, Int.reduceNeg, ite_true, ite_false, dite_true, xc1, xc2, xc3, xc4, xc5, xc6, xc7, xc8, xc9, xc10, xc11, xc12, xc13, xc14, xc15, xc16, xc17, hr, h1] | simp (maxSteps := 1000000) (disch := omega) only [exE, Int.toNat_natCast, Int.reduceToNat])
  cases h3 : x.R.rek
  · by_cases h4 : 0 ≤ n
    · by_cases h5 : n < x.P.length
      · obtain ⟨i, rfl⟩ : ∃ i : Nat, n = i := ⟨n.toNat, by omega⟩
        have hi : i < x.P.length := by omega
        have e : xpl x (i : Int) = 0 := by simp only [xpl, h3, h4, h5, and_self, if_true, if_false, Bool.false_eq_true]
        have c0 := drop_pr (f := fun p : Bool × ByteArray => Value.bool p.1) (g := fun p => Value.string p.2) pd x.P i hi
        have s0 := put_pr (f := fun p : Bool × ByteArray => Value.bool p.1) (g := fun p => Value.string p.2) (false, (⟨#[]⟩ : ByteArray)) x.P i hi
        simp only [pd] at c0
        cases h6 : (x.P.getD i (false, default)).1
        · simp only [xSlotRevoke, h1, e, h6, if_true, if_false, Bool.false_eq_true, Int.toNat_natCast]
          rw [h6] at c0
          unfold rblk rfL
          refine acall_run (good17 4) Try.func44 rfl ⟨by kernel_rfl, by show 2 ≤ _; decide, by kernel_rfl, by kernel_rfl⟩ rfl ?_; have hr : Try.f44.results.toList = [.tmp 4] := rfl; repeat (first | simp only [c17_P, c17_odd, c17_ro, Nat.reduceBEq, reduceIte, Nat.reduceEqDiff, reduceCtorEq, ne_eq, if_true, if_false, exA, exA, tabs, exB, exD, buildA, rowOr, rowSetAt, rowAgg, mkAgg, AV.isAggV, AV.parts, AV.one, AV.solid, headSize, indexAddrA, indexA, fieldAddrA, fieldA, sliceA, boundsA, bndA, lenA, arrayAtA, rowOf, makeSliceA, intsOf, copyA, Nat.reduceAdd, Nat.reduceSub, Nat.reduceMul, Nat.reduceLeDiff, Nat.reduceLT, Nat.reduceGT, Int.reduceToNat, Int.reduceLE, Int.reduceLT, Int.reduceEq, Int.reduceNe, Int.reduceAdd, Int.reduceSub, Int.reduceMul, Int.reduceNeg, ite_true, ite_false, dite_true, xc1, xc2, xc3, xc4, xc5, xc6, xc7, xc8, xc9, xc10, xc11, xc12, xc13, xc14, xc15, xc16, xc17, hr, h1, h3, h5, na, rowS_pr, c0, s0, up] | simp (maxSteps := 1000000) (disch := omega) only [exE, Int.toNat_natCast, Int.reduceToNat])
        · rw [h6] at c0
          have main : ∀ m : Nat, m = cntP x.P x.P.length → ACall Try.prog 44 [.ptr 0 0 0, .v (.int .i64 i)] (rblk x) fun v h' => v = .v (.int .i64 (xSlotRevoke x i).1) ∧ h' = rblk (xSlotRevoke x i).2 := by
            intro m hm
            unfold rblk rfL
            refine acall_run (good17 4) Try.func44 rfl ⟨by kernel_rfl, by show 2 ≤ _; decide, by kernel_rfl, by kernel_rfl⟩ rfl ?_; have hr : Try.f44.results.toList = [.tmp 4] := rfl; repeat (first | simp only [c17_P, c17_odd, c17_ro, Nat.reduceBEq, reduceIte, Nat.reduceEqDiff, reduceCtorEq, ne_eq, if_true, if_false, exA, exA, tabs, exB, exD, buildA, rowOr, rowSetAt, rowAgg, mkAgg, AV.isAggV, AV.parts, AV.one, AV.solid, headSize, indexAddrA, indexA, fieldAddrA, fieldA, sliceA, boundsA, bndA, lenA, arrayAtA, rowOf, makeSliceA, intsOf, copyA, Nat.reduceAdd, Nat.reduceSub, Nat.reduceMul, Nat.reduceLeDiff, Nat.reduceLT, Nat.reduceGT, Int.reduceToNat, Int.reduceLE, Int.reduceLT, Int.reduceEq, Int.reduceNe, Int.reduceAdd, Int.reduceSub, Int.reduceMul, Int.reduceNeg, ite_true, ite_false, dite_true, xc1, xc2, xc3, xc4, xc5, xc6, xc7, xc8, xc9, xc10, xc11, xc12, xc13, xc14, xc15, xc16, xc17, hr, h1, h3, h5, na, rowS_pr, c0] | simp (maxSteps := 1000000) (disch := omega) only [exE, Int.toNat_natCast, Int.reduceToNat])
            refine loop_count (good17 4) (fun j => ⟨envL [(0, .ptr 0 0 0), (1, .v (.int .i64 i)), (5, .v (.int .i64 (cntP x.P j))), (6, .v (.int .i64 j))], rblk x⟩) x.P.length (by kernel_rfl) ?_ ?_ ?_
            · unfold rblk rfL; (refine weak_of ?_ ?_; (focus (first | with_reducible rfl | (simp only [Int.natCast_zero, cntP, h1, h3] <;> with_reducible rfl))); simp only [exF, Nat.reduceEqDiff, if_true, if_false, reduceIte, Option.some.injEq, reduceCtorEq, Int.cast_ofNat_Int, Int.natCast_zero, cntP, h1, h3])
            · intro j hj
              have c1 : (j : Int) < x.P.length := by omega
              have w1 : IntKind.i64.wrap ((j : Int) + 1) = ((j + 1 : Nat) : Int) := by rw [i64_id _ (by omega)]; omega
              have hle := cntP_le x.P j
              have w2 : IntKind.i64.wrap ((cntP x.P j : Int) + 1) = ((cntP x.P j + 1 : Nat) : Int) := by rw [i64_id _ (by omega)]; omega
              have cj := drop_pr (f := fun p : Bool × ByteArray => Value.bool p.1) (g := fun p => Value.string p.2) pd x.P j hj
              simp only [pd] at cj
              unfold rblk rfL
              cases h7 : (x.P.getD j (false, default)).1
              · rw [h7] at cj
                have e2 : cntP x.P (j + 1) = cntP x.P j := by simp only [cntP, h7, if_false, Bool.false_eq_true]
                repeat (first | simp only [c17_P, c17_odd, c17_ro, Nat.reduceBEq, reduceIte, Nat.reduceEqDiff, reduceCtorEq, ne_eq, if_true, if_false, exA, exA, tabs, exB, exD, buildA, rowOr, rowSetAt, rowAgg, mkAgg, AV.isAggV, AV.parts, AV.one, AV.solid, headSize, indexAddrA, indexA, fieldAddrA, fieldA, sliceA, boundsA, bndA, lenA, arrayAtA, rowOf, makeSliceA, intsOf, copyA, Nat.reduceAdd, Nat.reduceSub, Nat.reduceMul, Nat.reduceLeDiff, Nat.reduceLT, Nat.reduceGT, Int.reduceToNat, Int.reduceLE, Int.reduceLT, Int.reduceEq, Int.reduceNe, Int.reduceAdd, Int.reduceSub, Int.reduceMul, Int.reduceNeg, ite_true, ite_false, dite_true, xc1, xc2, xc3, xc4, xc5, xc6, xc7, xc8, xc9, xc10, xc11, xc12, xc13, xc14, xc15, xc16, xc17, hr, c1, w1, na, rowS_pr, cj] | simp (maxSteps := 1000000) (disch := omega) only [exE, Int.toNat_natCast, Int.reduceToNat])
                (refine weak_of ?_ ?_; (focus (first | with_reducible rfl | (simp only [e2] <;> with_reducible rfl))); simp only [exF, Nat.reduceEqDiff, if_true, if_false, reduceIte, Option.some.injEq, reduceCtorEq, Int.cast_ofNat_Int, e2])
              · rw [h7] at cj
                have e2 : cntP x.P (j + 1) = cntP x.P j + 1 := by simp only [cntP, h7, if_true]
                repeat (first | simp only [c17_P, c17_odd, c17_ro, Nat.reduceBEq, reduceIte, Nat.reduceEqDiff, reduceCtorEq, ne_eq, if_true, if_false, exA, exA, tabs, exB, exD, buildA, rowOr, rowSetAt, rowAgg, mkAgg, AV.isAggV, AV.parts, AV.one, AV.solid, headSize, indexAddrA, indexA, fieldAddrA, fieldA, sliceA, boundsA, bndA, lenA, arrayAtA, rowOf, makeSliceA, intsOf, copyA, Nat.reduceAdd, Nat.reduceSub, Nat.reduceMul, Nat.reduceLeDiff, Nat.reduceLT, Nat.reduceGT, Int.reduceToNat, Int.reduceLE, Int.reduceLT, Int.reduceEq, Int.reduceNe, Int.reduceAdd, Int.reduceSub, Int.reduceMul, Int.reduceNeg, ite_true, ite_false, dite_true, xc1, xc2, xc3, xc4, xc5, xc6, xc7, xc8, xc9, xc10, xc11, xc12, xc13, xc14, xc15, xc16, xc17, hr, c1, w1, w2, na, rowS_pr, cj] | simp (maxSteps := 1000000) (disch := omega) only [exE, Int.toNat_natCast, Int.reduceToNat])
                (refine weak_of ?_ ?_; (focus (first | with_reducible rfl | (simp only [e2] <;> with_reducible rfl))); simp only [exF, Nat.reduceEqDiff, if_true, if_false, reduceIte, Option.some.injEq, reduceCtorEq, Int.cast_ofNat_Int, e2])
            · unfold rblk rfL
              by_cases h8 : cntP x.P x.P.length = 1
              · simp only [xSlotRevoke, h1, e, h6, h8, if_true, Int.toNat_natCast]
                repeat (first | simp only [c17_P, c17_odd, c17_ro, Nat.reduceBEq, reduceIte, Nat.reduceEqDiff, reduceCtorEq, ne_eq, if_true, if_false, exA, exA, tabs, exB, exD, buildA, rowOr, rowSetAt, rowAgg, mkAgg, AV.isAggV, AV.parts, AV.one, AV.solid, headSize, indexAddrA, indexA, fieldAddrA, fieldA, sliceA, boundsA, bndA, lenA, arrayAtA, rowOf, makeSliceA, intsOf, copyA, Nat.reduceAdd, Nat.reduceSub, Nat.reduceMul, Nat.reduceLeDiff, Nat.reduceLT, Nat.reduceGT, Int.reduceToNat, Int.reduceLE, Int.reduceLT, Int.reduceEq, Int.reduceNe, Int.reduceAdd, Int.reduceSub, Int.reduceMul, Int.reduceNeg, ite_true, ite_false, dite_true, xc1, xc2, xc3, xc4, xc5, xc6, xc7, xc8, xc9, xc10, xc11, xc12, xc13, xc14, xc15, xc16, xc17, hr, h1, h3, h8] | simp (maxSteps := 1000000) (disch := omega) only [exE, Int.toNat_natCast, Int.reduceToNat])
              · have h9 : (((cntP x.P x.P.length : Nat) : Int) == 1) = false := by simp; omega
                simp only [xSlotRevoke, h1, e, h6, h8, if_true, if_false, Int.toNat_natCast]
                repeat (first | simp only [c17_P, c17_odd, c17_ro, Nat.reduceBEq, reduceIte, Nat.reduceEqDiff, reduceCtorEq, ne_eq, if_true, if_false, exA, exA, tabs, exB, exD, buildA, rowOr, rowSetAt, rowAgg, mkAgg, AV.isAggV, AV.parts, AV.one, AV.solid, headSize, indexAddrA, indexA, fieldAddrA, fieldA, sliceA, boundsA, bndA, lenA, arrayAtA, rowOf, makeSliceA, intsOf, copyA, Nat.reduceAdd, Nat.reduceSub, Nat.reduceMul, Nat.reduceLeDiff, Nat.reduceLT, Nat.reduceGT, Int.reduceToNat, Int.reduceLE, Int.reduceLT, Int.reduceEq, Int.reduceNe, Int.reduceAdd, Int.reduceSub, Int.reduceMul, Int.reduceNeg, ite_true, ite_false, dite_true, xc1, xc2, xc3, xc4, xc5, xc6, xc7, xc8, xc9, xc10, xc11, xc12, xc13, xc14, xc15, xc16, xc17, hr, h1, h3, h5, h9, na, rowS_pr, s0, up] | simp (maxSteps := 1000000) (disch := omega) only [exE, Int.toNat_natCast, Int.reduceToNat])
          exact main _ rfl
      · have e : xpl x n = 100 := by simp only [xpl, h3, h4, h5, and_false, if_false, Bool.false_eq_true]
        unfold rblk rfL
        simp only [xSlotRevoke, h1, e, if_true, if_false, Bool.false_eq_true, Int.reduceEq]
        refine acall_run (good17 4) Try.func44 rfl ⟨by kernel_rfl, by show 2 ≤ _; decide, by kernel_rfl, by kernel_rfl⟩ rfl ?_; have hr : Try.f44.results.toList = [.tmp 4] := rfl; repeat (first | simp only [c17_P, c17_odd, c17_ro, Nat.reduceBEq, reduceIte, Nat.reduceEqDiff, reduceCtorEq, ne_eq, if_true, if_false, exA, exA, tabs, exB, exD, buildA, rowOr, rowSetAt, rowAgg, mkAgg, AV.isAggV, AV.parts, AV.one, AV.solid, headSize, indexAddrA, indexA, fieldAddrA, fieldA, sliceA, boundsA, bndA, lenA, arrayAtA, rowOf, makeSliceA, intsOf, copyA, Nat.reduceAdd, Nat.reduceSub, Nat.reduceMul, Nat.reduceLeDiff, Nat.reduceLT, Nat.reduceGT, Int.reduceToNat, Int.reduceLE, Int.reduceLT, Int.reduceEq, Int.reduceNe, Int.reduceAdd, Int.reduceSub, Int.reduceMul, Int.reduceNeg, ite_true, ite_false, dite_true, xc1, xc2, xc3, xc4, xc5, xc6, xc7, xc8, xc9, xc10, xc11, xc12, xc13, xc14, xc15, xc16, xc17, hr, h1, h3, h5] | simp (maxSteps := 1000000) (disch := omega) only [exE, Int.toNat_natCast, Int.reduceToNat])
    · have e : xpl x n = 100 := by simp only [xpl, h3, h4, false_and, if_false, Bool.false_eq_true]
      unfold rblk rfL
      simp only [xSlotRevoke, h1, e, if_true, if_false, Bool.false_eq_true, Int.reduceEq]
      refine acall_run (good17 4) Try.func44 rfl ⟨by kernel_rfl, by show 2 ≤ _; decide, by kernel_rfl, by kernel_rfl⟩ rfl ?_; have hr : Try.f44.results.toList = [.tmp 4] := rfl; repeat (first | simp only [c17_P, c17_odd, c17_ro, Nat.reduceBEq, reduceIte, Nat.reduceEqDiff, reduceCtorEq, ne_eq, if_true, if_false, exA, exA, tabs, exB, exD, buildA, rowOr, rowSetAt, rowAgg, mkAgg, AV.isAggV, AV.parts, AV.one, AV.solid, headSize, indexAddrA, indexA, fieldAddrA, fieldA, sliceA, boundsA, bndA, lenA, arrayAtA, rowOf, makeSliceA, intsOf, copyA, Nat.reduceAdd, Nat.reduceSub, Nat.reduceMul, Nat.reduceLeDiff, Nat.reduceLT, Nat.reduceGT, Int.reduceToNat, Int.reduceLE, Int.reduceLT, Int.reduceEq, Int.reduceNe, Int.reduceAdd, Int.reduceSub, Int.reduceMul, Int.reduceNeg, ite_true, ite_false, dite_true, xc1, xc2, xc3, xc4, xc5, xc6, xc7, xc8, xc9, xc10, xc11, xc12, xc13, xc14, xc15, xc16, xc17, hr, h1, h3] | simp (maxSteps := 1000000) (disch := omega) only [exE, Int.toNat_natCast, Int.reduceToNat])
  · have e : xpl x n = 230 := by simp only [xpl, h3, if_true]
    unfold rblk rfL
    simp only [xSlotRevoke, h1, e, if_true, if_false, Bool.false_eq_true, Int.reduceEq]
    refine acall_run (good17 4) Try.func44 rfl ⟨by kernel_rfl, by show 2 ≤ _; decide, by kernel_rfl, by kernel_rfl⟩ rfl ?_; have hr : Try.f44.results.toList = [.tmp 4] := rfl; repeat (first | simp only [c17_P, c17_odd, c17_ro, Nat.reduceBEq, reduceIte, Nat.reduceEqDiff, reduceCtorEq, ne_eq, if_true, if_false, exA, exA, tabs, exB, exD, buildA, rowOr, rowSetAt, rowAgg, mkAgg, AV.isAggV, AV.parts, AV.one, AV.solid, headSize, indexAddrA, indexA, fieldAddrA, fieldA, sliceA, boundsA, bndA, lenA, arrayAtA, rowOf, makeSliceA, intsOf, copyA, Nat.reduceAdd, Nat.reduceSub, Nat.reduceMul, Nat.reduceLeDiff, Nat.reduceLT, Nat.reduceGT, Int.reduceToNat, Int.reduceLE, Int.reduceLT, Int.reduceEq, Int.reduceNe, Int.reduceAdd, Int.reduceSub, Int.reduceMul, Int.reduceNeg, ite_true, ite_false, dite_true, xc1, xc2, xc3, xc4, xc5, xc6, xc7, xc8, xc9, xc10, xc11, xc12, xc13, xc14, xc15, xc16, xc17, hr, h1, h3] | simp (maxSteps := 1000000) (disch := omega) only [exE, Int.toNat_natCast, Int.reduceToNat])
end Go.Proofs.Ytgkhngcnbddoiaa

namespace Go.Proofs.Ytgkhngcnbddoiaa
open Go.Ax
def fitX (P : List (Bool × ByteArray)) (b : List Int) (i : Nat) : Bool := (P.getD i (false, default)).1 && ((P.getD i (false, default)).2.toList == (bytesOf b).toList)
def xopenAt (x : Rs) (b : List Int) : Nat := firstAt (fitX x.P b) x.P.length
def xOpen (x : Rs) (b : List Int) : Int × Rs :=
  if 512 < b.length then (1, x) else if xopenAt x b < x.P.length then (0, { x with op := true, sl := xopenAt x b }) else (200, x)
theorem xopen_spec (x : Rs) (b : List Int) (hs : x.P.length ≤ 1048576) : ACall Try.prog 48 [.ptr 0 0 0, .roI .u8 b] (rblk x) fun v h' => v = .v (.int .i64 (xOpen x b).1) ∧ h' = rblk (xOpen x b).2 := by
  unfold rblk rfL
  by_cases h1 : 512 < b.length
  · simp only [xOpen, h1, if_true]; refine acall_run (good17 4) Try.func48 rfl ⟨by kernel_rfl, by show 2 ≤ _; decide, by kernel_rfl, by kernel_rfl⟩ rfl ?_; have hr : Try.f48.results.toList = [.tmp 4] := rfl; repeat (first | simp only [c17_P, c17_odd, c17_ro, Nat.reduceBEq, reduceIte, Nat.reduceEqDiff, reduceCtorEq, ne_eq, if_true, if_false, exA, exA, tabs, exB, exD, buildA, rowOr, rowSetAt, rowAgg, mkAgg, AV.isAggV, AV.parts, AV.one, AV.solid, headSize, indexAddrA, indexA, fieldAddrA, fieldA, sliceA, boundsA, bndA, lenA, arrayAtA, rowOf, makeSliceA, intsOf, copyA, Nat.reduceAdd, Nat.reduceSub, Nat.reduceMul, Nat.reduceLeDiff, Nat.reduceLT, Nat.reduceGT, Int.reduceToNat, Int.reduceLE, Int.reduceLT, Int.reduceEq, Int.reduceNe, Int.reduceAdd, Int.reduceSub, Int.reduceMul, Int.reduceNeg, ite_true, ite_false, dite_true, xc1, xc2, xc3, xc4, xc5, xc6, xc7, xc8, xc9, xc10, xc11, xc12, xc13, xc14, xc15, xc16, xc17, hr] | simp (maxSteps := 1000000) (disch := omega) only [exE, Int.toNat_natCast, Int.reduceToNat])
  have hle : xopenAt x b ≤ x.P.length := firstAt_le _ _
  have na : ∀ n : Nat, (0 : Int) ≤ n := fun n => Int.natCast_nonneg n
  simp only [xOpen, h1, if_false]
  refine acall_run (good17 4) Try.func48 rfl ⟨by kernel_rfl, by show 2 ≤ _; decide, by kernel_rfl, by kernel_rfl⟩ rfl ?_; have hr : Try.f48.results.toList = [.tmp 4] := rfl
  repeat (first | simp only [c17_P, c17_odd, c17_ro, Nat.reduceBEq, reduceIte, Nat.reduceEqDiff, reduceCtorEq, ne_eq, if_true, if_false, exA, exA, tabs, exB, exD, buildA, rowOr, rowSetAt, rowAgg, mkAgg, AV.isAggV, AV.parts, AV.one, AV.solid, headSize, indexAddrA, indexA, fieldAddrA, fieldA, sliceA, boundsA, bndA, lenA, arrayAtA, rowOf, makeSliceA, intsOf, copyA, Nat.reduceAdd, Nat.reduceSub, Nat.reduceMul, Nat.reduceLeDiff, Nat.reduceLT, Nat.reduceGT, Int.reduceToNat, Int.reduceLE, Int.reduceLT, Int.reduceEq, Int.reduceNe, Int.reduceAdd, Int.reduceSub, Int.reduceMul, Int.reduceNeg, ite_true, ite_false, dite_true, xc1, xc2, xc3, xc4, xc5, xc6, xc7, xc8, xc9, xc10, xc11, xc12, xc13, xc14, xc15, xc16, xc17, hr] | simp (maxSteps := 1000000) (disch := omega) only [exE, Int.toNat_natCast, Int.reduceToNat])
  refine loop_count (good17 4) (fun i => ⟨envL [(0, .ptr 0 0 0), (1, .roI .u8 b), (5, .v (.int .i64 i))], rblk x⟩) (xopenAt x b) (by kernel_rfl) ?_ ?_ ?_
  · unfold rblk rfL; (refine weak_of ?_ ?_; (focus (first | with_reducible rfl | (simp only [Int.natCast_zero] <;> with_reducible rfl))); simp only [exF, Nat.reduceEqDiff, if_true, if_false, reduceIte, Option.some.injEq, reduceCtorEq, Int.cast_ofNat_Int, Int.natCast_zero])
  · intro i hi
    have hno : fitX x.P b i = false := firstAt_no _ _ i hi
    have hi2 : i < x.P.length := by omega
    have c1 : (i : Int) < x.P.length := by omega
    have w1 : IntKind.i64.wrap ((i : Int) + 1) = ((i + 1 : Nat) : Int) := by rw [i64_id _ (by omega)]; omega
    have c0 := drop_pr (f := fun p : Bool × ByteArray => Value.bool p.1) (g := fun p => Value.string p.2) pd x.P i hi2
    have c2 := drop_pr1 (f := fun p : Bool × ByteArray => Value.bool p.1) (g := fun p => Value.string p.2) pd x.P i hi2
    simp only [pd] at c0 c2
    unfold fitX at hno
    unfold rblk rfL
    cases h4 : (x.P.getD i (false, default)).1
    · rw [h4] at c0
      repeat (first | simp only [c17_P, c17_odd, c17_ro, Nat.reduceBEq, reduceIte, Nat.reduceEqDiff, reduceCtorEq, ne_eq, if_true, if_false, exA, exA, tabs, exB, exD, buildA, rowOr, rowSetAt, rowAgg, mkAgg, AV.isAggV, AV.parts, AV.one, AV.solid, headSize, indexAddrA, indexA, fieldAddrA, fieldA, sliceA, boundsA, bndA, lenA, arrayAtA, rowOf, makeSliceA, intsOf, copyA, Nat.reduceAdd, Nat.reduceSub, Nat.reduceMul, Nat.reduceLeDiff, Nat.reduceLT, Nat.reduceGT, Int.reduceToNat, Int.reduceLE, Int.reduceLT, Int.reduceEq, Int.reduceNe, Int.reduceAdd, Int.reduceSub, Int.reduceMul, Int.reduceNeg, ite_true, ite_false, dite_true, xc1, xc2, xc3, xc4, xc5, xc6, xc7, xc8, xc9, xc10, xc11, xc12, xc13, xc14, xc15, xc16, xc17, hr, c1, w1, na, rowS_pr, c0] | simp (maxSteps := 1000000) (disch := omega) only [exE, Int.toNat_natCast, Int.reduceToNat])
      (refine weak_of ?_ ?_; (focus (first | with_reducible rfl | (simp only [] <;> with_reducible rfl))); simp only [exF, Nat.reduceEqDiff, if_true, if_false, reduceIte, Option.some.injEq, reduceCtorEq, Int.cast_ofNat_Int])
    · rw [h4] at c0
      simp only [h4, Bool.true_and] at hno
      repeat (first | simp only [c17_P, c17_odd, c17_ro, Nat.reduceBEq, reduceIte, Nat.reduceEqDiff, reduceCtorEq, ne_eq, if_true, if_false, exA, exA, tabs, exB, exD, buildA, rowOr, rowSetAt, rowAgg, mkAgg, AV.isAggV, AV.parts, AV.one, AV.solid, headSize, indexAddrA, indexA, fieldAddrA, fieldA, sliceA, boundsA, bndA, lenA, arrayAtA, rowOf, makeSliceA, intsOf, copyA, Nat.reduceAdd, Nat.reduceSub, Nat.reduceMul, Nat.reduceLeDiff, Nat.reduceLT, Nat.reduceGT, Int.reduceToNat, Int.reduceLE, Int.reduceLT, Int.reduceEq, Int.reduceNe, Int.reduceAdd, Int.reduceSub, Int.reduceMul, Int.reduceNeg, ite_true, ite_false, dite_true, xc1, xc2, xc3, xc4, xc5, xc6, xc7, xc8, xc9, xc10, xc11, xc12, xc13, xc14, xc15, xc16, xc17, hr, c1, w1, na, rowS_pr, c0, c2, hno] | simp (maxSteps := 1000000) (disch := omega) only [exE, Int.toNat_natCast, Int.reduceToNat])
      (refine weak_of ?_ ?_; (focus (first | with_reducible rfl | (simp only [] <;> with_reducible rfl))); simp only [exF, Nat.reduceEqDiff, if_true, if_false, reduceIte, Option.some.injEq, reduceCtorEq, Int.cast_ofNat_Int])
  · by_cases h5 : xopenAt x b < x.P.length
    · have hyes : fitX x.P b (xopenAt x b) = true := firstAt_yes _ _ h5
      have c1 : ((xopenAt x b : Nat) : Int) < x.P.length := by omega
      have c0 := drop_pr (f := fun p : Bool × ByteArray => Value.bool p.1) (g := fun p => Value.string p.2) pd x.P _ h5
      have c2 := drop_pr1 (f := fun p : Bool × ByteArray => Value.bool p.1) (g := fun p => Value.string p.2) pd x.P _ h5
      simp only [pd] at c0 c2
      unfold fitX at hyes
      simp only [Bool.and_eq_true] at hyes
      obtain ⟨hy1, hy2⟩ := hyes
      rw [hy1] at c0
      simp only [h5, if_true]
      unfold rblk rfL
      repeat (first | simp only [c17_P, c17_odd, c17_ro, Nat.reduceBEq, reduceIte, Nat.reduceEqDiff, reduceCtorEq, ne_eq, if_true, if_false, exA, exA, tabs, exB, exD, buildA, rowOr, rowSetAt, rowAgg, mkAgg, AV.isAggV, AV.parts, AV.one, AV.solid, headSize, indexAddrA, indexA, fieldAddrA, fieldA, sliceA, boundsA, bndA, lenA, arrayAtA, rowOf, makeSliceA, intsOf, copyA, Nat.reduceAdd, Nat.reduceSub, Nat.reduceMul, Nat.reduceLeDiff, Nat.reduceLT, Nat.reduceGT, Int.reduceToNat, Int.reduceLE, Int.reduceLT, Int.reduceEq, Int.reduceNe, Int.reduceAdd, Int.reduceSub, Int.reduceMul, Int.reduceNeg, ite_true, ite_false, dite_true, xc1, xc2, xc3, xc4, xc5, xc6, xc7, xc8, xc9, xc10, xc11, xc12, xc13, xc14, xc15, xc16, xc17, hr, c1, na, rowS_pr, c0, c2, hy2] | simp (maxSteps := 1000000) (disch := omega) only [exE, Int.toNat_natCast, Int.reduceToNat])
    · have c1 : ¬ ((xopenAt x b : Nat) : Int) < x.P.length := by omega
      simp only [h5, if_false]
      unfold rblk rfL
      repeat (first | simp only [c17_P, c17_odd, c17_ro, Nat.reduceBEq, reduceIte, Nat.reduceEqDiff, reduceCtorEq, ne_eq, if_true, if_false, exA, exA, tabs, exB, exD, buildA, rowOr, rowSetAt, rowAgg, mkAgg, AV.isAggV, AV.parts, AV.one, AV.solid, headSize, indexAddrA, indexA, fieldAddrA, fieldA, sliceA, boundsA, bndA, lenA, arrayAtA, rowOf, makeSliceA, intsOf, copyA, Nat.reduceAdd, Nat.reduceSub, Nat.reduceMul, Nat.reduceLeDiff, Nat.reduceLT, Nat.reduceGT, Int.reduceToNat, Int.reduceLE, Int.reduceLT, Int.reduceEq, Int.reduceNe, Int.reduceAdd, Int.reduceSub, Int.reduceMul, Int.reduceNeg, ite_true, ite_false, dite_true, xc1, xc2, xc3, xc4, xc5, xc6, xc7, xc8, xc9, xc10, xc11, xc12, xc13, xc14, xc15, xc16, xc17, hr, c1] | simp (maxSteps := 1000000) (disch := omega) only [exE, Int.toNat_natCast, Int.reduceToNat])
end Go.Proofs.Ytgkhngcnbddoiaa

namespace Go.Proofs.Ytgkhngcnbddoiaa
open Go.Ax
def takX (P : List (Bool × ByteArray)) (j : Nat) : List Bool := (List.range j).map fun (i : Nat) => (P.getD i (false, default)).1
theorem takX_succ (P : List (Bool × ByteArray)) (j : Nat) : takX P (j + 1) = takX P j ++ [(P.getD j (false, default)).1] := by simp [takX, List.range_succ]
theorem takX_len (P : List (Bool × ByteArray)) (j : Nat) : (takX P j).length = j := by simp [takX]
def zeroI : List AV := [.v (.int .u64 0), .v (.int .i64 0), .v (.int .i64 0), .v (.int .i64 0), .v (.int .i64 0), .v (.int .i64 0), .v (.int .i64 0), .v (.int .i64 0), .arr 16 .u8 (List.replicate 16 0), .v (.int .i64 0), .v (.slice none 0 0), .v (.int .i64 0), .v (.int .i64 0), .v (.int .u64 0)]
def xI (x : Rs) (s : AV) : List AV := [.v (.int .u64 x.H.gen), .v (.int .i64 x.H.sec), .v (.int .i64 x.H.slo), .v (.int .i64 x.H.jou), .v (.int .i64 x.H.seg), .v (.int .i64 x.H.tim), .v (.int .i64 x.H.mem), .v (.int .i64 x.H.lan), .arr 16 .u8 x.H.nam, .v (.int .i64 x.sl), s, .v (.int .i64 x.ep), .v (.int .i64 (left x.H x.R)), .v (.int .u64 x.R.ctr)]
def xinfS (x : Rs) : Nat → Nat → St
  | 0, _ => ⟨envL [(0, .ptr 0 0 0), (2, .ptr 4 0 0), (4, .ptr 5 0 0), (5, .v (.int .i64 0))], rblk x ++ [some zeroI, some (xI x (.v (.slice none 0 0)))]⟩
  | j + 1, c => ⟨envL [(0, .ptr 0 0 0), (2, .ptr 4 0 0), (4, .ptr 5 0 0), (5, .v (.int .i64 ((j + 1 : Nat) : Int)))], rblk x ++ [some zeroI, some (xI x (.sl 6 0 1 0 (j + 1) c)), some (blV (takX x.P (j + 1)))]⟩
theorem xinfo_closed (x : Rs) (h : x.op = false) : ACall Try.prog 49 [.ptr 0 0 0] (rblk x) fun v h' => v = .tup [.agg zeroI, .v (.int .i64 6)] ∧ ∃ ext, h' = rblk x ++ ext := by
  have hz : (List.replicate 16 (0 : Int)).take 16 = List.replicate 16 0 := rfl
  unfold rblk rfL
  refine acall_run (good17 4) Try.func49 rfl ⟨by kernel_rfl, by show 1 ≤ _; decide, by kernel_rfl, by kernel_rfl⟩ rfl ?_; have hr : Try.f49.results.toList = [.cell 2 49, .tmp 3] := rfl; repeat (first | simp only [c17_P, c17_odd, c17_ro, Nat.reduceBEq, reduceIte, Nat.reduceEqDiff, reduceCtorEq, ne_eq, if_true, if_false, exA, exA, tabs, exB, exD, buildA, rowOr, rowSetAt, rowAgg, mkAgg, AV.isAggV, AV.parts, AV.one, AV.solid, headSize, indexAddrA, indexA, fieldAddrA, fieldA, sliceA, boundsA, bndA, lenA, arrayAtA, rowOf, makeSliceA, intsOf, copyA, Nat.reduceAdd, Nat.reduceSub, Nat.reduceMul, Nat.reduceLeDiff, Nat.reduceLT, Nat.reduceGT, Int.reduceToNat, Int.reduceLE, Int.reduceLT, Int.reduceEq, Int.reduceNe, Int.reduceAdd, Int.reduceSub, Int.reduceMul, Int.reduceNeg, ite_true, ite_false, dite_true, xc1, xc2, xc3, xc4, xc5, xc6, xc7, xc8, xc9, xc10, xc11, xc12, xc13, xc14, xc15, xc16, xc17, hr, h, hz] | simp (maxSteps := 1000000) (disch := omega) only [exE, Int.toNat_natCast, Int.reduceToNat])
  exact ⟨rfl, _, rfl⟩
theorem xinfo_open (x : Rs) (h : x.op = true) (hm : mayB x.H x.R = true) (hg : 0 ≤ x.H.gen) (hn : x.H.nam.length = 16) (ht : x.R.tre.length = 32) (hs : x.P.length ≤ 1048576) (hs0 : 0 < x.P.length) : ACall Try.prog 49 [.ptr 0 0 0] (rblk x) fun v h' => ∃ c y z, v = .tup [.agg (xI x (.sl 6 0 1 0 x.P.length c)), .v (.int .i64 0)] ∧
    h' = rblk x ++ [y, z, some (blV (takX x.P x.P.length))] := by
  have hz : (List.replicate 16 (0 : Int)).take 16 = List.replicate 16 0 := rfl
  have ht2 : x.R.tre.take 32 = x.R.tre := List.take_of_length_le (by omega)
  have hn2 : x.H.nam.take 16 = x.H.nam := List.take_of_length_le (by omega)
  have hst : stA x.H x.R = .tup [.v (.int .i64 (left x.H x.R)), .v (.int .i64 0)] := by rw [stA, if_pos hm]
  have na : ∀ n : Nat, (0 : Int) ≤ n := fun n => Int.natCast_nonneg n
  unfold rblk rfL
  refine acall_run (good17 4) Try.func49 rfl ⟨by kernel_rfl, by show 1 ≤ _; decide, by kernel_rfl, by kernel_rfl⟩ rfl ?_; have hr : Try.f49.results.toList = [.cell 2 49, .tmp 3] := rfl; repeat (first | simp only [c17_P, c17_odd, c17_ro, Nat.reduceBEq, reduceIte, Nat.reduceEqDiff, reduceCtorEq, ne_eq, if_true, if_false, exA, exA, tabs, exB, exD, buildA, rowOr, rowSetAt, rowAgg, mkAgg, AV.isAggV, AV.parts, AV.one, AV.solid, headSize, indexAddrA, indexA, fieldAddrA, fieldA, sliceA, boundsA, bndA, lenA, arrayAtA, rowOf, makeSliceA, intsOf, copyA, Nat.reduceAdd, Nat.reduceSub, Nat.reduceMul, Nat.reduceLeDiff, Nat.reduceLT, Nat.reduceGT, Int.reduceToNat, Int.reduceLE, Int.reduceLT, Int.reduceEq, Int.reduceNe, Int.reduceAdd, Int.reduceSub, Int.reduceMul, Int.reduceNeg, ite_true, ite_false, dite_true, xc1, xc2, xc3, xc4, xc5, xc6, xc7, xc8, xc9, xc10, xc11, xc12, xc13, xc14, xc15, xc16, xc17, hr, h, hz, hn2, ht2, hg, hn, ht, Hd_eta, Rt_eta, hst] | simp (maxSteps := 1000000) (disch := omega) only [exE, Int.toNat_natCast, Int.reduceToNat])
  refine loop_countE (good17 4) (xinfS x) x.P.length (by kernel_rfl) ⟨0, ?_⟩ ?_ ?_
  · unfold xinfS rblk rfL xI zeroI; rw [h]; (refine weak_of ?_ ?_; (focus (first | with_reducible rfl | (simp only [List.cons_append, List.nil_append] <;> with_reducible rfl))); simp only [exF, Nat.reduceEqDiff, if_true, if_false, reduceIte, Option.some.injEq, reduceCtorEq, Int.cast_ofNat_Int, List.cons_append, List.nil_append])
  · intro i c hi
    have c1 : (i : Int) < x.P.length := by omega
    have w1 : IntKind.i64.wrap ((i : Int) + 1) = ((i + 1 : Nat) : Int) := by rw [i64_id _ (by omega)]; omega
    have c0 := drop_pr (f := fun p : Bool × ByteArray => Value.bool p.1) (g := fun p => Value.string p.2) pd x.P i hi
    simp only [pd] at c0
    cases i with
    | zero =>
      have e0 : takX x.P 1 = [(x.P.getD 0 (false, default)).1] := rfl
      have w0 : IntKind.i64.wrap 1 = 1 := rfl
      have c2 : (0 : Int) < x.P.length := by omega
      simp only [Nat.zero_mul] at c0
      unfold xinfS rblk rfL xI zeroI
      repeat (first | simp only [c17_P, c17_odd, c17_ro, Nat.reduceBEq, reduceIte, Nat.reduceEqDiff, reduceCtorEq, ne_eq, if_true, if_false, exA, exA, tabs, exB, exD, buildA, rowOr, rowSetAt, rowAgg, mkAgg, AV.isAggV, AV.parts, AV.one, AV.solid, headSize, indexAddrA, indexA, fieldAddrA, fieldA, sliceA, boundsA, bndA, lenA, arrayAtA, rowOf, makeSliceA, intsOf, copyA, Nat.reduceAdd, Nat.reduceSub, Nat.reduceMul, Nat.reduceLeDiff, Nat.reduceLT, Nat.reduceGT, Int.reduceToNat, Int.reduceLE, Int.reduceLT, Int.reduceEq, Int.reduceNe, Int.reduceAdd, Int.reduceSub, Int.reduceMul, Int.reduceNeg, ite_true, ite_false, dite_true, xc1, xc2, xc3, xc4, xc5, xc6, xc7, xc8, xc9, xc10, xc11, xc12, xc13, xc14, xc15, xc16, xc17, hr, h, c2, w0, rowS_pr, c0, hn2] | simp (maxSteps := 1000000) (disch := omega) only [exE, Int.toNat_natCast, Int.reduceToNat])
      intro c' _
      refine ⟨c', ?_⟩
      (refine weak_gc' [0, 1, 2, 3, 4, 5, 7] (by decide) (by simp) (by rfl) ?_ ?_; (focus (first | with_reducible rfl | (simp only [List.map_cons, List.map_nil, List.cons_append, List.nil_append, List.getElem?_cons_zero, List.getElem?_cons_succ, renB, renL, Option.map_some, Option.map_none, AV.ren, gcMap, List.getD_cons_zero, List.getD_cons_succ, e0, blV, renL, renL_vs, renL_pr, List.cons_append, List.nil_append] <;> with_reducible rfl))); simp only [exF, List.map_cons, List.map_nil, List.length_cons, List.length_nil, Nat.reduceAdd, AV.ren, renL, gcMap, Nat.reduceEqDiff, if_true, if_false, reduceIte, Option.some.injEq, reduceCtorEq, Int.cast_ofNat_Int, e0, blV, renL, renL_vs, renL_pr, List.cons_append, List.nil_append])
    | succ j =>
      unfold xinfS rblk rfL xI zeroI
      have e1 := takX_succ x.P (j + 1)
      have hl := takX_len x.P (j + 1)
      have ho := blV_ones (takX x.P (j + 1))
      simp only [AV.one] at ho
      have htk := blV_take _ hl
      repeat (first | simp only [c17_P, c17_odd, c17_ro, Nat.reduceBEq, reduceIte, Nat.reduceEqDiff, reduceCtorEq, ne_eq, if_true, if_false, exA, exA, tabs, exB, exD, buildA, rowOr, rowSetAt, rowAgg, mkAgg, AV.isAggV, AV.parts, AV.one, AV.solid, headSize, indexAddrA, indexA, fieldAddrA, fieldA, sliceA, boundsA, bndA, lenA, arrayAtA, rowOf, makeSliceA, intsOf, copyA, Nat.reduceAdd, Nat.reduceSub, Nat.reduceMul, Nat.reduceLeDiff, Nat.reduceLT, Nat.reduceGT, Int.reduceToNat, Int.reduceLE, Int.reduceLT, Int.reduceEq, Int.reduceNe, Int.reduceAdd, Int.reduceSub, Int.reduceMul, Int.reduceNeg, ite_true, ite_false, dite_true, xc1, xc2, xc3, xc4, xc5, xc6, xc7, xc8, xc9, xc10, xc11, xc12, xc13, xc14, xc15, xc16, xc17, hr, na, h, c1, w1, rowS_pr, c0, hn2, rowS_bl, blV_len, hl, blV_snoc, ho, htk] | simp (maxSteps := 1000000) (disch := omega) only [exE, Int.toNat_natCast, Int.reduceToNat])
      refine ⟨⟨by omega, by omega⟩, fun c' _ => ⟨c', ?_⟩⟩
      (refine weak_gc' [0, 1, 2, 3, 4, 5, 8] (by decide) (by simp) (by rfl) ?_ ?_; (focus (first | with_reducible rfl | (simp only [List.map_cons, List.map_nil, List.cons_append, List.nil_append, List.getElem?_cons_zero, List.getElem?_cons_succ, renB, renL, Option.map_some, Option.map_none, AV.ren, gcMap, List.getD_cons_zero, List.getD_cons_succ, e1, renL_bl, renL, renL_vs, renL_pr, List.cons_append, List.nil_append] <;> with_reducible rfl))); simp only [exF, List.map_cons, List.map_nil, List.length_cons, List.length_nil, Nat.reduceAdd, AV.ren, renL, gcMap, Nat.reduceEqDiff, if_true, if_false, reduceIte, Option.some.injEq, reduceCtorEq, Int.cast_ofNat_Int, e1, renL_bl, renL, renL_vs, renL_pr, List.cons_append, List.nil_append])
  · intro c
    obtain ⟨j, hj⟩ : ∃ j, x.P.length = j + 1 := ⟨x.P.length - 1, by omega⟩
    have c1 : ¬ (((j + 1 : Nat)) : Int) < x.P.length := by omega
    rw [hj]
    unfold xinfS rblk rfL xI zeroI
    repeat (first | simp only [c17_P, c17_odd, c17_ro, Nat.reduceBEq, reduceIte, Nat.reduceEqDiff, reduceCtorEq, ne_eq, if_true, if_false, exA, exA, tabs, exB, exD, buildA, rowOr, rowSetAt, rowAgg, mkAgg, AV.isAggV, AV.parts, AV.one, AV.solid, headSize, indexAddrA, indexA, fieldAddrA, fieldA, sliceA, boundsA, bndA, lenA, arrayAtA, rowOf, makeSliceA, intsOf, copyA, Nat.reduceAdd, Nat.reduceSub, Nat.reduceMul, Nat.reduceLeDiff, Nat.reduceLT, Nat.reduceGT, Int.reduceToNat, Int.reduceLE, Int.reduceLT, Int.reduceEq, Int.reduceNe, Int.reduceAdd, Int.reduceSub, Int.reduceMul, Int.reduceNeg, ite_true, ite_false, dite_true, xc1, xc2, xc3, xc4, xc5, xc6, xc7, xc8, xc9, xc10, xc11, xc12, xc13, xc14, xc15, xc16, xc17, hr, h, hn2, c1] | simp (maxSteps := 1000000) (disch := omega) only [exE, Int.toNat_natCast, Int.reduceToNat])
    simp only [hj]
    exact ⟨c, _, _, rfl, rfl⟩
end Go.Proofs.Ytgkhngcnbddoiaa

namespace Go.Proofs.Ytgkhngcnbddoiaa
open Go.Ax
def z512 : ByteArray := bytesOf (List.replicate 512 0)
def xNew (H : Hd) (b : List Int) (c : Nat) : Rs := ⟨H, List.replicate H.sec.toNat z512, List.replicate H.sec.toNat false, (List.replicate H.slo.toNat (false, (⟨#[]⟩ : ByteArray))).set 0 (true, bytesOf b), 1, ⟨0, false, 0, List.replicate 32 0⟩, false, 0, c⟩
def xnL (H : Hd) (s : AV) : List AV := [.v (.int .u64 H.gen), .v (.int .i64 H.sec), .v (.int .i64 H.slo), .v (.int .i64 H.jou), .v (.int .i64 H.seg), .v (.int .i64 H.tim), .v (.int .i64 H.mem), .v (.int .i64 H.lan), .arr 16 .u8 H.nam, s, .sl 2 0 1 0 H.sec.toNat H.sec.toNat, .sl 1 0 2 0 H.slo.toNat H.slo.toNat, .v (.int .i64 1), .v (.int .u64 0), .v (.bool false), .v (.int .i64 0), .arr 32 .u8 (List.replicate 32 0), .v (.bool false), .v (.int .i64 0)]
def xnS (H : Hd) (b : List Int) : Nat → Nat → St
  | 0, _ => ⟨envL [(1, .roI .u8 b), (2, .ptr 0 0 0), (6, .ptr 3 0 0), (7, .v (.int .i64 0))], [some (hdL H), some (prL (fun p : Bool × ByteArray => .bool p.1) (fun p => .string p.2) (List.replicate H.slo.toNat (false, (⟨#[]⟩ : ByteArray)))), some (vsL Value.bool (List.replicate H.sec.toNat false)), some (xnL H (.v (.slice none 0 0)))]⟩
  | j + 1, c => ⟨envL [(1, .roI .u8 b), (2, .ptr 0 0 0), (6, .ptr 3 0 0), (7, .v (.int .i64 ((j + 1 : Nat) : Int)))], [some (hdL H), some (prL (fun p : Bool × ByteArray => .bool p.1) (fun p => .string p.2) (List.replicate H.slo.toNat (false, (⟨#[]⟩ : ByteArray)))), some (vsL Value.bool (List.replicate H.sec.toNat false)), some (xnL H (.sl 4 0 1 0 (j + 1) c)), some (vsL Value.string (List.replicate (j + 1) z512))]⟩
theorem tz84 (c : Nat) : elemZero Try.prog 84 c = some [.lst 2 (List.replicate c (.agg [.v (.bool false), .v (.string ⟨#[]⟩)]))] := by kernel_rfl
noncomputable def c17o (k : Nat) : Cfg := ⟨Try.prog, k, p8, [3], n17, none, []⟩
theorem c17o_odd (k : Nat) : (c17o k).odd = [3] := rfl
theorem c17o_ro (k : Nat) : (c17o k).ro = [] := rfl
theorem c17o_P (k : Nat) : (c17o k).P = Try.prog := rfl
theorem c17o_pure (k : Nat) : (c17o k).pure = p8 := rfl
theorem c17o_news (k : Nat) : (c17o k).news = n17 := rfl
theorem xc17o :
  (type_of% @c17o_pure) ∧
  (type_of% @c17o_news) :=
  ⟨@c17o_pure, @c17o_news⟩
theorem good17o (k : Nat) : (c17o k).Good := good17 k
theorem rp1 (g : Nat → Nat) (n : Nat) : renL g (List.replicate n (.agg [.v (.bool false), .v (.string ⟨#[]⟩)])) = List.replicate n (.agg [.v (.bool false), .v (.string ⟨#[]⟩)]) := by
  induction n with
  | zero => rfl
  | succ n ih => simp only [List.replicate_succ, renL, AV.ren, ih]
theorem rp2 (g : Nat → Nat) (n : Nat) : renL g (List.replicate n (.v (.bool false))) = List.replicate n (.v (.bool false)) := by
  induction n with
  | zero => rfl
  | succ n ih => simp only [List.replicate_succ, renL, AV.ren, ih]
theorem xnew_ok (H : Hd) (b : List Int) (hg : 0 ≤ H.gen) (hn : H.nam.length = 16) (h : newOk H b = true) : ACall Try.prog 21 [.agg (hdL H), .roI .u8 b] [] fun v h' => ∃ c, v = .tup [.ptr 0 0 0, .v (.int .i64 0)] ∧ h' = rblk (xNew H b c) := by
  have hn2 : H.nam.take 16 = H.nam := List.take_of_length_le (by omega)
  have hz : (List.replicate 32 (0 : Int)).take 32 = List.replicate 32 0 := rfl
  have na : ∀ n : Nat, (0 : Int) ≤ n := fun n => Int.natCast_nonneg n
  have hz5 : (List.replicate 512 (0 : Int)).take 512 = List.replicate 512 0 := List.take_of_length_le (by simp)
  simp only [newOk, Bool.and_eq_true, decide_eq_true_eq] at h
  obtain ⟨h1, h2⟩ := h
  have hk := okH_iff.1 h1
  have k1 : 0 ≤ H.slo := by omega
  have k2 : 0 ≤ H.sec := by omega
  unfold hdL
  refine ACall.weak (C := c17 0) rfl (κ := fun v h' => ∃ c x, v = .tup [.ptr 3 0 0, .v (.int .i64 0)] ∧ h' = [x, some (prL (fun p : Bool × ByteArray => .bool p.1) (fun p => .string p.2) ((List.replicate H.slo.toNat (false, (⟨#[]⟩ : ByteArray))).set 0 (true, bytesOf b))), some (vsL Value.bool (List.replicate H.sec.toNat false)), some (xnL H (.sl 4 0 1 0 H.sec.toNat c)), some (vsL Value.string (List.replicate H.sec.toNat z512))]) ?_ ?_
  · refine acall_run (good17o 0) Try.func21 rfl ⟨by kernel_rfl, by show 2 ≤ _; decide, by kernel_rfl, by kernel_rfl⟩ rfl ?_; have hr : Try.f21.results.toList = [.tmp 4, .tmp 5] := rfl; repeat (first | simp only [c17o_P, c17o_odd, c17o_ro, Nat.reduceBEq, reduceIte, Nat.reduceEqDiff, reduceCtorEq, ne_eq, if_true, if_false, exA, exA, tabs, exB, exD, buildA, rowOr, rowSetAt, rowAgg, mkAgg, AV.isAggV, AV.parts, AV.one, AV.solid, headSize, indexAddrA, indexA, fieldAddrA, fieldA, sliceA, boundsA, bndA, lenA, arrayAtA, rowOf, makeSliceA, intsOf, copyA, Nat.reduceAdd, Nat.reduceSub, Nat.reduceMul, Nat.reduceLeDiff, Nat.reduceLT, Nat.reduceGT, Int.reduceToNat, Int.reduceLE, Int.reduceLT, Int.reduceEq, Int.reduceNe, Int.reduceAdd, Int.reduceSub, Int.reduceMul, Int.reduceNeg, ite_true, ite_false, dite_true, xc1, xc2, xc3, xc4, xc5, xc6, xc7, xc8, xc9, xc10, xc11, xc12, xc13, xc14, xc15, xc16, xc17, xc17o, hr, hg, hn, hn2, hz, Hd_eta, errH_bne, errH_beq, h1, h2, k1, k2, tz84] | simp (maxSteps := 1000000) (disch := omega) only [exE, Int.toNat_natCast, Int.reduceToNat])
    refine odd_merge (good17o 0) (.first 0 (.first 1 (.first 2 (.first 4 (.first 5 (.fork 3 (.fork 6 (.first 7 (.fork 8 (.first 9 .done) .stop)) .stop) (.fork 6 (.fork 3 (.first 7 (.fork 8 (.first 9 .done) .stop)) .stop) .stop)))))))
      ⟨envL [(1, .roI .u8 b), (2, .ptr 0 0 0), (6, .ptr 3 0 0)], [some [.v (.int .u64 H.gen), .v (.int .i64 H.sec), .v (.int .i64 H.slo), .v (.int .i64 H.jou), .v (.int .i64 H.seg), .v (.int .i64 H.tim), .v (.int .i64 H.mem), .v (.int .i64 H.lan), .arr 16 .u8 H.nam], some [.lst 2 (List.replicate H.slo.toNat (.agg [.v (.bool false), .v (.string ⟨#[]⟩)]))], some [.lst 1 (List.replicate H.sec.toNat (.v (.bool false)))], some (xnL H (.v (.slice none 0 0)))]⟩ (by kernel_rfl) ?_ ?_
    · repeat (first | simp only [c17o_P, c17o_odd, c17o_ro, Nat.reduceBEq, reduceIte, Nat.reduceEqDiff, reduceCtorEq, ne_eq, if_true, if_false, exA, exA, tabs, exB, exD, buildA, rowOr, rowSetAt, rowAgg, mkAgg, AV.isAggV, AV.parts, AV.one, AV.solid, headSize, indexAddrA, indexA, fieldAddrA, fieldA, sliceA, boundsA, bndA, lenA, arrayAtA, rowOf, makeSliceA, intsOf, copyA, Nat.reduceAdd, Nat.reduceSub, Nat.reduceMul, Nat.reduceLeDiff, Nat.reduceLT, Nat.reduceGT, Int.reduceToNat, Int.reduceLE, Int.reduceLT, Int.reduceEq, Int.reduceNe, Int.reduceAdd, Int.reduceSub, Int.reduceMul, Int.reduceNeg, ite_true, ite_false, dite_true, xc1, xc2, xc3, xc4, xc5, xc6, xc7, xc8, xc9, xc10, xc11, xc12, xc13, xc14, xc15, xc16, xc17, xc17o, hr, hg, hn, hn2, hz, Hd_eta, errH_bne, errH_beq, h1, h2, k1, k2, tz84] | simp (maxSteps := 1000000) (disch := omega) only [exE, Int.toNat_natCast, Int.reduceToNat])
      refine ⟨⟨by omega, by omega, ?_⟩, ⟨by omega, by omega, ?_⟩⟩
      · unfold xnL; (refine weak_of ?_ ?_; (focus (first | with_reducible rfl | (simp only [] <;> with_reducible rfl))); simp only [exF, Nat.reduceEqDiff, if_true, if_false, reduceIte, Option.some.injEq, reduceCtorEq, Int.cast_ofNat_Int])
      · unfold xnL; (refine weak_gc' [0, 2, 1, 3] (by decide) (by simp) (by rfl) ?_ ?_; (focus (first | with_reducible rfl | (simp only [List.map_cons, List.map_nil, List.cons_append, List.nil_append, List.getElem?_cons_zero, List.getElem?_cons_succ, renB, renL, Option.map_some, Option.map_none, AV.ren, gcMap, List.getD_cons_zero, List.getD_cons_succ, rp1, rp2, renL] <;> with_reducible rfl))); simp only [exF, List.map_cons, List.map_nil, List.length_cons, List.length_nil, Nat.reduceAdd, AV.ren, renL, gcMap, Nat.reduceEqDiff, if_true, if_false, reduceIte, Option.some.injEq, reduceCtorEq, Int.cast_ofNat_Int, rp1, rp2, renL])
    · repeat (first | simp only [c17o_P, c17o_odd, c17o_ro, Nat.reduceBEq, reduceIte, Nat.reduceEqDiff, reduceCtorEq, ne_eq, if_true, if_false, exA, exA, tabs, exB, exD, buildA, rowOr, rowSetAt, rowAgg, mkAgg, AV.isAggV, AV.parts, AV.one, AV.solid, headSize, indexAddrA, indexA, fieldAddrA, fieldA, sliceA, boundsA, bndA, lenA, arrayAtA, rowOf, makeSliceA, intsOf, copyA, Nat.reduceAdd, Nat.reduceSub, Nat.reduceMul, Nat.reduceLeDiff, Nat.reduceLT, Nat.reduceGT, Int.reduceToNat, Int.reduceLE, Int.reduceLT, Int.reduceEq, Int.reduceNe, Int.reduceAdd, Int.reduceSub, Int.reduceMul, Int.reduceNeg, ite_true, ite_false, dite_true, xc1, xc2, xc3, xc4, xc5, xc6, xc7, xc8, xc9, xc10, xc11, xc12, xc13, xc14, xc15, xc16, xc17, xc17o, hr] | simp (maxSteps := 1000000) (disch := omega) only [exE, Int.toNat_natCast, Int.reduceToNat])
      refine loop_countE (good17o 0) (xnS H b) H.sec.toNat (by kernel_rfl) ⟨0, ?_⟩ ?_ ?_
      · refine Weak.trans (weak_row (b := 1) (qs := prL (fun p : Bool × ByteArray => .bool p.1) (fun p => .string p.2) (List.replicate H.slo.toNat (false, ⟨#[]⟩))) (L := [(1, .roI .u8 b), (2, .ptr 0 0 0), (6, .ptr 3 0 0), (7, .v (.int .i64 0))]) rfl rfl (fun X w ρ cs h => lst_prs (f := fun p : Bool × ByteArray => Value.bool p.1) (g := fun p => Value.string p.2) _ (false, ⟨#[]⟩) h) ?_)
          (weak_row (b := 2) (qs := vsL Value.bool (List.replicate H.sec.toNat false)) (L := [(1, .roI .u8 b), (2, .ptr 0 0 0), (6, .ptr 3 0 0), (7, .v (.int .i64 0))]) rfl rfl (fun X w ρ cs h => lst_ones (f := Value.bool) _ false h) ?_)
        · simp only [envAll_cons, envAll_nil, get_put, get_envL_cons, get_envL_nil, Nat.reduceEqDiff, if_true, if_false, reduceIte, Option.some.injEq, and_self]
        · simp only [envAll_cons, envAll_nil, get_envL_cons, get_envL_nil, Nat.reduceEqDiff, if_true, if_false, reduceIte, and_self]
      · intro i c hi
        have c1 : (i : Int) < H.sec := by omega
        have w1 : IntKind.i64.wrap ((i : Int) + 1) = ((i + 1 : Nat) : Int) := by rw [i64_id _ (by omega)]; omega
        cases i with
        | zero =>
          have w0 : IntKind.i64.wrap 1 = 1 := rfl
          have c2 : (0 : Int) < H.sec := by omega
          have e0 : vsL Value.string [z512] = [.v (.string (bytesOf (List.replicate 512 0)))] := rfl
          unfold xnS xnL hdL
          repeat (first | simp only [c17o_P, c17o_odd, c17o_ro, Nat.reduceBEq, reduceIte, Nat.reduceEqDiff, reduceCtorEq, ne_eq, if_true, if_false, exA, exA, tabs, exB, exD, buildA, rowOr, rowSetAt, rowAgg, mkAgg, AV.isAggV, AV.parts, AV.one, AV.solid, headSize, indexAddrA, indexA, fieldAddrA, fieldA, sliceA, boundsA, bndA, lenA, arrayAtA, rowOf, makeSliceA, intsOf, copyA, Nat.reduceAdd, Nat.reduceSub, Nat.reduceMul, Nat.reduceLeDiff, Nat.reduceLT, Nat.reduceGT, Int.reduceToNat, Int.reduceLE, Int.reduceLT, Int.reduceEq, Int.reduceNe, Int.reduceAdd, Int.reduceSub, Int.reduceMul, Int.reduceNeg, ite_true, ite_false, dite_true, xc1, xc2, xc3, xc4, xc5, xc6, xc7, xc8, xc9, xc10, xc11, xc12, xc13, xc14, xc15, xc16, xc17, xc17o, hr, c2, w0, hn2, hz5] | simp (maxSteps := 1000000) (disch := omega) only [exE, Int.toNat_natCast, Int.reduceToNat])
          intro c' _
          refine ⟨c', ?_⟩
          (refine weak_gc' [0, 1, 2, 3, 6] (by decide) (by simp) (by rfl) ?_ ?_; (focus (first | with_reducible rfl | (simp only [List.map_cons, List.map_nil, List.cons_append, List.nil_append, List.getElem?_cons_zero, List.getElem?_cons_succ, renB, renL, Option.map_some, Option.map_none, AV.ren, gcMap, List.getD_cons_zero, List.getD_cons_succ, e0, renL, renL_vs, renL_pr, List.cons_append, List.nil_append] <;> with_reducible rfl))); simp only [exF, List.map_cons, List.map_nil, List.length_cons, List.length_nil, Nat.reduceAdd, AV.ren, renL, gcMap, Nat.reduceEqDiff, if_true, if_false, reduceIte, Option.some.injEq, reduceCtorEq, Int.cast_ofNat_Int, e0, renL, renL_vs, renL_pr, List.cons_append, List.nil_append])
        | succ j =>
          unfold xnS xnL hdL
          have e1 : vsL Value.string (List.replicate (j + 1) z512) ++ [.v (.string (bytesOf (List.replicate 512 0)))] = vsL Value.string (List.replicate (j + 1 + 1) z512) := by
            rw [show bytesOf (List.replicate 512 0) = z512 from rfl, vsL_snoc, ← List.replicate_succ']
          have hl : (List.replicate (j + 1) z512).length = j + 1 := List.length_replicate
          have ho := vsL_ones (f := Value.string) (List.replicate (j + 1) z512)
          simp only [AV.one] at ho
          have htk := vsL_take (f := Value.string) _ hl
          repeat (first | simp only [c17o_P, c17o_odd, c17o_ro, Nat.reduceBEq, reduceIte, Nat.reduceEqDiff, reduceCtorEq, ne_eq, if_true, if_false, exA, exA, tabs, exB, exD, buildA, rowOr, rowSetAt, rowAgg, mkAgg, AV.isAggV, AV.parts, AV.one, AV.solid, headSize, indexAddrA, indexA, fieldAddrA, fieldA, sliceA, boundsA, bndA, lenA, arrayAtA, rowOf, makeSliceA, intsOf, copyA, Nat.reduceAdd, Nat.reduceSub, Nat.reduceMul, Nat.reduceLeDiff, Nat.reduceLT, Nat.reduceGT, Int.reduceToNat, Int.reduceLE, Int.reduceLT, Int.reduceEq, Int.reduceNe, Int.reduceAdd, Int.reduceSub, Int.reduceMul, Int.reduceNeg, ite_true, ite_false, dite_true, xc1, xc2, xc3, xc4, xc5, xc6, xc7, xc8, xc9, xc10, xc11, xc12, xc13, xc14, xc15, xc16, xc17, xc17o, hr, na, c1, w1, hn2, rowS_vs, vsL_len, hl, ho, htk, e1, hz5] | simp (maxSteps := 1000000) (disch := omega) only [exE, Int.toNat_natCast, Int.reduceToNat])
          refine ⟨⟨by omega, by omega⟩, fun c' _ => ⟨c', ?_⟩⟩
          (refine weak_gc' [0, 1, 2, 3, 7] (by decide) (by simp) (by rfl) ?_ ?_; (focus (first | with_reducible rfl | (simp only [List.map_cons, List.map_nil, List.cons_append, List.nil_append, List.getElem?_cons_zero, List.getElem?_cons_succ, renB, renL, Option.map_some, Option.map_none, AV.ren, gcMap, List.getD_cons_zero, List.getD_cons_succ, renL, renL_vs, renL_pr, List.cons_append, List.nil_append] <;> with_reducible rfl))); simp only [exF, List.map_cons, List.map_nil, List.length_cons, List.length_nil, Nat.reduceAdd, AV.ren, renL, gcMap, Nat.reduceEqDiff, if_true, if_false, reduceIte, Option.some.injEq, reduceCtorEq, Int.cast_ofNat_Int, renL, renL_vs, renL_pr, List.cons_append, List.nil_append])
      · intro c
        obtain ⟨j, hj⟩ : ∃ j, H.sec.toNat = j + 1 := ⟨H.sec.toNat - 1, by omega⟩
        have c1 : ¬ (((j + 1 : Nat)) : Int) < H.sec := by omega
        have s0 := put_pr (f := fun p : Bool × ByteArray => Value.bool p.1) (g := fun p => Value.string p.2) (true, bytesOf b) (List.replicate H.slo.toNat (false, (⟨#[]⟩ : ByteArray))) 0 (by simp; omega)
        simp only [Nat.zero_mul] at s0
        have c3 : 0 < H.slo := by omega
        rw [hj]
        unfold xnS xnL hdL
        repeat (first | simp only [c17o_P, c17o_odd, c17o_ro, Nat.reduceBEq, reduceIte, Nat.reduceEqDiff, reduceCtorEq, ne_eq, if_true, if_false, exA, exA, tabs, exB, exD, buildA, rowOr, rowSetAt, rowAgg, mkAgg, AV.isAggV, AV.parts, AV.one, AV.solid, headSize, indexAddrA, indexA, fieldAddrA, fieldA, sliceA, boundsA, bndA, lenA, arrayAtA, rowOf, makeSliceA, intsOf, copyA, Nat.reduceAdd, Nat.reduceSub, Nat.reduceMul, Nat.reduceLeDiff, Nat.reduceLT, Nat.reduceGT, Int.reduceToNat, Int.reduceLE, Int.reduceLT, Int.reduceEq, Int.reduceNe, Int.reduceAdd, Int.reduceSub, Int.reduceMul, Int.reduceNeg, ite_true, ite_false, dite_true, xc1, xc2, xc3, xc4, xc5, xc6, xc7, xc8, xc9, xc10, xc11, xc12, xc13, xc14, xc15, xc16, xc17, xc17o, hr, na, hn2, c1, rowS_pr, s0, c3] | simp (maxSteps := 1000000) (disch := omega) only [exE, Int.toNat_natCast, Int.reduceToNat])
        simp only [hj]
        exact ⟨by omega, c, _, rfl⟩
  · rintro v h' ⟨c, x, rfl, rfl⟩
    refine ⟨.tup [.ptr 0 0 0, .v (.int .i64 0)], rblk (xNew H b c), ?_, c, rfl, rfl⟩
    have hps : (prL (fun p : Bool × ByteArray => Value.bool p.1) (fun p => .string p.2) ((List.replicate H.slo.toNat (false, (⟨#[]⟩ : ByteArray))).set 0 (true, bytesOf b))) = (prL (fun p : Bool × ByteArray => Value.bool p.1) (fun p => .string p.2) (xNew H b c).P) := rfl
    unfold rblk rfL xNew xnL
    (refine weak_gc' [3, 4, 2, 1] (by decide) (by simp) (by rfl) ?_ ?_; (focus (first | with_reducible rfl | (simp only [List.map_cons, List.map_nil, List.cons_append, List.nil_append, List.getElem?_cons_zero, List.getElem?_cons_succ, renB, renL, Option.map_some, Option.map_none, AV.ren, gcMap, List.getD_cons_zero, List.getD_cons_succ, renL, renL_vs, renL_pr, List.length_replicate, List.length_set] <;> with_reducible rfl))); simp only [exF, List.map_cons, List.map_nil, List.length_cons, List.length_nil, Nat.reduceAdd, AV.ren, renL, gcMap, Nat.reduceEqDiff, if_true, if_false, reduceIte, Option.some.injEq, reduceCtorEq, Int.cast_ofNat_Int, renL, renL_vs, renL_pr, List.length_replicate, List.length_set])
theorem xnew_bad (H : Hd) (b : List Int) (hg : 0 ≤ H.gen) (hn : H.nam.length = 16) (h : newOk H b = false) : ACall Try.prog 21 [.agg (hdL H), .roI .u8 b] [] fun v h' => v = .tup [.v (.pointer none), .v (.int .i64 1)] ∧ ∃ x, h' = [some x] := by
  have hn2 : H.nam.take 16 = H.nam := List.take_of_length_le (by omega)
  unfold hdL
  cases h1 : okH H
  · refine acall_run (good17o 0) Try.func21 rfl ⟨by kernel_rfl, by show 2 ≤ _; decide, by kernel_rfl, by kernel_rfl⟩ rfl ?_; have hr : Try.f21.results.toList = [.tmp 4, .tmp 5] := rfl; repeat (first | simp only [c17o_P, c17o_odd, c17o_ro, Nat.reduceBEq, reduceIte, Nat.reduceEqDiff, reduceCtorEq, ne_eq, if_true, if_false, exA, exA, tabs, exB, exD, buildA, rowOr, rowSetAt, rowAgg, mkAgg, AV.isAggV, AV.parts, AV.one, AV.solid, headSize, indexAddrA, indexA, fieldAddrA, fieldA, sliceA, boundsA, bndA, lenA, arrayAtA, rowOf, makeSliceA, intsOf, copyA, Nat.reduceAdd, Nat.reduceSub, Nat.reduceMul, Nat.reduceLeDiff, Nat.reduceLT, Nat.reduceGT, Int.reduceToNat, Int.reduceLE, Int.reduceLT, Int.reduceEq, Int.reduceNe, Int.reduceAdd, Int.reduceSub, Int.reduceMul, Int.reduceNeg, ite_true, ite_false, dite_true, xc1, xc2, xc3, xc4, xc5, xc6, xc7, xc8, xc9, xc10, xc11, xc12, xc13, xc14, xc15, xc16, xc17, xc17o, hr, hg, hn, hn2, Hd_eta, errH_bne, errH_beq, h1] | simp (maxSteps := 1000000) (disch := omega) only [exE, Int.toNat_natCast, Int.reduceToNat])
    exact ⟨_, rfl⟩
  · simp only [newOk, h1, Bool.true_and, decide_eq_false_iff_not] at h
    refine acall_run (good17o 0) Try.func21 rfl ⟨by kernel_rfl, by show 2 ≤ _; decide, by kernel_rfl, by kernel_rfl⟩ rfl ?_; have hr : Try.f21.results.toList = [.tmp 4, .tmp 5] := rfl; repeat (first | simp only [c17o_P, c17o_odd, c17o_ro, Nat.reduceBEq, reduceIte, Nat.reduceEqDiff, reduceCtorEq, ne_eq, if_true, if_false, exA, exA, tabs, exB, exD, buildA, rowOr, rowSetAt, rowAgg, mkAgg, AV.isAggV, AV.parts, AV.one, AV.solid, headSize, indexAddrA, indexA, fieldAddrA, fieldA, sliceA, boundsA, bndA, lenA, arrayAtA, rowOf, makeSliceA, intsOf, copyA, Nat.reduceAdd, Nat.reduceSub, Nat.reduceMul, Nat.reduceLeDiff, Nat.reduceLT, Nat.reduceGT, Int.reduceToNat, Int.reduceLE, Int.reduceLT, Int.reduceEq, Int.reduceNe, Int.reduceAdd, Int.reduceSub, Int.reduceMul, Int.reduceNeg, ite_true, ite_false, dite_true, xc1, xc2, xc3, xc4, xc5, xc6, xc7, xc8, xc9, xc10, xc11, xc12, xc13, xc14, xc15, xc16, xc17, xc17o, hr, hg, hn, hn2, Hd_eta, errH_bne, errH_beq, h1, h] | simp (maxSteps := 1000000) (disch := omega) only [exE, Int.toNat_natCast, Int.reduceToNat])
    exact ⟨_, rfl⟩
end Go.Proofs.Ytgkhngcnbddoiaa

namespace Go.Proofs.Ytgkhngcnbddoiaa
open Go.Ax
def secR (m : Ms) (x : Rs) (i : Nat) : Prop := match aget m.S (i : Int) with
  | some b => b.length = 512 ∧ x.W.getD i false = true ∧ x.L.getD i default = bytesOf b
  | none => x.W.getD i false = false ∧ x.L.getD i default = z512
def sloR (m : Ms) (x : Rs) (i : Nat) : Prop := aget m.P (i : Int) = cond (x.P.getD i (false, default)).1 (some (x.P.getD i (false, default)).2) none
structure Sim (m : Ms) (x : Rs) : Prop where
  H : x.H = m.H
  ok : okH m.H = true
  nam : m.H.nam.length = 16
  ep : x.ep = m.ep
  R : x.R = m.R
  may : mayB m.H m.R = true
  tre : m.R.tre.length = 32
  op : x.op = m.op
  sl : x.sl = m.sl
  Ll : (x.L.length : Int) = m.H.sec
  Wl : (x.W.length : Int) = m.H.sec
  Pl : (x.P.length : Int) = m.H.slo
  sec : ∀ i : Nat, (i : Int) < m.H.sec → secR m x i
  slo : ∀ i : Nat, (i : Int) < m.H.slo → sloR m x i
  kS : (aK m.S).Nodup
  rS : ∀ k ∈ aK m.S, 0 ≤ k ∧ k < m.H.sec
  kP : (aK m.P).Nodup
  rP : ∀ k ∈ aK m.P, 0 ≤ k ∧ k < m.H.slo
theorem getD_set {α : Type} (l : List α) (i j : Nat) (a d : α) (h : i < l.length) : (l.set i a).getD j d = if i = j then a else l.getD j d := by
  simp only [List.getD_eq_getElem?_getD]
  by_cases hij : i = j
  · subst hij; simp [h]
  · rw [if_neg hij, List.getElem?_set_ne hij]
theorem getD_rep {α : Type} (n i : Nat) (a d : α) (h : i < n) : (List.replicate n a).getD i d = a := by
  simp [List.getD_eq_getElem?_getD, List.getElem?_replicate, h]
theorem sim_new (H : Hd) (b : List Int) (c : Nat) (hn : H.nam.length = 16) (h : newOk H b = true) : Sim (mNew H b) (xNew H b c) := by
  simp only [newOk, Bool.and_eq_true, decide_eq_true_eq] at h
  obtain ⟨h1, h2⟩ := h
  have hk := okH_iff.1 h1
  have hm : mayB H ⟨0, false, 0, List.replicate 32 0⟩ = true := by
    simp only [mayB, h1, Bool.true_and, Bool.false_or, Bool.and_eq_true, decide_eq_true_eq]
    exact ⟨by omega, rfl⟩
  have e0 : aK (mNew H b).P = [0] := rfl
  have e1 : aK (mNew H b).S = [] := rfl
  refine ⟨rfl, h1, hn, rfl, rfl, hm, by simp [mNew], rfl, rfl, ?_, ?_, ?_, ?_, ?_, by rw [e1]; exact .nil, ?_, by rw [e0]; simp, ?_⟩
  · simp [xNew, mNew]; omega
  · simp [xNew, mNew]; omega
  · simp [xNew, mNew]; omega
  · intro i hi
    have hi2 : i < H.sec.toNat := by simp only [mNew] at hi; omega
    show (_ ∧ _)
    exact ⟨getD_rep _ _ _ _ hi2, getD_rep _ _ _ _ hi2⟩
  · intro i hi
    have hi2 : i < H.slo.toNat := by simp only [mNew] at hi; omega
    unfold sloR
    simp only [xNew, mNew]
    rw [getD_set _ _ _ _ _ (by simp; omega)]
    by_cases h0 : 0 = i
    · subst h0; simp [aget]
    · rw [if_neg h0, getD_rep _ _ _ _ hi2]
      have : ¬ (0 : Int) = i := by omega
      simp [aget, this]
  · intro k hk; rw [e1] at hk; cases hk
  · intro k hk; rw [e0] at hk; simp at hk; simp only [mNew]; omega
theorem sim_may {m : Ms} {x : Rs} (h : Sim m x) (n : Int) : xMay x n = mayE (mfO m) n := by
  unfold xMay mayE
  rw [h.op, h.H]
  rfl
theorem sim_write {m : Ms} {x : Rs} (h : Sim m x) (n : Int) (b : List Int) : (mWrite m n b).1 = (xWrite x n b).1 ∧ Sim (mWrite m n b).2 (xWrite x n b).2 := by
  unfold mWrite xWrite
  rw [sim_may h]
  by_cases h1 : mayE (mfO m) n = 0
  · rw [if_pos h1, if_pos h1]
    by_cases h2 : b.length = 512
    · rw [if_pos h2, if_pos h2]
      obtain ⟨h3, h4, h5⟩ := mayE_0 h1
      have h5 : n < m.H.sec := h5
      obtain ⟨i, rfl⟩ : ∃ i : Nat, n = i := ⟨n.toNat, by omega⟩
      refine ⟨rfl, h.H, h.ok, h.nam, h.ep, by simp only [h.R], h.may, h.tre, h.op, h.sl, by simpa using h.Ll, by simpa using h.Wl, h.Pl, ?_, h.slo, aK_put_nodup h.kS, ?_, h.kP, h.rP⟩
      · intro j hj
        have hs := h.sec j hj
        have l1 := h.Ll
        have l2 := h.Wl
        unfold secR at hs ⊢
        simp only [aget_put, Int.toNat_natCast]
        rw [getD_set _ _ _ _ _ (by omega), getD_set _ _ _ _ _ (by omega)]
        by_cases hij : i = j
        · subst hij; simp [h2]
        · have : ¬ (i : Int) = j := by omega
          rw [if_neg this, if_neg hij, if_neg hij]; exact hs
      · intro k hk
        rcases aK_put _ _ _ k hk with rfl | h6
        · exact ⟨h4, h5⟩
        · exact h.rS k h6
    · rw [if_neg h2, if_neg h2]; exact ⟨rfl, h⟩
  · rw [if_neg h1, if_neg h1]; exact ⟨rfl, h⟩
theorem sim_pl {m : Ms} {x : Rs} (h : Sim m x) (n : Int) : xpl x n = plE m.R m.H n := by
  unfold xpl plE
  rw [h.R, h.Pl]
theorem sim_taken {m : Ms} {x : Rs} (h : Sim m x) (i : Nat) (hi : (i : Int) < m.H.slo) : (aget m.P (i : Int)).isSome = (x.P.getD i (false, default)).1 := by
  have := h.slo i hi
  unfold sloR at this
  rw [this]
  cases (x.P.getD i (false, default)).1 <;> rfl
theorem sim_slotAdd {m : Ms} {x : Rs} (h : Sim m x) (n : Int) (b : List Int) : (mSlotAdd m n b).1 = (xSlotAdd x n b).1 ∧ Sim (mSlotAdd m n b).2 (xSlotAdd x n b).2 := by
  unfold mSlotAdd xSlotAdd
  rw [sim_pl h, h.op]
  by_cases h0 : m.op = true
  · rw [if_pos h0, if_pos h0]
    by_cases h1 : 512 < b.length
    · rw [if_pos h1, if_pos h1]; exact ⟨rfl, h⟩
    rw [if_neg h1, if_neg h1]
    by_cases h2 : plE m.R m.H n = 0
    · rw [if_pos h2, if_pos h2]
      obtain ⟨h3, h4, h5⟩ := plE_0 h2
      obtain ⟨i, rfl⟩ : ∃ i : Nat, n = i := ⟨n.toNat, by omega⟩
      rw [sim_taken h i h5, Int.toNat_natCast]
      split
      · exact ⟨rfl, h⟩
      · refine ⟨rfl, h.H, h.ok, h.nam, h.ep, by simp only [h.R], h.may, h.tre, rfl, h.sl, h.Ll, h.Wl, by simpa using h.Pl, h.sec, ?_, h.kS, h.rS, aK_put_nodup h.kP, ?_⟩
        · intro j hj
          have hs := h.slo j hj
          have l1 := h.Pl
          unfold sloR at hs ⊢
          simp only [aget_put]
          rw [getD_set _ _ _ _ _ (by omega)]
          by_cases hij : i = j
          · subst hij; simp
          · have : ¬ (i : Int) = j := by omega
            rw [if_neg this, if_neg hij]; exact hs
        · intro k hk
          rcases aK_put _ _ _ k hk with rfl | h6
          · exact ⟨h4, h5⟩
          · exact h.rP k h6
    · rw [if_neg h2, if_neg h2]; exact ⟨rfl, h⟩
  · rw [if_neg h0, if_neg h0]; exact ⟨rfl, h⟩
def pf (x : Rs) (i : Nat) : Bool := (x.P.getD i (false, default)).1
theorem rise_cnt (x : Rs) : ∀ j, (rise (pf x) j).length = cntP x.P j
  | 0 => rfl
  | j + 1 => by
    have ih := rise_cnt x j
    have e1 : rise (pf x) (j + 1) = if pf x j = true then rise (pf x) j ++ [(j : Int)] else rise (pf x) j := rfl
    have e2 : cntP x.P (j + 1) = if pf x j = true then cntP x.P j + 1 else cntP x.P j := rfl
    rw [e1, e2]
    split
    · simp [ih]
    · exact ih
theorem sim_cnt {m : Ms} {x : Rs} (h : Sim m x) : m.P.length = cntP x.P x.P.length := by
  rw [← rise_cnt, ← aK_len]
  refine (rise_perm h.kP ?_).length_eq
  intro k
  rw [mem_rise]
  constructor
  · intro hk
    have hr := h.rP k hk
    have l1 := h.Pl
    refine ⟨k.toNat, by omega, ?_, by omega⟩
    unfold pf
    rw [← sim_taken h k.toNat (by omega), show ((k.toNat : Nat) : Int) = k by omega, aget_mem]
    exact hk
  · rintro ⟨i, h1, h2, rfl⟩
    have l1 := h.Pl
    rw [← aget_mem, sim_taken h i (by omega)]
    exact h2
theorem sim_slotRevoke {m : Ms} {x : Rs} (h : Sim m x) (n : Int) : (mSlotRevoke m n).1 = (xSlotRevoke x n).1 ∧ Sim (mSlotRevoke m n).2 (xSlotRevoke x n).2 := by
  unfold mSlotRevoke xSlotRevoke
  rw [sim_pl h, h.op, sim_cnt h]
  by_cases h0 : m.op = true
  · rw [if_pos h0, if_pos h0]
    by_cases h2 : plE m.R m.H n = 0
    · rw [if_pos h2, if_pos h2]
      obtain ⟨h3, h4, h5⟩ := plE_0 h2
      obtain ⟨i, rfl⟩ : ∃ i : Nat, n = i := ⟨n.toNat, by omega⟩
      rw [sim_taken h i h5, Int.toNat_natCast]
      split
      · split
        · exact ⟨rfl, h⟩
        · refine ⟨rfl, h.H, h.ok, h.nam, h.ep, by simp only [h.R], h.may, h.tre, rfl, h.sl, h.Ll, h.Wl, by simpa using h.Pl, h.sec, ?_, h.kS, h.rS, aK_del_nodup h.kP, ?_⟩
          · intro j hj
            have hs := h.slo j hj
            have l1 := h.Pl
            unfold sloR at hs ⊢
            simp only [aget_del _ _ _ h.kP]
            rw [getD_set _ _ _ _ _ (by omega)]
            by_cases hij : i = j
            · subst hij; simp
            · have : ¬ (i : Int) = j := by omega
              rw [if_neg this, if_neg hij]; exact hs
          · intro k hk
            simp only [← mdelK_a] at hk
            exact h.rP k (List.mem_of_mem_erase hk)
      · exact ⟨rfl, h⟩
    · rw [if_neg h2, if_neg h2]; exact ⟨rfl, h⟩
  · rw [if_neg h0, if_neg h0]; exact ⟨rfl, h⟩
theorem sim_start {m : Ms} {x : Rs} (h : Sim m x) : (mRekeyStart m).1 = (xRekeyStart x).1 ∧ Sim (mRekeyStart m).2 (xRekeyStart x).2 := by
  unfold mRekeyStart xRekeyStart
  rw [h.op, h.R, h.ep]
  by_cases h0 : m.op = true
  · rw [if_pos h0, if_pos h0]
    by_cases h1 : m.R.rek = true
    · rw [if_pos h1, if_pos h1]; exact ⟨rfl, h⟩
    · rw [if_neg h1, if_neg h1]
      by_cases h2 : 4294967295 ≤ m.ep
      · rw [if_pos h2, if_pos h2]; exact ⟨rfl, h⟩
      · rw [if_neg h2, if_neg h2]
        have hm := h.may
        simp only [mayB, Bool.and_eq_true, Bool.or_eq_true, h1, false_or, decide_eq_true_eq, beq_iff_eq] at hm
        have hf : m.R.fro = 0 := hm.2.2.resolve_left (by decide)
        refine ⟨rfl, h.H, h.ok, h.nam, rfl, by simp only [hf], ?_, h.tre, rfl, h.sl, h.Ll, h.Wl, h.Pl, h.sec, h.slo, h.kS, h.rS, h.kP, h.rP⟩
        simp only [mayB, h.ok, Bool.true_and, Bool.true_or, Bool.and_true, decide_eq_true_eq]
        exact hm.2.1
  · rw [if_neg h0, if_neg h0]; exact ⟨rfl, h⟩
theorem mayB_ctr {H : Hd} {R : Rt} (c : Int) (h : mayB H R = true) : mayB H ⟨c, R.rek, R.fro, R.tre⟩ = true := h
theorem sim_step {m : Ms} {x : Rs} (h : Sim m x) : (mRekeyStep m).1 = (xRekeyStep x).1 ∧ (mRekeyStep m).2.1 = (xRekeyStep x).2.1 ∧ Sim (mRekeyStep m).2.2 (xRekeyStep x).2.2 := by
  unfold mRekeyStep xRekeyStep
  rw [h.op, h.R, h.H]
  by_cases h0 : m.op = true
  · rw [if_pos h0, if_pos h0]
    by_cases h1 : m.R.rek = true
    · have h2 : stE m.H m.R = 0 := by unfold stE; rw [if_pos h.may, if_pos h1]
      rw [if_pos h2, if_pos h1]
      exact ⟨rfl, rfl, rfl, h.ok, h.nam, h.ep, rfl, mayB_ctr _ (aft_may h.may h1), h.tre, rfl, h.sl, h.Ll, h.Wl, h.Pl, h.sec, h.slo, h.kS, h.rS, h.kP, h.rP⟩
    · have h2 : stE m.H m.R = 231 := by unfold stE; rw [if_pos h.may, if_neg h1]
      rw [if_neg (by rw [h2]; decide), if_neg h1, h2]; exact ⟨rfl, rfl, h⟩
  · rw [if_neg h0, if_neg h0]; exact ⟨rfl, rfl, h⟩
theorem sim_close {m : Ms} {x : Rs} (h : Sim m x) : (mClose m).1 = (xClose x).1 ∧ Sim (mClose m).2 (xClose x).2 := by
  unfold mClose xClose
  rw [h.op]
  by_cases h0 : m.op = true
  · rw [if_pos h0, if_pos h0]
    exact ⟨rfl, h.H, h.ok, h.nam, h.ep, h.R, h.may, h.tre, rfl, h.sl, h.Ll, h.Wl, h.Pl, h.sec, h.slo, h.kS, h.rS, h.kP, h.rP⟩
  · rw [if_neg h0, if_neg h0]; exact ⟨rfl, h⟩
theorem firstAt_congr (f g : Nat → Bool) : ∀ n, (∀ i, i < n → f i = g i) → firstAt f n = firstAt g n
  | 0, _ => rfl
  | n + 1, h => by
    have ih := firstAt_congr f g n (fun i hi => h i (by omega))
    simp only [firstAt, ih, h n (by omega)]
    try rw [h _ (by have := firstAt_le g n; omega)]
theorem sim_fit {m : Ms} {x : Rs} (h : Sim m x) (b : List Int) (i : Nat) (hi : (i : Int) < m.H.slo) : fitP m.P b i = fitX x.P b i := by
  have := h.slo i hi
  unfold sloR at this
  unfold fitP fitX
  rw [this]
  cases (x.P.getD i (false, default)).1 <;> simp
theorem sim_openAt {m : Ms} {x : Rs} (h : Sim m x) (b : List Int) : openAt m b = xopenAt x b := by
  have l1 := h.Pl
  unfold openAt xopenAt
  rw [show m.H.slo.toNat = x.P.length by omega]
  exact firstAt_congr _ _ _ fun i hi => sim_fit h b i (by omega)
theorem sim_open {m : Ms} {x : Rs} (h : Sim m x) (b : List Int) : (mOpen m b).1 = (xOpen x b).1 ∧ Sim (mOpen m b).2 (xOpen x b).2 := by
  unfold mOpen xOpen
  have l1 := h.Pl
  rw [sim_openAt h, show m.H.slo.toNat = x.P.length by omega]
  by_cases h0 : 512 < b.length
  · rw [if_pos h0, if_pos h0]; exact ⟨rfl, h⟩
  · rw [if_neg h0, if_neg h0]
    by_cases h1 : xopenAt x b < x.P.length
    · rw [if_pos h1, if_pos h1]
      exact ⟨rfl, h.H, h.ok, h.nam, h.ep, h.R, h.may, h.tre, rfl, rfl, h.Ll, h.Wl, h.Pl, h.sec, h.slo, h.kS, h.rS, h.kP, h.rP⟩
    · rw [if_neg h1, if_neg h1]; exact ⟨rfl, h⟩
theorem sim_takes {m : Ms} {x : Rs} (h : Sim m x) : taken m.P m.H.slo.toNat = takX x.P x.P.length := by
  have l1 := h.Pl
  unfold taken takX
  rw [show m.H.slo.toNat = x.P.length by omega]
  refine List.map_congr_left fun i hi => ?_
  exact sim_taken h i (by have := List.mem_range.1 hi; omega)
theorem sim_written {m : Ms} {x : Rs} (h : Sim m x) : srt (aK m.S) = rise (wf x) x.W.length := by
  refine srt_rise h.kS ?_
  intro k
  have l1 := h.Wl
  have key : ∀ i : Nat, (i : Int) < m.H.sec → (aget m.S (i : Int)).isSome = wf x i := by
    intro i hi
    have hs := h.sec i hi
    unfold secR at hs
    unfold wf
    split at hs
    · rename_i b hb; rw [hb, hs.2.1]; rfl
    · rename_i hb; rw [hb, hs.1]; rfl
  rw [mem_rise]
  constructor
  · intro hk
    have hr := h.rS k hk
    refine ⟨k.toNat, by omega, ?_, by omega⟩
    rw [← key k.toNat (by omega), show ((k.toNat : Nat) : Int) = k by omega, aget_mem]
    exact hk
  · rintro ⟨i, h1, h2, rfl⟩
    rw [← aget_mem, key i (by omega)]
    exact h2
end Go.Proofs.Ytgkhngcnbddoiaa

namespace Go.Proofs.Ytgkhngcnbddoiaa
open Go.Ax
def rats (x : Rs) (p : Nat) : List Blk := [some [.v (.int .u64 x.H.gen), .v (.int .i64 x.H.sec), .v (.int .i64 x.H.slo), .v (.int .i64 x.H.jou), .v (.int .i64 x.H.seg), .v (.int .i64 x.H.tim), .v (.int .i64 x.H.mem), .v (.int .i64 x.H.lan), .arr 16 .u8 x.H.nam, .sl (p + 1) 0 1 0 x.L.length x.c, .sl (p + 2) 0 1 0 x.W.length x.W.length, .sl (p + 3) 0 2 0 x.P.length x.P.length, .v (.int .i64 x.ep), .v (.int .u64 x.R.ctr), .v (.bool x.R.rek), .v (.int .i64 x.R.fro), .arr 32 .u8 x.R.tre, .v (.bool x.op), .v (.int .i64 x.sl)],
  some (vsL Value.string x.L), some (vsL Value.bool x.W), some (prL (fun p : Bool × ByteArray => .bool p.1) (fun p => .string p.2) x.P)]
theorem rblk_ren (x : Rs) (p n : Nat) : (rblk x).map (renB (frameMap [p, p + 1, p + 2, p + 3] n)) = rats x p := by
  have h1 : frameMap [p, p + 1, p + 2, p + 3] n 1 = p + 1 := rfl
  have h2 : frameMap [p, p + 1, p + 2, p + 3] n 2 = p + 2 := rfl
  have h3 : frameMap [p, p + 1, p + 2, p + 3] n 3 = p + 3 := rfl
  simp only [rblk, rats, rfL, List.map_cons, List.map_nil, renB, renL, AV.ren, Option.map_some, renL_vs, renL_pr, h1, h2, h3]
theorem rats_get (x : Rs) (pre post : List Blk) {k : Nat} (hk : k < 4) : (pre ++ (rats x pre.length ++ post))[pre.length + k]? = (rats x pre.length)[k]? := by
  rw [List.getElem?_append_right (by omega), show pre.length + k - pre.length = k by omega, List.getElem?_append_left (by simpa [rats] using hk)]
theorem rats_over (x x' : Rs) (pre post r : List Blk) : overwrite (pre ++ (rats x pre.length ++ post)) [pre.length, pre.length + 1, pre.length + 2, pre.length + 3] (rats x' pre.length ++ r) = pre ++ (rats x' pre.length ++ (post ++ r)) := by
  simp only [rats, List.cons_append, List.nil_append, overwrite]
  rw [List.set_append_right _ _ (by omega), Nat.sub_self, List.set_cons_zero, List.set_append_right _ _ (by omega), List.set_append_right _ _ (by omega), List.set_append_right _ _ (by omega)]
  rw [show pre.length + 1 - pre.length = 1 by omega, show pre.length + 2 - pre.length = 2 by omega, show pre.length + 3 - pre.length = 3 by omega]
  simp
theorem callX {C : Cfg} {f : FuncId} {xs : List AV} {x : Rs} {κ : AV → List Blk → Prop} {d : Option Tmp} {all : Array Oper} {l : List Oper} {k : List Go.Ax.KI} {e : Env} {h : List Blk} {Q : Exit → St → Prop}
    (spec : ACall C.P f (.ptr 0 0 0 :: xs) (rblk x) κ) (pre post : List Blk) (hx : ∀ g, renL g xs = xs) (hh : h = pre ++ (rats x pre.length ++ post))
    (hκ : ∀ v h', κ v h' → ∃ x' ext, h' = rblk x' ++ ext ∧ opsR C all l k ⟨put e d (v.ren (frameMap [pre.length, pre.length + 1, pre.length + 2, pre.length + 3] h.length)), pre ++ (rats x' pre.length ++ (post ++ ext.map (renB (frameMap [pre.length, pre.length + 1, pre.length + 2, pre.length + 3] h.length))))⟩ Q) :
    callC C f (.ptr pre.length 0 0 :: xs) d all l k e h Q := by
  refine callC_frame spec [pre.length, pre.length + 1, pre.length + 2, pre.length + 3] ?_ rfl (by simp) ?_ ?_ ?_
  · simp only [renL, AV.ren, hx]
    rfl
  · subst hh
    intro p hp
    have : (rats x pre.length).length = 4 := rfl
    simp only [List.length_append, this]
    simp only [List.mem_cons, List.not_mem_nil, or_false] at hp
    omega
  · intro j hj
    rw [← List.getElem?_map, rblk_ren]
    subst hh
    match j, hj with
    | 0, _ => exact rats_get x pre post (k := 0) (by omega)
    | 1, _ => exact rats_get x pre post (k := 1) (by omega)
    | 2, _ => exact rats_get x pre post (k := 2) (by omega)
    | 3, _ => exact rats_get x pre post (k := 3) (by omega)
  · intro v h' hv
    obtain ⟨x', ext, rfl, ho⟩ := hκ v h' hv
    rw [List.map_append, rblk_ren]
    subst hh
    rw [rats_over]
    exact ho
noncomputable def c17d (k : Nat) : Cfg := ⟨Try.prog, k, p8, [18, 20, 30, 32], n17, none, []⟩
theorem c17d_odd (k : Nat) : (c17d k).odd = [18, 20, 30, 32] := rfl
theorem c17d_ro (k : Nat) : (c17d k).ro = [] := rfl
theorem c17d_P (k : Nat) : (c17d k).P = Try.prog := rfl
theorem c17d_pure (k : Nat) : (c17d k).pure = p8 := rfl
theorem c17d_news (k : Nat) : (c17d k).news = n17 := rfl
theorem xc17d :
  (type_of% @c17d_pure) ∧
  (type_of% @c17d_news) :=
  ⟨@c17d_pure, @c17d_news⟩
theorem good17d (k : Nat) : (c17d k).Good := good17 k
def DoesQ (v : AV) (h' : List Blk) : Prop := v = .v (.bool true) ∧ ∃ m' x' ext, Sim m' x' ∧ h' = mats m' 0 ++ (rats x' 3 ++ ext)
theorem doesQ_of {m' : Ms} {x' : Rs} {ext : List Blk} (h : Sim m' x') {h' : List Blk} (hh : h' = mats m' 0 ++ (rats x' 3 ++ ext)) : DoesQ (.v (.bool true)) h' := ⟨rfl, m', x', ext, h, hh⟩
theorem ieq {a b : Int} (h : a = b) : (a == b) = true := by simp [h]
theorem does3 (m : Ms) (x : Rs) (o : OpV) (h : Sim m x) (ho : OpB o) (k : o.kd = 3) : ACall Try.prog 22 [.ptr 0 0 0, .ptr 3 0 0, .agg (opL o)] (mats m 0 ++ rats x 3) DoesQ := by
  have hob := ho.1
  have he : (mFlush m == xFlush x) = true := ieq (by unfold mFlush xFlush; rw [h.op])
  unfold opL mats mfL rats
  refine acall_run (good17d 7) Try.func22 rfl ⟨by kernel_rfl, by show 3 ≤ _; decide, by kernel_rfl, by kernel_rfl⟩ rfl ?_; have hr : Try.f22.results.toList = [.tmp 6] := rfl
  repeat (first | simp only [c17d_P, c17d_odd, c17d_ro, Nat.reduceBEq, reduceIte, Nat.reduceEqDiff, reduceCtorEq, ne_eq, if_true, if_false, exA, exA, tabs, exB, exD, buildA, rowOr, rowSetAt, rowAgg, mkAgg, AV.isAggV, AV.parts, AV.one, AV.solid, headSize, indexAddrA, indexA, fieldAddrA, fieldA, sliceA, boundsA, bndA, lenA, arrayAtA, rowOf, makeSliceA, intsOf, copyA, Nat.reduceAdd, Nat.reduceSub, Nat.reduceMul, Nat.reduceLeDiff, Nat.reduceLT, Nat.reduceGT, Int.reduceToNat, Int.reduceLE, Int.reduceLT, Int.reduceEq, Int.reduceNe, Int.reduceAdd, Int.reduceSub, Int.reduceMul, Int.reduceNeg, ite_true, ite_false, dite_true, xc1, xc2, xc3, xc4, xc5, xc6, xc7, xc8, xc9, xc10, xc11, xc12, xc13, xc14, xc15, xc16, xc17, xc17d, hr, k, hob] | simp (maxSteps := 1000000) (disch := omega) only [exE, Int.toNat_natCast, Int.reduceToNat])
  refine callM (C := c17d 7) (flush_spec m) [] [_, _, _, _, _] (fun _ => rfl) rfl ?_
  rintro v h' ⟨rfl, rfl⟩
  refine ⟨m, [], (List.append_nil _).symm, ?_⟩
  simp only [AV.ren, renL, List.map_nil, List.append_nil, mats, mfL, List.cons_append, List.nil_append, List.length_cons, List.length_nil, Nat.reduceAdd]
  repeat (first | simp only [c17d_P, c17d_odd, c17d_ro, Nat.reduceBEq, reduceIte, Nat.reduceEqDiff, reduceCtorEq, ne_eq, if_true, if_false, exA, exA, tabs, exB, exD, buildA, rowOr, rowSetAt, rowAgg, mkAgg, AV.isAggV, AV.parts, AV.one, AV.solid, headSize, indexAddrA, indexA, fieldAddrA, fieldA, sliceA, boundsA, bndA, lenA, arrayAtA, rowOf, makeSliceA, intsOf, copyA, Nat.reduceAdd, Nat.reduceSub, Nat.reduceMul, Nat.reduceLeDiff, Nat.reduceLT, Nat.reduceGT, Int.reduceToNat, Int.reduceLE, Int.reduceLT, Int.reduceEq, Int.reduceNe, Int.reduceAdd, Int.reduceSub, Int.reduceMul, Int.reduceNeg, ite_true, ite_false, dite_true, xc1, xc2, xc3, xc4, xc5, xc6, xc7, xc8, xc9, xc10, xc11, xc12, xc13, xc14, xc15, xc16, xc17, xc17d, hr, k] | simp (maxSteps := 1000000) (disch := omega) only [exE, Int.toNat_natCast, Int.reduceToNat])
  refine callX (C := c17d 7) (xflush_spec x) [_, _, _] [_] (fun _ => rfl) rfl ?_
  rintro v h' ⟨rfl, rfl⟩
  refine ⟨x, [], (List.append_nil _).symm, ?_⟩
  simp only [AV.ren, renL, List.map_nil, List.append_nil, rats, List.cons_append, List.nil_append, List.length_cons, List.length_nil, Nat.reduceAdd]
  repeat (first | simp only [c17d_P, c17d_odd, c17d_ro, Nat.reduceBEq, reduceIte, Nat.reduceEqDiff, reduceCtorEq, ne_eq, if_true, if_false, exA, exA, tabs, exB, exD, buildA, rowOr, rowSetAt, rowAgg, mkAgg, AV.isAggV, AV.parts, AV.one, AV.solid, headSize, indexAddrA, indexA, fieldAddrA, fieldA, sliceA, boundsA, bndA, lenA, arrayAtA, rowOf, makeSliceA, intsOf, copyA, Nat.reduceAdd, Nat.reduceSub, Nat.reduceMul, Nat.reduceLeDiff, Nat.reduceLT, Nat.reduceGT, Int.reduceToNat, Int.reduceLE, Int.reduceLT, Int.reduceEq, Int.reduceNe, Int.reduceAdd, Int.reduceSub, Int.reduceMul, Int.reduceNeg, ite_true, ite_false, dite_true, xc1, xc2, xc3, xc4, xc5, xc6, xc7, xc8, xc9, xc10, xc11, xc12, xc13, xc14, xc15, xc16, xc17, xc17d, hr, k, he] | simp (maxSteps := 1000000) (disch := omega) only [exE, Int.toNat_natCast, Int.reduceToNat])
  exact doesQ_of h rfl
end Go.Proofs.Ytgkhngcnbddoiaa

namespace Go.Proofs.Ytgkhngcnbddoiaa
open Go.Ax
theorem fx4 (a b c d n : Nat) : frameMap [a, b, c, d] n 4 = n := rfl
theorem fx5 (a b c d n : Nat) : frameMap [a, b, c, d] n 5 = n + 1 := rfl
theorem fx6 (a b c d n : Nat) : frameMap [a, b, c, d] n 6 = n + 2 := rfl
theorem strOf_take (s : ByteArray) : (Ax.strOf s).take s.size = Ax.strOf s := List.take_of_length_le (by simp [Ax.strOf])
theorem str_beq (s : ByteArray) : (s.toList == s.toList) = true := by simp
theorem does14 (m : Ms) (x : Rs) (o : OpV) (h : Sim m x) (ho : OpB o) (k : o.kd = 14) : ACall Try.prog 22 [.ptr 0 0 0, .ptr 3 0 0, .agg (opL o)] (mats m 0 ++ rats x 3) DoesQ := by
  have hob := ho.1
  obtain ⟨he, hs⟩ := sim_write h o.n o.b
  have he := ieq he
  have hL : (x.L.length : Int) = x.H.sec := by rw [h.H]; exact h.Ll
  have hW : (x.W.length : Int) = x.H.sec := by rw [h.H]; exact h.Wl
  unfold opL mats mfL rats
  refine acall_run (good17d 7) Try.func22 rfl ⟨by kernel_rfl, by show 3 ≤ _; decide, by kernel_rfl, by kernel_rfl⟩ rfl ?_; have hr : Try.f22.results.toList = [.tmp 6] := rfl
  repeat (first | simp only [c17d_P, c17d_odd, c17d_ro, Nat.reduceBEq, reduceIte, Nat.reduceEqDiff, reduceCtorEq, ne_eq, if_true, if_false, exA, exA, tabs, exB, exD, buildA, rowOr, rowSetAt, rowAgg, mkAgg, AV.isAggV, AV.parts, AV.one, AV.solid, headSize, indexAddrA, indexA, fieldAddrA, fieldA, sliceA, boundsA, bndA, lenA, arrayAtA, rowOf, makeSliceA, intsOf, copyA, Nat.reduceAdd, Nat.reduceSub, Nat.reduceMul, Nat.reduceLeDiff, Nat.reduceLT, Nat.reduceGT, Int.reduceToNat, Int.reduceLE, Int.reduceLT, Int.reduceEq, Int.reduceNe, Int.reduceAdd, Int.reduceSub, Int.reduceMul, Int.reduceNeg, ite_true, ite_false, dite_true, xc1, xc2, xc3, xc4, xc5, xc6, xc7, xc8, xc9, xc10, xc11, xc12, xc13, xc14, xc15, xc16, xc17, xc17d, hr, k, hob] | simp (maxSteps := 1000000) (disch := omega) only [exE, Int.toNat_natCast, Int.reduceToNat])
  refine oddR_of (good17d 7) (.first 0 (.first 1 (.first 2 (.first 3 (.first 4 (.first 6 (.first 7 (.first 9 (.fork 5 (.first 8 (.first 10 (.fork 11 (.first 12 (.first 13 .done)) .stop))) (.fork 8 (.fork 5 (.first 10 (.fork 11 (.first 12 (.first 13 .done)) .stop)) (.fork 10 (.fork 5 (.fork 11 (.first 12 (.first 13 .done)) .stop) .stop) .stop)) (.fork 10 (.fork 5 (.first 8 (.fork 11 (.first 12 (.first 13 .done)) .stop)) (.fork 8 (.fork 5 (.fork 11 (.first 12 (.first 13 .done)) .stop) .stop) .stop)) .stop))))))))))) (by kernel_rfl) ?_
  repeat (first | simp only [c17d_P, c17d_odd, c17d_ro, Nat.reduceBEq, reduceIte, Nat.reduceEqDiff, reduceCtorEq, ne_eq, if_true, if_false, exA, exA, tabs, exB, exD, buildA, rowOr, rowSetAt, rowAgg, mkAgg, AV.isAggV, AV.parts, AV.one, AV.solid, headSize, indexAddrA, indexA, fieldAddrA, fieldA, sliceA, boundsA, bndA, lenA, arrayAtA, rowOf, makeSliceA, intsOf, copyA, Nat.reduceAdd, Nat.reduceSub, Nat.reduceMul, Nat.reduceLeDiff, Nat.reduceLT, Nat.reduceGT, Int.reduceToNat, Int.reduceLE, Int.reduceLT, Int.reduceEq, Int.reduceNe, Int.reduceAdd, Int.reduceSub, Int.reduceMul, Int.reduceNeg, ite_true, ite_false, dite_true, xc1, xc2, xc3, xc4, xc5, xc6, xc7, xc8, xc9, xc10, xc11, xc12, xc13, xc14, xc15, xc16, xc17, xc17d, hr, k, hob] | simp (maxSteps := 1000000) (disch := omega) only [exE, Int.toNat_natCast, Int.reduceToNat])
  repeat' (first | exact trivial | with_reducible refine And.intro ?_ ?_)
  all_goals
    refine callM (C := c17d 7) (write_spec m o.n o.b hob) [] [_, _, _, _, _] (fun _ => rfl) rfl ?_
    rintro v h' ⟨rfl, rfl⟩
    refine ⟨(mWrite m o.n o.b).2, [], (List.append_nil _).symm, ?_⟩
    simp only [AV.ren, renL, List.map_nil, List.append_nil, mats, mfL, rats, List.cons_append, List.nil_append, List.length_cons, List.length_nil, Nat.reduceAdd]
    repeat (first | simp only [c17d_P, c17d_odd, c17d_ro, Nat.reduceBEq, reduceIte, Nat.reduceEqDiff, reduceCtorEq, ne_eq, if_true, if_false, exA, exA, tabs, exB, exD, buildA, rowOr, rowSetAt, rowAgg, mkAgg, AV.isAggV, AV.parts, AV.one, AV.solid, headSize, indexAddrA, indexA, fieldAddrA, fieldA, sliceA, boundsA, bndA, lenA, arrayAtA, rowOf, makeSliceA, intsOf, copyA, Nat.reduceAdd, Nat.reduceSub, Nat.reduceMul, Nat.reduceLeDiff, Nat.reduceLT, Nat.reduceGT, Int.reduceToNat, Int.reduceLE, Int.reduceLT, Int.reduceEq, Int.reduceNe, Int.reduceAdd, Int.reduceSub, Int.reduceMul, Int.reduceNeg, ite_true, ite_false, dite_true, xc1, xc2, xc3, xc4, xc5, xc6, xc7, xc8, xc9, xc10, xc11, xc12, xc13, xc14, xc15, xc16, xc17, xc17d, hr, k] | simp (maxSteps := 1000000) (disch := omega) only [exE, Int.toNat_natCast, Int.reduceToNat])
    refine callX (C := c17d 7) (xwrite_spec x o.n o.b hL hW) [_, _, _] [_] (fun _ => rfl) rfl ?_
    rintro v h' ⟨rfl, ext, rfl⟩
    refine ⟨(xWrite x o.n o.b).2, ext, rfl, ?_⟩
    simp only [AV.ren, renL, List.map_nil, List.append_nil, mats, mfL, rats, List.cons_append, List.nil_append, List.length_cons, List.length_nil, Nat.reduceAdd]
    repeat (first | simp only [c17d_P, c17d_odd, c17d_ro, Nat.reduceBEq, reduceIte, Nat.reduceEqDiff, reduceCtorEq, ne_eq, if_true, if_false, exA, exA, tabs, exB, exD, buildA, rowOr, rowSetAt, rowAgg, mkAgg, AV.isAggV, AV.parts, AV.one, AV.solid, headSize, indexAddrA, indexA, fieldAddrA, fieldA, sliceA, boundsA, bndA, lenA, arrayAtA, rowOf, makeSliceA, intsOf, copyA, Nat.reduceAdd, Nat.reduceSub, Nat.reduceMul, Nat.reduceLeDiff, Nat.reduceLT, Nat.reduceGT, Int.reduceToNat, Int.reduceLE, Int.reduceLT, Int.reduceEq, Int.reduceNe, Int.reduceAdd, Int.reduceSub, Int.reduceMul, Int.reduceNeg, ite_true, ite_false, dite_true, xc1, xc2, xc3, xc4, xc5, xc6, xc7, xc8, xc9, xc10, xc11, xc12, xc13, xc14, xc15, xc16, xc17, xc17d, hr, k, he] | simp (maxSteps := 1000000) (disch := omega) only [exE, Int.toNat_natCast, Int.reduceToNat])
    exact doesQ_of hs rfl
theorem does2 (m : Ms) (x : Rs) (o : OpV) (h : Sim m x) (ho : OpB o) (k : o.kd = 2) : ACall Try.prog 22 [.ptr 0 0 0, .ptr 3 0 0, .agg (opL o)] (mats m 0 ++ rats x 3) DoesQ := by
  have hob := ho.1
  have hL : (x.L.length : Int) = x.H.sec := by rw [h.H]; exact h.Ll
  have hS : ∀ b, aget m.S o.n = some b → b.length = 512 := by
    intro b hb
    have hk : o.n ∈ aK m.S := aget_mem.1 (by rw [hb]; rfl)
    have hr := h.rS _ hk
    have hs := h.sec o.n.toNat (by omega)
    unfold secR at hs
    rw [show ((o.n.toNat : Nat) : Int) = o.n by omega, hb] at hs
    exact hs.1
  have hmx := sim_may h o.n
  have hz5 : (List.replicate 512 (0 : Int)).take 512 = List.replicate 512 0 := List.take_of_length_le (by simp)
  have ee : (mayE (mfO m) o.n == mayE (mfO m) o.n) = true := ieq rfl
  unfold opL mats mfL rats
  refine acall_run (good17d 7) Try.func22 rfl ⟨by kernel_rfl, by show 3 ≤ _; decide, by kernel_rfl, by kernel_rfl⟩ rfl ?_; have hr : Try.f22.results.toList = [.tmp 6] := rfl
  repeat (first | simp only [c17d_P, c17d_odd, c17d_ro, Nat.reduceBEq, reduceIte, Nat.reduceEqDiff, reduceCtorEq, ne_eq, if_true, if_false, exA, exA, tabs, exB, exD, buildA, rowOr, rowSetAt, rowAgg, mkAgg, AV.isAggV, AV.parts, AV.one, AV.solid, headSize, indexAddrA, indexA, fieldAddrA, fieldA, sliceA, boundsA, bndA, lenA, arrayAtA, rowOf, makeSliceA, intsOf, copyA, Nat.reduceAdd, Nat.reduceSub, Nat.reduceMul, Nat.reduceLeDiff, Nat.reduceLT, Nat.reduceGT, Int.reduceToNat, Int.reduceLE, Int.reduceLT, Int.reduceEq, Int.reduceNe, Int.reduceAdd, Int.reduceSub, Int.reduceMul, Int.reduceNeg, ite_true, ite_false, dite_true, xc1, xc2, xc3, xc4, xc5, xc6, xc7, xc8, xc9, xc10, xc11, xc12, xc13, xc14, xc15, xc16, xc17, xc17d, hr, k, hob] | simp (maxSteps := 1000000) (disch := omega) only [exE, Int.toNat_natCast, Int.reduceToNat])
  refine callM (C := c17d 7) (read_spec m o.n hS) [] [_, _, _, _, _] (fun _ => rfl) rfl ?_
  rintro v h' (⟨h1, rfl, rfl⟩ | ⟨h1, b, hb, rfl, rfl⟩ | ⟨h1, hb, rfl, rfl⟩)
  · refine ⟨m, [], (List.append_nil _).symm, ?_⟩
    simp only [AV.ren, renL, List.map_cons, List.map_nil, List.append_nil, mats, mfL, rats, List.cons_append, List.nil_append, List.length_cons, List.length_nil, Nat.reduceAdd, renB, Option.map_some, renL_roB, renL_strV, renL_bl, renL_vs, renL_pr, fm3, fm4, fm5, fx4, fx5, fx6]
    repeat (first | simp only [c17d_P, c17d_odd, c17d_ro, Nat.reduceBEq, reduceIte, Nat.reduceEqDiff, reduceCtorEq, ne_eq, if_true, if_false, exA, exA, tabs, exB, exD, buildA, rowOr, rowSetAt, rowAgg, mkAgg, AV.isAggV, AV.parts, AV.one, AV.solid, headSize, indexAddrA, indexA, fieldAddrA, fieldA, sliceA, boundsA, bndA, lenA, arrayAtA, rowOf, makeSliceA, intsOf, copyA, Nat.reduceAdd, Nat.reduceSub, Nat.reduceMul, Nat.reduceLeDiff, Nat.reduceLT, Nat.reduceGT, Int.reduceToNat, Int.reduceLE, Int.reduceLT, Int.reduceEq, Int.reduceNe, Int.reduceAdd, Int.reduceSub, Int.reduceMul, Int.reduceNeg, ite_true, ite_false, dite_true, xc1, xc2, xc3, xc4, xc5, xc6, xc7, xc8, xc9, xc10, xc11, xc12, xc13, xc14, xc15, xc16, xc17, xc17d, hr, k] | simp (maxSteps := 1000000) (disch := omega) only [exE, Int.toNat_natCast, Int.reduceToNat])
    refine callX (C := c17d 7) (xread_bad x o.n (by rw [hmx]; exact h1)) [_, _, _] [_] (fun _ => rfl) rfl ?_
    rintro v h' ⟨rfl, rfl⟩
    refine ⟨x, [], (List.append_nil _).symm, ?_⟩
    simp only [AV.ren, renL, List.map_nil, List.append_nil, mats, mfL, rats, List.cons_append, List.nil_append, List.length_cons, List.length_nil, Nat.reduceAdd]
    repeat (first | simp only [c17d_P, c17d_odd, c17d_ro, Nat.reduceBEq, reduceIte, Nat.reduceEqDiff, reduceCtorEq, ne_eq, if_true, if_false, exA, exA, tabs, exB, exD, buildA, rowOr, rowSetAt, rowAgg, mkAgg, AV.isAggV, AV.parts, AV.one, AV.solid, headSize, indexAddrA, indexA, fieldAddrA, fieldA, sliceA, boundsA, bndA, lenA, arrayAtA, rowOf, makeSliceA, intsOf, copyA, Nat.reduceAdd, Nat.reduceSub, Nat.reduceMul, Nat.reduceLeDiff, Nat.reduceLT, Nat.reduceGT, Int.reduceToNat, Int.reduceLE, Int.reduceLT, Int.reduceEq, Int.reduceNe, Int.reduceAdd, Int.reduceSub, Int.reduceMul, Int.reduceNeg, ite_true, ite_false, dite_true, xc1, xc2, xc3, xc4, xc5, xc6, xc7, xc8, xc9, xc10, xc11, xc12, xc13, xc14, xc15, xc16, xc17, xc17d, hr, k, hmx, ee] | simp (maxSteps := 1000000) (disch := omega) only [exE, Int.toNat_natCast, Int.reduceToNat])
    exact doesQ_of h rfl
  · obtain ⟨_, h2, h3⟩ := mayE_0 h1
    have h3 : o.n < m.H.sec := h3
    obtain ⟨i, hi⟩ : ∃ i : Nat, o.n = i := ⟨o.n.toNat, by omega⟩
    rw [hi] at hb h1 hmx h3
    have hs := h.sec i h3
    unfold secR at hs
    rw [hb] at hs
    refine ⟨m, [], (List.append_nil _).symm, ?_⟩
    simp only [AV.ren, renL, List.map_cons, List.map_nil, List.append_nil, mats, mfL, rats, List.cons_append, List.nil_append, List.length_cons, List.length_nil, Nat.reduceAdd, renB, Option.map_some, renL_roB, renL_strV, renL_bl, renL_vs, renL_pr, fm3, fm4, fm5, fx4, fx5, fx6]
    repeat (first | simp only [c17d_P, c17d_odd, c17d_ro, Nat.reduceBEq, reduceIte, Nat.reduceEqDiff, reduceCtorEq, ne_eq, if_true, if_false, exA, exA, tabs, exB, exD, buildA, rowOr, rowSetAt, rowAgg, mkAgg, AV.isAggV, AV.parts, AV.one, AV.solid, headSize, indexAddrA, indexA, fieldAddrA, fieldA, sliceA, boundsA, bndA, lenA, arrayAtA, rowOf, makeSliceA, intsOf, copyA, Nat.reduceAdd, Nat.reduceSub, Nat.reduceMul, Nat.reduceLeDiff, Nat.reduceLT, Nat.reduceGT, Int.reduceToNat, Int.reduceLE, Int.reduceLT, Int.reduceEq, Int.reduceNe, Int.reduceAdd, Int.reduceSub, Int.reduceMul, Int.reduceNeg, ite_true, ite_false, dite_true, xc1, xc2, xc3, xc4, xc5, xc6, xc7, xc8, xc9, xc10, xc11, xc12, xc13, xc14, xc15, xc16, xc17, xc17d, hr, k, hi] | simp (maxSteps := 1000000) (disch := omega) only [exE, Int.toNat_natCast, Int.reduceToNat])
    refine callX (C := c17d 7) (xread_ok x i (by rw [hmx]; exact h1) hL) [_, _, _] [_] (fun _ => rfl) rfl ?_
    rintro v h' ⟨c, rfl, rfl⟩
    refine ⟨x, _, rfl, ?_⟩
    simp only [AV.ren, renL, List.map_cons, List.map_nil, List.append_nil, mats, mfL, rats, List.cons_append, List.nil_append, List.length_cons, List.length_nil, Nat.reduceAdd, renB, Option.map_some, renL_roB, renL_strV, renL_bl, renL_vs, renL_pr, fm3, fm4, fm5, fx4, fx5, fx6]
    rw [hs.2.2]
    repeat (first | simp only [c17d_P, c17d_odd, c17d_ro, Nat.reduceBEq, reduceIte, Nat.reduceEqDiff, reduceCtorEq, ne_eq, if_true, if_false, exA, exA, tabs, exB, exD, buildA, rowOr, rowSetAt, rowAgg, mkAgg, AV.isAggV, AV.parts, AV.one, AV.solid, headSize, indexAddrA, indexA, fieldAddrA, fieldA, sliceA, boundsA, bndA, lenA, arrayAtA, rowOf, makeSliceA, intsOf, copyA, Nat.reduceAdd, Nat.reduceSub, Nat.reduceMul, Nat.reduceLeDiff, Nat.reduceLT, Nat.reduceGT, Int.reduceToNat, Int.reduceLE, Int.reduceLT, Int.reduceEq, Int.reduceNe, Int.reduceAdd, Int.reduceSub, Int.reduceMul, Int.reduceNeg, ite_true, ite_false, dite_true, xc1, xc2, xc3, xc4, xc5, xc6, xc7, xc8, xc9, xc10, xc11, xc12, xc13, xc14, xc15, xc16, xc17, xc17d, hr, k, hi, strOf_take, bytesOf_str, str_beq] | simp (maxSteps := 1000000) (disch := omega) only [exE, Int.toNat_natCast, Int.reduceToNat])
    exact doesQ_of h rfl
  · obtain ⟨_, h2, h3⟩ := mayE_0 h1
    have h3 : o.n < m.H.sec := h3
    obtain ⟨i, hi⟩ : ∃ i : Nat, o.n = i := ⟨o.n.toNat, by omega⟩
    rw [hi] at hb h1 hmx h3
    have hs := h.sec i h3
    unfold secR at hs
    rw [hb] at hs
    refine ⟨m, _, rfl, ?_⟩
    simp only [AV.ren, renL, List.map_cons, List.map_nil, List.append_nil, mats, mfL, rats, List.cons_append, List.nil_append, List.length_cons, List.length_nil, Nat.reduceAdd, renB, Option.map_some, renL_roB, renL_strV, renL_bl, renL_vs, renL_pr, fm3, fm4, fm5, fx4, fx5, fx6]
    repeat (first | simp only [c17d_P, c17d_odd, c17d_ro, Nat.reduceBEq, reduceIte, Nat.reduceEqDiff, reduceCtorEq, ne_eq, if_true, if_false, exA, exA, tabs, exB, exD, buildA, rowOr, rowSetAt, rowAgg, mkAgg, AV.isAggV, AV.parts, AV.one, AV.solid, headSize, indexAddrA, indexA, fieldAddrA, fieldA, sliceA, boundsA, bndA, lenA, arrayAtA, rowOf, makeSliceA, intsOf, copyA, Nat.reduceAdd, Nat.reduceSub, Nat.reduceMul, Nat.reduceLeDiff, Nat.reduceLT, Nat.reduceGT, Int.reduceToNat, Int.reduceLE, Int.reduceLT, Int.reduceEq, Int.reduceNe, Int.reduceAdd, Int.reduceSub, Int.reduceMul, Int.reduceNeg, ite_true, ite_false, dite_true, xc1, xc2, xc3, xc4, xc5, xc6, xc7, xc8, xc9, xc10, xc11, xc12, xc13, xc14, xc15, xc16, xc17, xc17d, hr, k, hi] | simp (maxSteps := 1000000) (disch := omega) only [exE, Int.toNat_natCast, Int.reduceToNat])
    refine callX (C := c17d 7) (xread_ok x i (by rw [hmx]; exact h1) hL) [_, _, _] [_, _] (fun _ => rfl) rfl ?_
    rintro v h' ⟨c, rfl, rfl⟩
    refine ⟨x, _, rfl, ?_⟩
    simp only [AV.ren, renL, List.map_cons, List.map_nil, List.append_nil, mats, mfL, rats, List.cons_append, List.nil_append, List.length_cons, List.length_nil, Nat.reduceAdd, renB, Option.map_some, renL_roB, renL_strV, renL_bl, renL_vs, renL_pr, fm3, fm4, fm5, fx4, fx5, fx6]
    rw [hs.2]
    repeat (first | simp only [c17d_P, c17d_odd, c17d_ro, Nat.reduceBEq, reduceIte, Nat.reduceEqDiff, reduceCtorEq, ne_eq, if_true, if_false, exA, exA, tabs, exB, exD, buildA, rowOr, rowSetAt, rowAgg, mkAgg, AV.isAggV, AV.parts, AV.one, AV.solid, headSize, indexAddrA, indexA, fieldAddrA, fieldA, sliceA, boundsA, bndA, lenA, arrayAtA, rowOf, makeSliceA, intsOf, copyA, Nat.reduceAdd, Nat.reduceSub, Nat.reduceMul, Nat.reduceLeDiff, Nat.reduceLT, Nat.reduceGT, Int.reduceToNat, Int.reduceLE, Int.reduceLT, Int.reduceEq, Int.reduceNe, Int.reduceAdd, Int.reduceSub, Int.reduceMul, Int.reduceNeg, ite_true, ite_false, dite_true, xc1, xc2, xc3, xc4, xc5, xc6, xc7, xc8, xc9, xc10, xc11, xc12, xc13, xc14, xc15, xc16, xc17, xc17d, hr, k, hi, strOf_take, bytesOf_str, hz5, show bytesOf (List.replicate 512 0) = z512 from rfl, str_beq] | simp (maxSteps := 1000000) (disch := omega) only [exE, Int.toNat_natCast, Int.reduceToNat])
    exact doesQ_of h rfl
theorem info_closed1 (m : Ms) (h : m.op = false) : ACall Try.prog 17 [.ptr 0 0 0] (mblk m) fun v h' => v = .tup [.agg zeroI, .v (.int .i64 6)] ∧ ∃ a, h' = mblk m ++ [a] := by
  have hz : (List.replicate 16 (0 : Int)).take 16 = List.replicate 16 0 := rfl
  unfold mblk mfL zeroI
  refine acall_run (good14 3) Try.func17 rfl ⟨by kernel_rfl, by show 1 ≤ _; decide, by kernel_rfl, by kernel_rfl⟩ rfl ?_; have hr : Try.f17.results.toList = [.cell 2 49, .tmp 3] := rfl; repeat (first | simp only [c14_P, c14_odd, c14_ro, Nat.reduceBEq, reduceIte, Nat.reduceEqDiff, reduceCtorEq, ne_eq, if_true, if_false, exA, exA, tabs, exB, exD, buildA, rowOr, rowSetAt, rowAgg, mkAgg, AV.isAggV, AV.parts, AV.one, AV.solid, headSize, indexAddrA, indexA, fieldAddrA, fieldA, sliceA, boundsA, bndA, lenA, arrayAtA, rowOf, makeSliceA, intsOf, copyA, Nat.reduceAdd, Nat.reduceSub, Nat.reduceMul, Nat.reduceLeDiff, Nat.reduceLT, Nat.reduceGT, Int.reduceToNat, Int.reduceLE, Int.reduceLT, Int.reduceEq, Int.reduceNe, Int.reduceAdd, Int.reduceSub, Int.reduceMul, Int.reduceNeg, ite_true, ite_false, dite_true, xc1, xc2, xc3, xc4, xc5, xc6, xc7, xc8, xc9, xc10, xc11, xc12, xc13, xc14, hr, h, hz] | simp (maxSteps := 1000000) (disch := omega) only [exE, Int.toNat_natCast, Int.reduceToNat])
  exact ⟨_, rfl⟩
theorem xinfo_closed1 (x : Rs) (h : x.op = false) : ACall Try.prog 49 [.ptr 0 0 0] (rblk x) fun v h' => v = .tup [.agg zeroI, .v (.int .i64 6)] ∧ ∃ a, h' = rblk x ++ [a] := by
  have hz : (List.replicate 16 (0 : Int)).take 16 = List.replicate 16 0 := rfl
  unfold rblk rfL zeroI
  refine acall_run (good17 4) Try.func49 rfl ⟨by kernel_rfl, by show 1 ≤ _; decide, by kernel_rfl, by kernel_rfl⟩ rfl ?_; have hr : Try.f49.results.toList = [.cell 2 49, .tmp 3] := rfl; repeat (first | simp only [c17_P, c17_odd, c17_ro, Nat.reduceBEq, reduceIte, Nat.reduceEqDiff, reduceCtorEq, ne_eq, if_true, if_false, exA, exA, tabs, exB, exD, buildA, rowOr, rowSetAt, rowAgg, mkAgg, AV.isAggV, AV.parts, AV.one, AV.solid, headSize, indexAddrA, indexA, fieldAddrA, fieldA, sliceA, boundsA, bndA, lenA, arrayAtA, rowOf, makeSliceA, intsOf, copyA, Nat.reduceAdd, Nat.reduceSub, Nat.reduceMul, Nat.reduceLeDiff, Nat.reduceLT, Nat.reduceGT, Int.reduceToNat, Int.reduceLE, Int.reduceLT, Int.reduceEq, Int.reduceNe, Int.reduceAdd, Int.reduceSub, Int.reduceMul, Int.reduceNeg, ite_true, ite_false, dite_true, xc1, xc2, xc3, xc4, xc5, xc6, xc7, xc8, xc9, xc10, xc11, xc12, xc13, xc14, xc15, xc16, xc17, hr, h, hz] | simp (maxSteps := 1000000) (disch := omega) only [exE, Int.toNat_natCast, Int.reduceToNat])
  exact ⟨_, rfl⟩
theorem doesI (m : Ms) (x : Rs) (o : OpV) (h : Sim m x) (ho : OpB o) (k1 : (o.kd == 1) = false) (k2 : (o.kd == 2) = false) (k3 : (o.kd == 3) = false) (k4 : (o.kd == 4) = false) (k5 : (o.kd == 5) = false) (k6 : (o.kd == 6) = false) (k7 : (o.kd == 7) = false) (k9 : (o.kd == 9) = false) (k10 : (o.kd == 10) = false) (k14 : (o.kd == 14) = false) : ACall Try.prog 22 [.ptr 0 0 0, .ptr 3 0 0, .agg (opL o)] (mats m 0 ++ rats x 3) DoesQ := by
  have hob := ho.1
  have hk := okH_iff.1 h.ok
  have hg : 0 ≤ m.H.gen := by omega
  have hts := sim_takes h
  have hpl : x.P.length = m.H.slo.toNat := by have := h.Pl; omega
  have hn2 : m.H.nam.take 16 = m.H.nam := List.take_of_length_le (by rw [h.nam]; exact Nat.le_refl _)
  have hz : (List.replicate 16 (0 : Int)).take 16 = List.replicate 16 0 := rfl
  obtain ⟨xH, xL, xW, xP, xep, xR, xop, xsl, xc⟩ := x
  obtain rfl : xH = m.H := h.H
  obtain rfl : xep = m.ep := h.ep
  obtain rfl : xR = m.R := h.R
  obtain rfl : xop = m.op := h.op
  obtain rfl : xsl = m.sl := h.sl
  simp only at hts hpl
  unfold opL mats mfL rats
  refine acall_run (good17d 7) Try.func22 rfl ⟨by kernel_rfl, by show 3 ≤ _; decide, by kernel_rfl, by kernel_rfl⟩ rfl ?_; have hr : Try.f22.results.toList = [.tmp 6] := rfl
  repeat (first | simp only [c17d_P, c17d_odd, c17d_ro, Nat.reduceBEq, reduceIte, Nat.reduceEqDiff, reduceCtorEq, ne_eq, if_true, if_false, exA, exA, tabs, exB, exD, buildA, rowOr, rowSetAt, rowAgg, mkAgg, AV.isAggV, AV.parts, AV.one, AV.solid, headSize, indexAddrA, indexA, fieldAddrA, fieldA, sliceA, boundsA, bndA, lenA, arrayAtA, rowOf, makeSliceA, intsOf, copyA, Nat.reduceAdd, Nat.reduceSub, Nat.reduceMul, Nat.reduceLeDiff, Nat.reduceLT, Nat.reduceGT, Int.reduceToNat, Int.reduceLE, Int.reduceLT, Int.reduceEq, Int.reduceNe, Int.reduceAdd, Int.reduceSub, Int.reduceMul, Int.reduceNeg, ite_true, ite_false, dite_true, xc1, xc2, xc3, xc4, xc5, xc6, xc7, xc8, xc9, xc10, xc11, xc12, xc13, xc14, xc15, xc16, xc17, xc17d, hr, k1, k2, k3, k4, k5, k6, k7, k9, k10, k14, hob] | simp (maxSteps := 1000000) (disch := omega) only [exE, Int.toNat_natCast, Int.reduceToNat])
  cases hop : m.op
  · refine callM (C := c17d 7) (info_closed1 m hop) [] [_, _, _, _, _] (fun _ => rfl) (by first | rfl | (simp only [← hop]; rfl)) ?_
    rintro v h' ⟨rfl, a, rfl⟩
    refine ⟨m, _, rfl, ?_⟩
    unfold zeroI
    simp only [AV.ren, renL, List.map_cons, List.map_nil, List.append_nil, mats, mfL, rats, List.cons_append, List.nil_append, List.length_cons, List.length_nil, Nat.reduceAdd, renB, Option.map_some, renL_roB, renL_strV, renL_bl, renL_vs, renL_pr, fm3, fm4, fm5, fx4, fx5, fx6]
    repeat (first | simp only [c17d_P, c17d_odd, c17d_ro, Nat.reduceBEq, reduceIte, Nat.reduceEqDiff, reduceCtorEq, ne_eq, if_true, if_false, exA, exA, tabs, exB, exD, buildA, rowOr, rowSetAt, rowAgg, mkAgg, AV.isAggV, AV.parts, AV.one, AV.solid, headSize, indexAddrA, indexA, fieldAddrA, fieldA, sliceA, boundsA, bndA, lenA, arrayAtA, rowOf, makeSliceA, intsOf, copyA, Nat.reduceAdd, Nat.reduceSub, Nat.reduceMul, Nat.reduceLeDiff, Nat.reduceLT, Nat.reduceGT, Int.reduceToNat, Int.reduceLE, Int.reduceLT, Int.reduceEq, Int.reduceNe, Int.reduceAdd, Int.reduceSub, Int.reduceMul, Int.reduceNeg, ite_true, ite_false, dite_true, xc1, xc2, xc3, xc4, xc5, xc6, xc7, xc8, xc9, xc10, xc11, xc12, xc13, xc14, xc15, xc16, xc17, xc17d, hr, hn2, hz] | simp (maxSteps := 1000000) (disch := omega) only [exE, Int.toNat_natCast, Int.reduceToNat])
    refine callX (C := c17d 7) (xinfo_closed1 ⟨m.H, xL, xW, xP, m.ep, m.R, m.op, m.sl, xc⟩ hop) [_, _, _] [_, _, _] (fun _ => rfl) (by first | rfl | (simp only [← hop]; rfl)) ?_
    rintro v h' ⟨rfl, b, rfl⟩
    refine ⟨⟨m.H, xL, xW, xP, m.ep, m.R, m.op, m.sl, xc⟩, _, rfl, ?_⟩
    unfold zeroI
    simp only [AV.ren, renL, List.map_cons, List.map_nil, List.append_nil, mats, mfL, rats, List.cons_append, List.nil_append, List.length_cons, List.length_nil, Nat.reduceAdd, renB, Option.map_some, renL_roB, renL_strV, renL_bl, renL_vs, renL_pr, fm3, fm4, fm5, fx4, fx5, fx6]
    repeat (first | simp only [c17d_P, c17d_odd, c17d_ro, Nat.reduceBEq, reduceIte, Nat.reduceEqDiff, reduceCtorEq, ne_eq, if_true, if_false, exA, exA, tabs, exB, exD, buildA, rowOr, rowSetAt, rowAgg, mkAgg, AV.isAggV, AV.parts, AV.one, AV.solid, headSize, indexAddrA, indexA, fieldAddrA, fieldA, sliceA, boundsA, bndA, lenA, arrayAtA, rowOf, makeSliceA, intsOf, copyA, Nat.reduceAdd, Nat.reduceSub, Nat.reduceMul, Nat.reduceLeDiff, Nat.reduceLT, Nat.reduceGT, Int.reduceToNat, Int.reduceLE, Int.reduceLT, Int.reduceEq, Int.reduceNe, Int.reduceAdd, Int.reduceSub, Int.reduceMul, Int.reduceNeg, ite_true, ite_false, dite_true, xc1, xc2, xc3, xc4, xc5, xc6, xc7, xc8, xc9, xc10, xc11, xc12, xc13, xc14, xc15, xc16, xc17, xc17d, hr, hn2, hz] | simp (maxSteps := 1000000) (disch := omega) only [exE, Int.toNat_natCast, Int.reduceToNat])
    refine callC_of (C := c17d 7) (drop_ok same_none (fun g => rfl) (κ := fun v h' => v = .v (.bool true) ∧ h' = _) ⟨rfl, rfl⟩) ?_
    rintro v h' ⟨rfl, rfl⟩
    repeat (first | simp only [c17d_P, c17d_odd, c17d_ro, Nat.reduceBEq, reduceIte, Nat.reduceEqDiff, reduceCtorEq, ne_eq, if_true, if_false, exA, exA, tabs, exB, exD, buildA, rowOr, rowSetAt, rowAgg, mkAgg, AV.isAggV, AV.parts, AV.one, AV.solid, headSize, indexAddrA, indexA, fieldAddrA, fieldA, sliceA, boundsA, bndA, lenA, arrayAtA, rowOf, makeSliceA, intsOf, copyA, Nat.reduceAdd, Nat.reduceSub, Nat.reduceMul, Nat.reduceLeDiff, Nat.reduceLT, Nat.reduceGT, Int.reduceToNat, Int.reduceLE, Int.reduceLT, Int.reduceEq, Int.reduceNe, Int.reduceAdd, Int.reduceSub, Int.reduceMul, Int.reduceNeg, ite_true, ite_false, dite_true, xc1, xc2, xc3, xc4, xc5, xc6, xc7, xc8, xc9, xc10, xc11, xc12, xc13, xc14, xc15, xc16, xc17, xc17d, hr] | simp (maxSteps := 1000000) (disch := omega) only [exE, Int.toNat_natCast, Int.reduceToNat])
    exact doesQ_of h rfl
  · refine callM (C := c17d 7) (info_open m hop h.may hg h.nam h.tre) [] [_, _, _, _, _] (fun _ => rfl) (by first | rfl | (simp only [← hop]; rfl)) ?_
    rintro v h' ⟨ca, xa, ya, rfl, rfl⟩
    refine ⟨m, _, rfl, ?_⟩
    simp only [AV.ren, renL, List.map_cons, List.map_nil, List.append_nil, mats, mfL, rats, List.cons_append, List.nil_append, List.length_cons, List.length_nil, Nat.reduceAdd, renB, Option.map_some, renL_roB, renL_strV, renL_bl, renL_vs, renL_pr, fm3, fm4, fm5, fx4, fx5, fx6]
    repeat (first | simp only [c17d_P, c17d_odd, c17d_ro, Nat.reduceBEq, reduceIte, Nat.reduceEqDiff, reduceCtorEq, ne_eq, if_true, if_false, exA, exA, tabs, exB, exD, buildA, rowOr, rowSetAt, rowAgg, mkAgg, AV.isAggV, AV.parts, AV.one, AV.solid, headSize, indexAddrA, indexA, fieldAddrA, fieldA, sliceA, boundsA, bndA, lenA, arrayAtA, rowOf, makeSliceA, intsOf, copyA, Nat.reduceAdd, Nat.reduceSub, Nat.reduceMul, Nat.reduceLeDiff, Nat.reduceLT, Nat.reduceGT, Int.reduceToNat, Int.reduceLE, Int.reduceLT, Int.reduceEq, Int.reduceNe, Int.reduceAdd, Int.reduceSub, Int.reduceMul, Int.reduceNeg, ite_true, ite_false, dite_true, xc1, xc2, xc3, xc4, xc5, xc6, xc7, xc8, xc9, xc10, xc11, xc12, xc13, xc14, xc15, xc16, xc17, xc17d, hr, hn2, hz] | simp (maxSteps := 1000000) (disch := omega) only [exE, Int.toNat_natCast, Int.reduceToNat])
    refine callX (C := c17d 7) (xinfo_open ⟨m.H, xL, xW, xP, m.ep, m.R, m.op, m.sl, xc⟩ hop h.may hg h.nam h.tre (by simp only [hpl]; omega) (by simp only [hpl]; omega)) [_, _, _] [_, _, _, _, _] (fun _ => rfl) (by first | rfl | (simp only [← hop]; rfl)) ?_
    rintro v h' ⟨cb, xb, yb, rfl, rfl⟩
    refine ⟨⟨m.H, xL, xW, xP, m.ep, m.R, m.op, m.sl, xc⟩, _, rfl, ?_⟩
    unfold xI
    simp only [AV.ren, renL, List.map_cons, List.map_nil, List.append_nil, mats, mfL, rats, List.cons_append, List.nil_append, List.length_cons, List.length_nil, Nat.reduceAdd, renB, Option.map_some, renL_roB, renL_strV, renL_bl, renL_vs, renL_pr, fm3, fm4, fm5, fx4, fx5, fx6]
    repeat (first | simp only [c17d_P, c17d_odd, c17d_ro, Nat.reduceBEq, reduceIte, Nat.reduceEqDiff, reduceCtorEq, ne_eq, if_true, if_false, exA, exA, tabs, exB, exD, buildA, rowOr, rowSetAt, rowAgg, mkAgg, AV.isAggV, AV.parts, AV.one, AV.solid, headSize, indexAddrA, indexA, fieldAddrA, fieldA, sliceA, boundsA, bndA, lenA, arrayAtA, rowOf, makeSliceA, intsOf, copyA, Nat.reduceAdd, Nat.reduceSub, Nat.reduceMul, Nat.reduceLeDiff, Nat.reduceLT, Nat.reduceGT, Int.reduceToNat, Int.reduceLE, Int.reduceLT, Int.reduceEq, Int.reduceNe, Int.reduceAdd, Int.reduceSub, Int.reduceMul, Int.reduceNeg, ite_true, ite_false, dite_true, xc1, xc2, xc3, xc4, xc5, xc6, xc7, xc8, xc9, xc10, xc11, xc12, xc13, xc14, xc15, xc16, xc17, xc17d, hr, hn2, hz] | simp (maxSteps := 1000000) (disch := omega) only [exE, Int.toNat_natCast, Int.reduceToNat])
    refine callC_frame (C := c17d 7) (same_info m.H m.sl m.ep (left m.H m.R) m.R.ctr (taken m.P m.H.slo.toNat) ca cb (by rw [taken_len]; omega) h.nam) [10, 14] ?_ rfl (by decide) (by simp) ?_ ?_
    · simp only [taken_len, renL, AV.ren, hpl]
      rfl
    · intro k hk
      match k, hk with
      | 0, _ => simp [renB, renL_bl]
      | 1, _ => simp [renB, renL_bl, hts]
    rintro v h' ⟨rfl, y, z, rfl⟩
    simp only [overwrite, AV.ren, List.set_cons_succ, List.set_cons_zero, List.map_cons, List.map_nil, renB, Option.map_some, renL_bl, List.cons_append, List.nil_append]
    repeat (first | simp only [c17d_P, c17d_odd, c17d_ro, Nat.reduceBEq, reduceIte, Nat.reduceEqDiff, reduceCtorEq, ne_eq, if_true, if_false, exA, exA, tabs, exB, exD, buildA, rowOr, rowSetAt, rowAgg, mkAgg, AV.isAggV, AV.parts, AV.one, AV.solid, headSize, indexAddrA, indexA, fieldAddrA, fieldA, sliceA, boundsA, bndA, lenA, arrayAtA, rowOf, makeSliceA, intsOf, copyA, Nat.reduceAdd, Nat.reduceSub, Nat.reduceMul, Nat.reduceLeDiff, Nat.reduceLT, Nat.reduceGT, Int.reduceToNat, Int.reduceLE, Int.reduceLT, Int.reduceEq, Int.reduceNe, Int.reduceAdd, Int.reduceSub, Int.reduceMul, Int.reduceNeg, ite_true, ite_false, dite_true, xc1, xc2, xc3, xc4, xc5, xc6, xc7, xc8, xc9, xc10, xc11, xc12, xc13, xc14, xc15, xc16, xc17, xc17d, hr] | simp (maxSteps := 1000000) (disch := omega) only [exE, Int.toNat_natCast, Int.reduceToNat])
    exact doesQ_of h (by first | rfl | (simp only [hop]; rfl))
end Go.Proofs.Ytgkhngcnbddoiaa

namespace Go.Proofs.Ytgkhngcnbddoiaa
open Go.Ax
theorem does6 (m : Ms) (x : Rs) (o : OpV) (h : Sim m x) (ho : OpB o) (k : o.kd = 6) : ACall Try.prog 22 [.ptr 0 0 0, .ptr 3 0 0, .agg (opL o)] (mats m 0 ++ rats x 3) DoesQ := by
  have hob := ho.1
  obtain ⟨he, hs⟩ := sim_start h
  have he := ieq he
  unfold opL mats mfL rats
  refine acall_run (good17d 7) Try.func22 rfl ⟨by kernel_rfl, by show 3 ≤ _; decide, by kernel_rfl, by kernel_rfl⟩ rfl ?_; have hr : Try.f22.results.toList = [.tmp 6] := rfl
  repeat (first | simp only [c17d_P, c17d_odd, c17d_ro, Nat.reduceBEq, reduceIte, Nat.reduceEqDiff, reduceCtorEq, ne_eq, if_true, if_false, exA, exA, tabs, exB, exD, buildA, rowOr, rowSetAt, rowAgg, mkAgg, AV.isAggV, AV.parts, AV.one, AV.solid, headSize, indexAddrA, indexA, fieldAddrA, fieldA, sliceA, boundsA, bndA, lenA, arrayAtA, rowOf, makeSliceA, intsOf, copyA, Nat.reduceAdd, Nat.reduceSub, Nat.reduceMul, Nat.reduceLeDiff, Nat.reduceLT, Nat.reduceGT, Int.reduceToNat, Int.reduceLE, Int.reduceLT, Int.reduceEq, Int.reduceNe, Int.reduceAdd, Int.reduceSub, Int.reduceMul, Int.reduceNeg, ite_true, ite_false, dite_true, xc1, xc2, xc3, xc4, xc5, xc6, xc7, xc8, xc9, xc10, xc11, xc12, xc13, xc14, xc15, xc16, xc17, xc17d, hr, k, hob] | simp (maxSteps := 1000000) (disch := omega) only [exE, Int.toNat_natCast, Int.reduceToNat])
  refine callM (C := c17d 7) (rekeyStart_spec m) [] [_, _, _, _, _] (fun _ => rfl) rfl ?_
  rintro v h' ⟨rfl, rfl⟩
  refine ⟨(mRekeyStart m).2, [], (List.append_nil _).symm, ?_⟩
  simp only [AV.ren, renL, List.map_nil, List.append_nil, mats, mfL, rats, List.cons_append, List.nil_append, List.length_cons, List.length_nil, Nat.reduceAdd]
  repeat (first | simp only [c17d_P, c17d_odd, c17d_ro, Nat.reduceBEq, reduceIte, Nat.reduceEqDiff, reduceCtorEq, ne_eq, if_true, if_false, exA, exA, tabs, exB, exD, buildA, rowOr, rowSetAt, rowAgg, mkAgg, AV.isAggV, AV.parts, AV.one, AV.solid, headSize, indexAddrA, indexA, fieldAddrA, fieldA, sliceA, boundsA, bndA, lenA, arrayAtA, rowOf, makeSliceA, intsOf, copyA, Nat.reduceAdd, Nat.reduceSub, Nat.reduceMul, Nat.reduceLeDiff, Nat.reduceLT, Nat.reduceGT, Int.reduceToNat, Int.reduceLE, Int.reduceLT, Int.reduceEq, Int.reduceNe, Int.reduceAdd, Int.reduceSub, Int.reduceMul, Int.reduceNeg, ite_true, ite_false, dite_true, xc1, xc2, xc3, xc4, xc5, xc6, xc7, xc8, xc9, xc10, xc11, xc12, xc13, xc14, xc15, xc16, xc17, xc17d, hr, k] | simp (maxSteps := 1000000) (disch := omega) only [exE, Int.toNat_natCast, Int.reduceToNat])
  refine callX (C := c17d 7) (xrekeyStart_spec x) [_, _, _] [_] (fun _ => rfl) rfl ?_
  rintro v h' ⟨rfl, rfl⟩
  refine ⟨(xRekeyStart x).2, [], (List.append_nil _).symm, ?_⟩
  simp only [AV.ren, renL, List.map_nil, List.append_nil, mats, mfL, rats, List.cons_append, List.nil_append, List.length_cons, List.length_nil, Nat.reduceAdd]
  repeat (first | simp only [c17d_P, c17d_odd, c17d_ro, Nat.reduceBEq, reduceIte, Nat.reduceEqDiff, reduceCtorEq, ne_eq, if_true, if_false, exA, exA, tabs, exB, exD, buildA, rowOr, rowSetAt, rowAgg, mkAgg, AV.isAggV, AV.parts, AV.one, AV.solid, headSize, indexAddrA, indexA, fieldAddrA, fieldA, sliceA, boundsA, bndA, lenA, arrayAtA, rowOf, makeSliceA, intsOf, copyA, Nat.reduceAdd, Nat.reduceSub, Nat.reduceMul, Nat.reduceLeDiff, Nat.reduceLT, Nat.reduceGT, Int.reduceToNat, Int.reduceLE, Int.reduceLT, Int.reduceEq, Int.reduceNe, Int.reduceAdd, Int.reduceSub, Int.reduceMul, Int.reduceNeg, ite_true, ite_false, dite_true, xc1, xc2, xc3, xc4, xc5, xc6, xc7, xc8, xc9, xc10, xc11, xc12, xc13, xc14, xc15, xc16, xc17, xc17d, hr, k, he] | simp (maxSteps := 1000000) (disch := omega) only [exE, Int.toNat_natCast, Int.reduceToNat])
  exact doesQ_of hs rfl
theorem does9 (m : Ms) (x : Rs) (o : OpV) (h : Sim m x) (ho : OpB o) (k : o.kd = 9) : ACall Try.prog 22 [.ptr 0 0 0, .ptr 3 0 0, .agg (opL o)] (mats m 0 ++ rats x 3) DoesQ := by
  have hob := ho.1
  obtain ⟨he, hs⟩ := sim_close h
  have he := ieq he
  unfold opL mats mfL rats
  refine acall_run (good17d 7) Try.func22 rfl ⟨by kernel_rfl, by show 3 ≤ _; decide, by kernel_rfl, by kernel_rfl⟩ rfl ?_; have hr : Try.f22.results.toList = [.tmp 6] := rfl
  repeat (first | simp only [c17d_P, c17d_odd, c17d_ro, Nat.reduceBEq, reduceIte, Nat.reduceEqDiff, reduceCtorEq, ne_eq, if_true, if_false, exA, exA, tabs, exB, exD, buildA, rowOr, rowSetAt, rowAgg, mkAgg, AV.isAggV, AV.parts, AV.one, AV.solid, headSize, indexAddrA, indexA, fieldAddrA, fieldA, sliceA, boundsA, bndA, lenA, arrayAtA, rowOf, makeSliceA, intsOf, copyA, Nat.reduceAdd, Nat.reduceSub, Nat.reduceMul, Nat.reduceLeDiff, Nat.reduceLT, Nat.reduceGT, Int.reduceToNat, Int.reduceLE, Int.reduceLT, Int.reduceEq, Int.reduceNe, Int.reduceAdd, Int.reduceSub, Int.reduceMul, Int.reduceNeg, ite_true, ite_false, dite_true, xc1, xc2, xc3, xc4, xc5, xc6, xc7, xc8, xc9, xc10, xc11, xc12, xc13, xc14, xc15, xc16, xc17, xc17d, hr, k, hob] | simp (maxSteps := 1000000) (disch := omega) only [exE, Int.toNat_natCast, Int.reduceToNat])
  refine callM (C := c17d 7) (close_spec m) [] [_, _, _, _, _] (fun _ => rfl) rfl ?_
  rintro v h' ⟨rfl, rfl⟩
  refine ⟨(mClose m).2, [], (List.append_nil _).symm, ?_⟩
  simp only [AV.ren, renL, List.map_nil, List.append_nil, mats, mfL, rats, List.cons_append, List.nil_append, List.length_cons, List.length_nil, Nat.reduceAdd]
  repeat (first | simp only [c17d_P, c17d_odd, c17d_ro, Nat.reduceBEq, reduceIte, Nat.reduceEqDiff, reduceCtorEq, ne_eq, if_true, if_false, exA, exA, tabs, exB, exD, buildA, rowOr, rowSetAt, rowAgg, mkAgg, AV.isAggV, AV.parts, AV.one, AV.solid, headSize, indexAddrA, indexA, fieldAddrA, fieldA, sliceA, boundsA, bndA, lenA, arrayAtA, rowOf, makeSliceA, intsOf, copyA, Nat.reduceAdd, Nat.reduceSub, Nat.reduceMul, Nat.reduceLeDiff, Nat.reduceLT, Nat.reduceGT, Int.reduceToNat, Int.reduceLE, Int.reduceLT, Int.reduceEq, Int.reduceNe, Int.reduceAdd, Int.reduceSub, Int.reduceMul, Int.reduceNeg, ite_true, ite_false, dite_true, xc1, xc2, xc3, xc4, xc5, xc6, xc7, xc8, xc9, xc10, xc11, xc12, xc13, xc14, xc15, xc16, xc17, xc17d, hr, k] | simp (maxSteps := 1000000) (disch := omega) only [exE, Int.toNat_natCast, Int.reduceToNat])
  refine callX (C := c17d 7) (xclose_spec x) [_, _, _] [_] (fun _ => rfl) rfl ?_
  rintro v h' ⟨rfl, rfl⟩
  refine ⟨(xClose x).2, [], (List.append_nil _).symm, ?_⟩
  simp only [AV.ren, renL, List.map_nil, List.append_nil, mats, mfL, rats, List.cons_append, List.nil_append, List.length_cons, List.length_nil, Nat.reduceAdd]
  repeat (first | simp only [c17d_P, c17d_odd, c17d_ro, Nat.reduceBEq, reduceIte, Nat.reduceEqDiff, reduceCtorEq, ne_eq, if_true, if_false, exA, exA, tabs, exB, exD, buildA, rowOr, rowSetAt, rowAgg, mkAgg, AV.isAggV, AV.parts, AV.one, AV.solid, headSize, indexAddrA, indexA, fieldAddrA, fieldA, sliceA, boundsA, bndA, lenA, arrayAtA, rowOf, makeSliceA, intsOf, copyA, Nat.reduceAdd, Nat.reduceSub, Nat.reduceMul, Nat.reduceLeDiff, Nat.reduceLT, Nat.reduceGT, Int.reduceToNat, Int.reduceLE, Int.reduceLT, Int.reduceEq, Int.reduceNe, Int.reduceAdd, Int.reduceSub, Int.reduceMul, Int.reduceNeg, ite_true, ite_false, dite_true, xc1, xc2, xc3, xc4, xc5, xc6, xc7, xc8, xc9, xc10, xc11, xc12, xc13, xc14, xc15, xc16, xc17, xc17d, hr, k, he] | simp (maxSteps := 1000000) (disch := omega) only [exE, Int.toNat_natCast, Int.reduceToNat])
  exact doesQ_of hs rfl
theorem does7 (m : Ms) (x : Rs) (o : OpV) (h : Sim m x) (ho : OpB o) (k : o.kd = 7) : ACall Try.prog 22 [.ptr 0 0 0, .ptr 3 0 0, .agg (opL o)] (mats m 0 ++ rats x 3) DoesQ := by
  have hob := ho.1
  obtain ⟨he, hf, hs⟩ := sim_step h
  have he : ((mRekeyStep m).1 == (xRekeyStep x).1) = true := by simp [he]
  have hf := ieq hf
  have hg : 0 ≤ m.H.gen := by have := okH_iff.1 h.ok; omega
  unfold opL mats mfL rats
  refine acall_run (good17d 7) Try.func22 rfl ⟨by kernel_rfl, by show 3 ≤ _; decide, by kernel_rfl, by kernel_rfl⟩ rfl ?_; have hr : Try.f22.results.toList = [.tmp 6] := rfl
  repeat (first | simp only [c17d_P, c17d_odd, c17d_ro, Nat.reduceBEq, reduceIte, Nat.reduceEqDiff, reduceCtorEq, ne_eq, if_true, if_false, exA, exA, tabs, exB, exD, buildA, rowOr, rowSetAt, rowAgg, mkAgg, AV.isAggV, AV.parts, AV.one, AV.solid, headSize, indexAddrA, indexA, fieldAddrA, fieldA, sliceA, boundsA, bndA, lenA, arrayAtA, rowOf, makeSliceA, intsOf, copyA, Nat.reduceAdd, Nat.reduceSub, Nat.reduceMul, Nat.reduceLeDiff, Nat.reduceLT, Nat.reduceGT, Int.reduceToNat, Int.reduceLE, Int.reduceLT, Int.reduceEq, Int.reduceNe, Int.reduceAdd, Int.reduceSub, Int.reduceMul, Int.reduceNeg, ite_true, ite_false, dite_true, xc1, xc2, xc3, xc4, xc5, xc6, xc7, xc8, xc9, xc10, xc11, xc12, xc13, xc14, xc15, xc16, xc17, xc17d, hr, k, hob] | simp (maxSteps := 1000000) (disch := omega) only [exE, Int.toNat_natCast, Int.reduceToNat])
  refine callM (C := c17d 7) (rekeyStep_own m hg h.tre) [] [_, _, _, _, _] (fun _ => rfl) rfl ?_
  rintro v h' ⟨rfl, rfl⟩
  refine ⟨(mRekeyStep m).2.2, [], (List.append_nil _).symm, ?_⟩
  simp only [AV.ren, renL, List.map_nil, List.append_nil, mats, mfL, rats, List.cons_append, List.nil_append, List.length_cons, List.length_nil, Nat.reduceAdd]
  repeat (first | simp only [c17d_P, c17d_odd, c17d_ro, Nat.reduceBEq, reduceIte, Nat.reduceEqDiff, reduceCtorEq, ne_eq, if_true, if_false, exA, exA, tabs, exB, exD, buildA, rowOr, rowSetAt, rowAgg, mkAgg, AV.isAggV, AV.parts, AV.one, AV.solid, headSize, indexAddrA, indexA, fieldAddrA, fieldA, sliceA, boundsA, bndA, lenA, arrayAtA, rowOf, makeSliceA, intsOf, copyA, Nat.reduceAdd, Nat.reduceSub, Nat.reduceMul, Nat.reduceLeDiff, Nat.reduceLT, Nat.reduceGT, Int.reduceToNat, Int.reduceLE, Int.reduceLT, Int.reduceEq, Int.reduceNe, Int.reduceAdd, Int.reduceSub, Int.reduceMul, Int.reduceNeg, ite_true, ite_false, dite_true, xc1, xc2, xc3, xc4, xc5, xc6, xc7, xc8, xc9, xc10, xc11, xc12, xc13, xc14, xc15, xc16, xc17, xc17d, hr, k] | simp (maxSteps := 1000000) (disch := omega) only [exE, Int.toNat_natCast, Int.reduceToNat])
  refine callX (C := c17d 7) (xrekeyStep_spec x (by rw [h.H]; exact hg) (by rw [h.R]; exact h.tre) (by rw [h.H]; exact h.nam) (by rw [h.H, h.R]; exact h.may)) [_, _, _] [_] (fun _ => rfl) rfl ?_
  rintro v h' ⟨rfl, ext, rfl⟩
  refine ⟨(xRekeyStep x).2.2, ext, rfl, ?_⟩
  simp only [AV.ren, renL, List.map_nil, List.append_nil, mats, mfL, rats, List.cons_append, List.nil_append, List.length_cons, List.length_nil, Nat.reduceAdd]
  repeat (first | simp only [c17d_P, c17d_odd, c17d_ro, Nat.reduceBEq, reduceIte, Nat.reduceEqDiff, reduceCtorEq, ne_eq, if_true, if_false, exA, exA, tabs, exB, exD, buildA, rowOr, rowSetAt, rowAgg, mkAgg, AV.isAggV, AV.parts, AV.one, AV.solid, headSize, indexAddrA, indexA, fieldAddrA, fieldA, sliceA, boundsA, bndA, lenA, arrayAtA, rowOf, makeSliceA, intsOf, copyA, Nat.reduceAdd, Nat.reduceSub, Nat.reduceMul, Nat.reduceLeDiff, Nat.reduceLT, Nat.reduceGT, Int.reduceToNat, Int.reduceLE, Int.reduceLT, Int.reduceEq, Int.reduceNe, Int.reduceAdd, Int.reduceSub, Int.reduceMul, Int.reduceNeg, ite_true, ite_false, dite_true, xc1, xc2, xc3, xc4, xc5, xc6, xc7, xc8, xc9, xc10, xc11, xc12, xc13, xc14, xc15, xc16, xc17, xc17d, hr, k, he, hf] | simp (maxSteps := 1000000) (disch := omega) only [exE, Int.toNat_natCast, Int.reduceToNat])
  exact doesQ_of hs rfl
theorem does4 (m : Ms) (x : Rs) (o : OpV) (h : Sim m x) (ho : OpB o) (k : o.kd = 4) : ACall Try.prog 22 [.ptr 0 0 0, .ptr 3 0 0, .agg (opL o)] (mats m 0 ++ rats x 3) DoesQ := by
  have hob := ho.1
  obtain ⟨he, hs⟩ := sim_slotAdd h o.n o.p
  have he := ieq he
  have hsl : x.P.length ≤ 1048576 := by have := okH_iff.1 h.ok; have := h.Pl; omega
  have hsl2 : m.H.slo ≤ 1048576 := by have := okH_iff.1 h.ok; omega
  unfold opL mats mfL rats
  refine acall_run (good17d 7) Try.func22 rfl ⟨by kernel_rfl, by show 3 ≤ _; decide, by kernel_rfl, by kernel_rfl⟩ rfl ?_; have hr : Try.f22.results.toList = [.tmp 6] := rfl
  repeat (first | simp only [c17d_P, c17d_odd, c17d_ro, Nat.reduceBEq, reduceIte, Nat.reduceEqDiff, reduceCtorEq, ne_eq, if_true, if_false, exA, exA, tabs, exB, exD, buildA, rowOr, rowSetAt, rowAgg, mkAgg, AV.isAggV, AV.parts, AV.one, AV.solid, headSize, indexAddrA, indexA, fieldAddrA, fieldA, sliceA, boundsA, bndA, lenA, arrayAtA, rowOf, makeSliceA, intsOf, copyA, Nat.reduceAdd, Nat.reduceSub, Nat.reduceMul, Nat.reduceLeDiff, Nat.reduceLT, Nat.reduceGT, Int.reduceToNat, Int.reduceLE, Int.reduceLT, Int.reduceEq, Int.reduceNe, Int.reduceAdd, Int.reduceSub, Int.reduceMul, Int.reduceNeg, ite_true, ite_false, dite_true, xc1, xc2, xc3, xc4, xc5, xc6, xc7, xc8, xc9, xc10, xc11, xc12, xc13, xc14, xc15, xc16, xc17, xc17d, hr, k, hob] | simp (maxSteps := 1000000) (disch := omega) only [exE, Int.toNat_natCast, Int.reduceToNat])
  refine oddR_of (good17d 7) (.first 0 (.first 1 (.first 2 (.first 3 (.first 4 (.first 6 (.first 7 (.first 9 (.fork 5 (.first 8 (.first 10 (.fork 11 (.first 12 (.first 13 .done)) .stop))) (.fork 8 (.fork 5 (.first 10 (.fork 11 (.first 12 (.first 13 .done)) .stop)) (.fork 10 (.fork 5 (.fork 11 (.first 12 (.first 13 .done)) .stop) .stop) .stop)) (.fork 10 (.fork 5 (.first 8 (.fork 11 (.first 12 (.first 13 .done)) .stop)) (.fork 8 (.fork 5 (.fork 11 (.first 12 (.first 13 .done)) .stop) .stop) .stop)) .stop))))))))))) (by kernel_rfl) ?_
  repeat (first | simp only [c17d_P, c17d_odd, c17d_ro, Nat.reduceBEq, reduceIte, Nat.reduceEqDiff, reduceCtorEq, ne_eq, if_true, if_false, exA, exA, tabs, exB, exD, buildA, rowOr, rowSetAt, rowAgg, mkAgg, AV.isAggV, AV.parts, AV.one, AV.solid, headSize, indexAddrA, indexA, fieldAddrA, fieldA, sliceA, boundsA, bndA, lenA, arrayAtA, rowOf, makeSliceA, intsOf, copyA, Nat.reduceAdd, Nat.reduceSub, Nat.reduceMul, Nat.reduceLeDiff, Nat.reduceLT, Nat.reduceGT, Int.reduceToNat, Int.reduceLE, Int.reduceLT, Int.reduceEq, Int.reduceNe, Int.reduceAdd, Int.reduceSub, Int.reduceMul, Int.reduceNeg, ite_true, ite_false, dite_true, xc1, xc2, xc3, xc4, xc5, xc6, xc7, xc8, xc9, xc10, xc11, xc12, xc13, xc14, xc15, xc16, xc17, xc17d, hr, k, hob] | simp (maxSteps := 1000000) (disch := omega) only [exE, Int.toNat_natCast, Int.reduceToNat])
  repeat' (first | exact trivial | with_reducible refine And.intro ?_ ?_)
  all_goals
    refine callM (C := c17d 7) (slotAdd_spec m o.n o.p) [] [_, _, _, _, _] (fun _ => rfl) rfl ?_
    rintro v h' ⟨rfl, rfl⟩
    refine ⟨(mSlotAdd m o.n o.p).2, [], (List.append_nil _).symm, ?_⟩
    simp only [AV.ren, renL, List.map_nil, List.append_nil, mats, mfL, rats, List.cons_append, List.nil_append, List.length_cons, List.length_nil, Nat.reduceAdd]
    repeat (first | simp only [c17d_P, c17d_odd, c17d_ro, Nat.reduceBEq, reduceIte, Nat.reduceEqDiff, reduceCtorEq, ne_eq, if_true, if_false, exA, exA, tabs, exB, exD, buildA, rowOr, rowSetAt, rowAgg, mkAgg, AV.isAggV, AV.parts, AV.one, AV.solid, headSize, indexAddrA, indexA, fieldAddrA, fieldA, sliceA, boundsA, bndA, lenA, arrayAtA, rowOf, makeSliceA, intsOf, copyA, Nat.reduceAdd, Nat.reduceSub, Nat.reduceMul, Nat.reduceLeDiff, Nat.reduceLT, Nat.reduceGT, Int.reduceToNat, Int.reduceLE, Int.reduceLT, Int.reduceEq, Int.reduceNe, Int.reduceAdd, Int.reduceSub, Int.reduceMul, Int.reduceNeg, ite_true, ite_false, dite_true, xc1, xc2, xc3, xc4, xc5, xc6, xc7, xc8, xc9, xc10, xc11, xc12, xc13, xc14, xc15, xc16, xc17, xc17d, hr, k] | simp (maxSteps := 1000000) (disch := omega) only [exE, Int.toNat_natCast, Int.reduceToNat])
    refine callX (C := c17d 7) (xslotAdd_spec x o.n o.p) [_, _, _] [_] (fun _ => rfl) rfl ?_
    rintro v h' ⟨rfl, rfl⟩
    refine ⟨(xSlotAdd x o.n o.p).2, [], (List.append_nil _).symm, ?_⟩
    simp only [AV.ren, renL, List.map_nil, List.append_nil, mats, mfL, rats, List.cons_append, List.nil_append, List.length_cons, List.length_nil, Nat.reduceAdd]
    repeat (first | simp only [c17d_P, c17d_odd, c17d_ro, Nat.reduceBEq, reduceIte, Nat.reduceEqDiff, reduceCtorEq, ne_eq, if_true, if_false, exA, exA, tabs, exB, exD, buildA, rowOr, rowSetAt, rowAgg, mkAgg, AV.isAggV, AV.parts, AV.one, AV.solid, headSize, indexAddrA, indexA, fieldAddrA, fieldA, sliceA, boundsA, bndA, lenA, arrayAtA, rowOf, makeSliceA, intsOf, copyA, Nat.reduceAdd, Nat.reduceSub, Nat.reduceMul, Nat.reduceLeDiff, Nat.reduceLT, Nat.reduceGT, Int.reduceToNat, Int.reduceLE, Int.reduceLT, Int.reduceEq, Int.reduceNe, Int.reduceAdd, Int.reduceSub, Int.reduceMul, Int.reduceNeg, ite_true, ite_false, dite_true, xc1, xc2, xc3, xc4, xc5, xc6, xc7, xc8, xc9, xc10, xc11, xc12, xc13, xc14, xc15, xc16, xc17, xc17d, hr, k, he] | simp (maxSteps := 1000000) (disch := omega) only [exE, Int.toNat_natCast, Int.reduceToNat])
    exact doesQ_of hs rfl
theorem does5 (m : Ms) (x : Rs) (o : OpV) (h : Sim m x) (ho : OpB o) (k : o.kd = 5) : ACall Try.prog 22 [.ptr 0 0 0, .ptr 3 0 0, .agg (opL o)] (mats m 0 ++ rats x 3) DoesQ := by
  have hob := ho.1
  obtain ⟨he, hs⟩ := sim_slotRevoke h o.n
  have he := ieq he
  have hsl : x.P.length ≤ 1048576 := by have := okH_iff.1 h.ok; have := h.Pl; omega
  have hsl2 : m.H.slo ≤ 1048576 := by have := okH_iff.1 h.ok; omega
  unfold opL mats mfL rats
  refine acall_run (good17d 7) Try.func22 rfl ⟨by kernel_rfl, by show 3 ≤ _; decide, by kernel_rfl, by kernel_rfl⟩ rfl ?_; have hr : Try.f22.results.toList = [.tmp 6] := rfl
  repeat (first | simp only [c17d_P, c17d_odd, c17d_ro, Nat.reduceBEq, reduceIte, Nat.reduceEqDiff, reduceCtorEq, ne_eq, if_true, if_false, exA, exA, tabs, exB, exD, buildA, rowOr, rowSetAt, rowAgg, mkAgg, AV.isAggV, AV.parts, AV.one, AV.solid, headSize, indexAddrA, indexA, fieldAddrA, fieldA, sliceA, boundsA, bndA, lenA, arrayAtA, rowOf, makeSliceA, intsOf, copyA, Nat.reduceAdd, Nat.reduceSub, Nat.reduceMul, Nat.reduceLeDiff, Nat.reduceLT, Nat.reduceGT, Int.reduceToNat, Int.reduceLE, Int.reduceLT, Int.reduceEq, Int.reduceNe, Int.reduceAdd, Int.reduceSub, Int.reduceMul, Int.reduceNeg, ite_true, ite_false, dite_true, xc1, xc2, xc3, xc4, xc5, xc6, xc7, xc8, xc9, xc10, xc11, xc12, xc13, xc14, xc15, xc16, xc17, xc17d, hr, k, hob] | simp (maxSteps := 1000000) (disch := omega) only [exE, Int.toNat_natCast, Int.reduceToNat])
  refine oddR_of (good17d 7) (.first 0 (.first 1 (.first 2 (.first 4 (.first 5 (.fork 3 (.first 6 (.fork 7 (.first 8 (.first 9 .done)) .stop)) (.fork 6 (.fork 3 (.fork 7 (.first 8 (.first 9 .done)) .stop) .stop) .stop))))))) (by kernel_rfl) ?_
  repeat (first | simp only [c17d_P, c17d_odd, c17d_ro, Nat.reduceBEq, reduceIte, Nat.reduceEqDiff, reduceCtorEq, ne_eq, if_true, if_false, exA, exA, tabs, exB, exD, buildA, rowOr, rowSetAt, rowAgg, mkAgg, AV.isAggV, AV.parts, AV.one, AV.solid, headSize, indexAddrA, indexA, fieldAddrA, fieldA, sliceA, boundsA, bndA, lenA, arrayAtA, rowOf, makeSliceA, intsOf, copyA, Nat.reduceAdd, Nat.reduceSub, Nat.reduceMul, Nat.reduceLeDiff, Nat.reduceLT, Nat.reduceGT, Int.reduceToNat, Int.reduceLE, Int.reduceLT, Int.reduceEq, Int.reduceNe, Int.reduceAdd, Int.reduceSub, Int.reduceMul, Int.reduceNeg, ite_true, ite_false, dite_true, xc1, xc2, xc3, xc4, xc5, xc6, xc7, xc8, xc9, xc10, xc11, xc12, xc13, xc14, xc15, xc16, xc17, xc17d, hr, k, hob] | simp (maxSteps := 1000000) (disch := omega) only [exE, Int.toNat_natCast, Int.reduceToNat])
  repeat' (first | exact trivial | with_reducible refine And.intro ?_ ?_)
  all_goals
    refine callM (C := c17d 7) (slotRevoke_spec m o.n) [] [_, _, _, _, _] (fun _ => rfl) rfl ?_
    rintro v h' ⟨rfl, rfl⟩
    refine ⟨(mSlotRevoke m o.n).2, [], (List.append_nil _).symm, ?_⟩
    simp only [AV.ren, renL, List.map_nil, List.append_nil, mats, mfL, rats, List.cons_append, List.nil_append, List.length_cons, List.length_nil, Nat.reduceAdd]
    repeat (first | simp only [c17d_P, c17d_odd, c17d_ro, Nat.reduceBEq, reduceIte, Nat.reduceEqDiff, reduceCtorEq, ne_eq, if_true, if_false, exA, exA, tabs, exB, exD, buildA, rowOr, rowSetAt, rowAgg, mkAgg, AV.isAggV, AV.parts, AV.one, AV.solid, headSize, indexAddrA, indexA, fieldAddrA, fieldA, sliceA, boundsA, bndA, lenA, arrayAtA, rowOf, makeSliceA, intsOf, copyA, Nat.reduceAdd, Nat.reduceSub, Nat.reduceMul, Nat.reduceLeDiff, Nat.reduceLT, Nat.reduceGT, Int.reduceToNat, Int.reduceLE, Int.reduceLT, Int.reduceEq, Int.reduceNe, Int.reduceAdd, Int.reduceSub, Int.reduceMul, Int.reduceNeg, ite_true, ite_false, dite_true, xc1, xc2, xc3, xc4, xc5, xc6, xc7, xc8, xc9, xc10, xc11, xc12, xc13, xc14, xc15, xc16, xc17, xc17d, hr, k] | simp (maxSteps := 1000000) (disch := omega) only [exE, Int.toNat_natCast, Int.reduceToNat])
    refine callX (C := c17d 7) (xslotRevoke_spec x o.n hsl) [_, _, _] [_] (fun _ => rfl) rfl ?_
    rintro v h' ⟨rfl, rfl⟩
    refine ⟨(xSlotRevoke x o.n).2, [], (List.append_nil _).symm, ?_⟩
    simp only [AV.ren, renL, List.map_nil, List.append_nil, mats, mfL, rats, List.cons_append, List.nil_append, List.length_cons, List.length_nil, Nat.reduceAdd]
    repeat (first | simp only [c17d_P, c17d_odd, c17d_ro, Nat.reduceBEq, reduceIte, Nat.reduceEqDiff, reduceCtorEq, ne_eq, if_true, if_false, exA, exA, tabs, exB, exD, buildA, rowOr, rowSetAt, rowAgg, mkAgg, AV.isAggV, AV.parts, AV.one, AV.solid, headSize, indexAddrA, indexA, fieldAddrA, fieldA, sliceA, boundsA, bndA, lenA, arrayAtA, rowOf, makeSliceA, intsOf, copyA, Nat.reduceAdd, Nat.reduceSub, Nat.reduceMul, Nat.reduceLeDiff, Nat.reduceLT, Nat.reduceGT, Int.reduceToNat, Int.reduceLE, Int.reduceLT, Int.reduceEq, Int.reduceNe, Int.reduceAdd, Int.reduceSub, Int.reduceMul, Int.reduceNeg, ite_true, ite_false, dite_true, xc1, xc2, xc3, xc4, xc5, xc6, xc7, xc8, xc9, xc10, xc11, xc12, xc13, xc14, xc15, xc16, xc17, xc17d, hr, k, he] | simp (maxSteps := 1000000) (disch := omega) only [exE, Int.toNat_natCast, Int.reduceToNat])
    exact doesQ_of hs rfl
theorem does10 (m : Ms) (x : Rs) (o : OpV) (h : Sim m x) (ho : OpB o) (k : o.kd = 10) : ACall Try.prog 22 [.ptr 0 0 0, .ptr 3 0 0, .agg (opL o)] (mats m 0 ++ rats x 3) DoesQ := by
  have hob := ho.1
  obtain ⟨he, hs⟩ := sim_open h o.p
  have he := ieq he
  have hsl : x.P.length ≤ 1048576 := by have := okH_iff.1 h.ok; have := h.Pl; omega
  have hsl2 : m.H.slo ≤ 1048576 := by have := okH_iff.1 h.ok; omega
  unfold opL mats mfL rats
  refine acall_run (good17d 7) Try.func22 rfl ⟨by kernel_rfl, by show 3 ≤ _; decide, by kernel_rfl, by kernel_rfl⟩ rfl ?_; have hr : Try.f22.results.toList = [.tmp 6] := rfl
  repeat (first | simp only [c17d_P, c17d_odd, c17d_ro, Nat.reduceBEq, reduceIte, Nat.reduceEqDiff, reduceCtorEq, ne_eq, if_true, if_false, exA, exA, tabs, exB, exD, buildA, rowOr, rowSetAt, rowAgg, mkAgg, AV.isAggV, AV.parts, AV.one, AV.solid, headSize, indexAddrA, indexA, fieldAddrA, fieldA, sliceA, boundsA, bndA, lenA, arrayAtA, rowOf, makeSliceA, intsOf, copyA, Nat.reduceAdd, Nat.reduceSub, Nat.reduceMul, Nat.reduceLeDiff, Nat.reduceLT, Nat.reduceGT, Int.reduceToNat, Int.reduceLE, Int.reduceLT, Int.reduceEq, Int.reduceNe, Int.reduceAdd, Int.reduceSub, Int.reduceMul, Int.reduceNeg, ite_true, ite_false, dite_true, xc1, xc2, xc3, xc4, xc5, xc6, xc7, xc8, xc9, xc10, xc11, xc12, xc13, xc14, xc15, xc16, xc17, xc17d, hr, k, hob] | simp (maxSteps := 1000000) (disch := omega) only [exE, Int.toNat_natCast, Int.reduceToNat])
  refine oddR_of (good17d 7) (.first 0 (.first 1 (.first 2 (.first 4 (.first 5 (.fork 3 (.first 6 (.fork 7 (.first 8 (.first 9 .done)) .stop)) (.fork 6 (.fork 3 (.fork 7 (.first 8 (.first 9 .done)) .stop) .stop) .stop))))))) (by kernel_rfl) ?_
  repeat (first | simp only [c17d_P, c17d_odd, c17d_ro, Nat.reduceBEq, reduceIte, Nat.reduceEqDiff, reduceCtorEq, ne_eq, if_true, if_false, exA, exA, tabs, exB, exD, buildA, rowOr, rowSetAt, rowAgg, mkAgg, AV.isAggV, AV.parts, AV.one, AV.solid, headSize, indexAddrA, indexA, fieldAddrA, fieldA, sliceA, boundsA, bndA, lenA, arrayAtA, rowOf, makeSliceA, intsOf, copyA, Nat.reduceAdd, Nat.reduceSub, Nat.reduceMul, Nat.reduceLeDiff, Nat.reduceLT, Nat.reduceGT, Int.reduceToNat, Int.reduceLE, Int.reduceLT, Int.reduceEq, Int.reduceNe, Int.reduceAdd, Int.reduceSub, Int.reduceMul, Int.reduceNeg, ite_true, ite_false, dite_true, xc1, xc2, xc3, xc4, xc5, xc6, xc7, xc8, xc9, xc10, xc11, xc12, xc13, xc14, xc15, xc16, xc17, xc17d, hr, k, hob] | simp (maxSteps := 1000000) (disch := omega) only [exE, Int.toNat_natCast, Int.reduceToNat])
  repeat' (first | exact trivial | with_reducible refine And.intro ?_ ?_)
  all_goals
    refine callM (C := c17d 7) (open_spec m o.p hsl2) [] [_, _, _, _, _] (fun _ => rfl) rfl ?_
    rintro v h' ⟨rfl, rfl⟩
    refine ⟨(mOpen m o.p).2, [], (List.append_nil _).symm, ?_⟩
    simp only [AV.ren, renL, List.map_nil, List.append_nil, mats, mfL, rats, List.cons_append, List.nil_append, List.length_cons, List.length_nil, Nat.reduceAdd]
    repeat (first | simp only [c17d_P, c17d_odd, c17d_ro, Nat.reduceBEq, reduceIte, Nat.reduceEqDiff, reduceCtorEq, ne_eq, if_true, if_false, exA, exA, tabs, exB, exD, buildA, rowOr, rowSetAt, rowAgg, mkAgg, AV.isAggV, AV.parts, AV.one, AV.solid, headSize, indexAddrA, indexA, fieldAddrA, fieldA, sliceA, boundsA, bndA, lenA, arrayAtA, rowOf, makeSliceA, intsOf, copyA, Nat.reduceAdd, Nat.reduceSub, Nat.reduceMul, Nat.reduceLeDiff, Nat.reduceLT, Nat.reduceGT, Int.reduceToNat, Int.reduceLE, Int.reduceLT, Int.reduceEq, Int.reduceNe, Int.reduceAdd, Int.reduceSub, Int.reduceMul, Int.reduceNeg, ite_true, ite_false, dite_true, xc1, xc2, xc3, xc4, xc5, xc6, xc7, xc8, xc9, xc10, xc11, xc12, xc13, xc14, xc15, xc16, xc17, xc17d, hr, k] | simp (maxSteps := 1000000) (disch := omega) only [exE, Int.toNat_natCast, Int.reduceToNat])
    refine callX (C := c17d 7) (xopen_spec x o.p hsl) [_, _, _] [_] (fun _ => rfl) rfl ?_
    rintro v h' ⟨rfl, rfl⟩
    refine ⟨(xOpen x o.p).2, [], (List.append_nil _).symm, ?_⟩
    simp only [AV.ren, renL, List.map_nil, List.append_nil, mats, mfL, rats, List.cons_append, List.nil_append, List.length_cons, List.length_nil, Nat.reduceAdd]
    repeat (first | simp only [c17d_P, c17d_odd, c17d_ro, Nat.reduceBEq, reduceIte, Nat.reduceEqDiff, reduceCtorEq, ne_eq, if_true, if_false, exA, exA, tabs, exB, exD, buildA, rowOr, rowSetAt, rowAgg, mkAgg, AV.isAggV, AV.parts, AV.one, AV.solid, headSize, indexAddrA, indexA, fieldAddrA, fieldA, sliceA, boundsA, bndA, lenA, arrayAtA, rowOf, makeSliceA, intsOf, copyA, Nat.reduceAdd, Nat.reduceSub, Nat.reduceMul, Nat.reduceLeDiff, Nat.reduceLT, Nat.reduceGT, Int.reduceToNat, Int.reduceLE, Int.reduceLT, Int.reduceEq, Int.reduceNe, Int.reduceAdd, Int.reduceSub, Int.reduceMul, Int.reduceNeg, ite_true, ite_false, dite_true, xc1, xc2, xc3, xc4, xc5, xc6, xc7, xc8, xc9, xc10, xc11, xc12, xc13, xc14, xc15, xc16, xc17, xc17d, hr, k, he] | simp (maxSteps := 1000000) (disch := omega) only [exE, Int.toNat_natCast, Int.reduceToNat])
    exact doesQ_of hs rfl
end Go.Proofs.Ytgkhngcnbddoiaa

namespace Go.Proofs.Ytgkhngcnbddoiaa
open Go.Ax
theorem write_own (m : Ms) (n : Int) (b : List Int) (c : Nat) (h2 : b.length = 512) : ACall Try.prog 10 [.ptr 0 0 0, .v (.int .i64 n), .sl 3 0 1 0 512 c] (mblk m ++ [some [.arr 512 .u8 b]]) fun v h' => v = .v (.int .i64 (mWrite m n b).1) ∧ h' = mblk (mWrite m n b).2 ++ [some [.arr 512 .u8 b]] := by
  have htk : b.take 512 = b := List.take_of_length_le (by omega)
  by_cases h1 : mayE (mfO m) n = 0
  · simp only [mWrite, h1, h2, if_true]
    unfold mfO at h1
    unfold mblk mfL
    refine acall_run (good14 4) Try.func10 rfl ⟨by kernel_rfl, by show 3 ≤ _; decide, by kernel_rfl, by kernel_rfl⟩ rfl ?_; have hr : Try.f10.results.toList = [.tmp 6] := rfl; repeat (first | simp only [c14_P, c14_odd, c14_ro, Nat.reduceBEq, reduceIte, Nat.reduceEqDiff, reduceCtorEq, ne_eq, if_true, if_false, exA, exA, tabs, exB, exD, buildA, rowOr, rowSetAt, rowAgg, mkAgg, AV.isAggV, AV.parts, AV.one, AV.solid, headSize, indexAddrA, indexA, fieldAddrA, fieldA, sliceA, boundsA, bndA, lenA, arrayAtA, rowOf, makeSliceA, intsOf, copyA, Nat.reduceAdd, Nat.reduceSub, Nat.reduceMul, Nat.reduceLeDiff, Nat.reduceLT, Nat.reduceGT, Int.reduceToNat, Int.reduceLE, Int.reduceLT, Int.reduceEq, Int.reduceNe, Int.reduceAdd, Int.reduceSub, Int.reduceMul, Int.reduceNeg, ite_true, ite_false, dite_true, xc1, xc2, xc3, xc4, xc5, xc6, xc7, xc8, xc9, xc10, xc11, xc12, xc13, xc14, hr, h1, h2, htk, mputK_a _ n b, aV_roB, up] | simp (maxSteps := 1000000) (disch := omega) only [exE, Int.toNat_natCast, Int.reduceToNat])
  · simp only [mWrite, h1, if_false]
    have h3 : (mayE (mfO m) n != 0) = true := by simpa using h1
    unfold mfO at h1 h3 ⊢
    unfold mblk mfL
    refine acall_run (good14 4) Try.func10 rfl ⟨by kernel_rfl, by show 3 ≤ _; decide, by kernel_rfl, by kernel_rfl⟩ rfl ?_; have hr : Try.f10.results.toList = [.tmp 6] := rfl; repeat (first | simp only [c14_P, c14_odd, c14_ro, Nat.reduceBEq, reduceIte, Nat.reduceEqDiff, reduceCtorEq, ne_eq, if_true, if_false, exA, exA, tabs, exB, exD, buildA, rowOr, rowSetAt, rowAgg, mkAgg, AV.isAggV, AV.parts, AV.one, AV.solid, headSize, indexAddrA, indexA, fieldAddrA, fieldA, sliceA, boundsA, bndA, lenA, arrayAtA, rowOf, makeSliceA, intsOf, copyA, Nat.reduceAdd, Nat.reduceSub, Nat.reduceMul, Nat.reduceLeDiff, Nat.reduceLT, Nat.reduceGT, Int.reduceToNat, Int.reduceLE, Int.reduceLT, Int.reduceEq, Int.reduceNe, Int.reduceAdd, Int.reduceSub, Int.reduceMul, Int.reduceNeg, ite_true, ite_false, dite_true, xc1, xc2, xc3, xc4, xc5, xc6, xc7, xc8, xc9, xc10, xc11, xc12, xc13, xc14, hr, h3] | simp (maxSteps := 1000000) (disch := omega) only [exE, Int.toNat_natCast, Int.reduceToNat])
theorem callW {C : Cfg} {m : Ms} {n : Int} {b : List Int} {c : Nat} {d : Option Tmp} {all : Array Oper} {l : List Oper} {k : List Go.Ax.KI} {e : Env} {h : List Blk} {Q : Exit → St → Prop} (hC : C.P = Try.prog)
    (hb : b.length = 512) (pre post : List Blk) (hh : h = pre ++ (mats m pre.length ++ (post ++ [some [AV.arr 512 .u8 b]])))
    (hκ : opsR C all l k ⟨put e d (.v (.int .i64 (mWrite m n b).1)), pre ++ (mats (mWrite m n b).2 pre.length ++ (post ++ [some [AV.arr 512 .u8 b]]))⟩ Q) :
    callC C 10 [.ptr pre.length 0 0, .v (.int .i64 n), .sl (pre.length + 3 + post.length) 0 1 0 512 c] d all l k e h Q := by
  have hm : ∀ (m : Ms), (mblk m ++ [some [AV.arr 512 .u8 b]]).map (renB (frameMap [pre.length, pre.length + 1, pre.length + 2, pre.length + 3 + post.length] h.length)) = mats m pre.length ++ [some [AV.arr 512 .u8 b]] := by
    intro m
    have h1 : frameMap [pre.length, pre.length + 1, pre.length + 2, pre.length + 3 + post.length] h.length 1 = pre.length + 1 := rfl
    have h2 : frameMap [pre.length, pre.length + 1, pre.length + 2, pre.length + 3 + post.length] h.length 2 = pre.length + 2 := rfl
    simp only [mblk, mats, mfL, List.cons_append, List.nil_append, List.map_cons, List.map_nil, renB, renL, AV.ren, Option.map_some, renL_roB, renL_strV, h1, h2]
  have hlen : h.length = pre.length + (3 + (post.length + 1)) := by subst hh; simp [mats]; omega
  refine callC_frame (by rw [hC]; exact write_own m n b c hb) [pre.length, pre.length + 1, pre.length + 2, pre.length + 3 + post.length] rfl rfl ?_ ?_ ?_ ?_
  · simp; omega
  · intro p hp
    simp only [List.mem_cons, List.not_mem_nil, or_false] at hp
    omega
  · intro j hj
    rw [← List.getElem?_map, hm]
    subst hh
    match j, hj with
    | 0, _ => exact mats_get m pre _ (k := 0) (by omega)
    | 1, _ => exact mats_get m pre _ (k := 1) (by omega)
    | 2, _ => exact mats_get m pre _ (k := 2) (by omega)
    | 3, _ =>
      show (pre ++ _)[pre.length + 3 + post.length]? = _
      rw [List.getElem?_append_right (by omega), List.getElem?_append_right (by simp [mats]; omega), List.getElem?_append_right (by simp [mats]; omega)]
      simp [mats]
      rw [show pre.length + 3 + post.length - pre.length - 3 - post.length = 0 by omega]
      rfl
  · rintro v h' ⟨rfl, rfl⟩
    rw [hm]
    subst hh
    have : overwrite (pre ++ (mats m pre.length ++ (post ++ [some [AV.arr 512 .u8 b]]))) [pre.length, pre.length + 1, pre.length + 2, pre.length + 3 + post.length] (mats (mWrite m n b).2 pre.length ++ [some [AV.arr 512 .u8 b]]) = pre ++ (mats (mWrite m n b).2 pre.length ++ (post ++ [some [AV.arr 512 .u8 b]])) := by
      have := mats_over m (mWrite m n b).2 pre (post ++ [some [AV.arr 512 .u8 b]]) []
      simp only [mats, List.cons_append, List.nil_append, List.append_nil, overwrite] at this ⊢
      rw [this]
      rw [List.set_append_right _ _ (by omega), show pre.length + 3 + post.length - pre.length = post.length + 3 by omega]
      simp only [List.set_cons_succ]
      rw [List.set_append_right _ _ (by omega), Nat.sub_self, List.set_cons_zero]
    rw [this]
    exact hκ
def incL (l : List Int) : Nat → List Int
  | 0 => l
  | j + 1 => (incL l j).set j (IntKind.u8.wrap ((incL l j).getD j 0 + 1))
theorem incL_len (l : List Int) : ∀ j, (incL l j).length = l.length
  | 0 => rfl
  | j + 1 => by rw [incL, List.length_set, incL_len l j]
def dS (m : Ms) (x : Rs) (o : OpV) (er : Int) (c : Nat) (j : Nat) : St :=
  ⟨envL [(0, .ptr 0 0 0), (1, .ptr 3 0 0), (5, .ptr 7 0 0), (7, .roI .u8 (blockL o.b)), (8, .sl 9 0 1 0 512 c), (9, .v (.int .i64 er)), (10, .v (.int .i64 j))],
    mats m 0 ++ (rats x 3 ++ [some [.v (.int .i64 1), .v (.int .i64 o.n), .roI .u8 o.b, .roI .u8 o.p, .any], none, some [.arr 512 .u8 (incL (blockL o.b) j)]])⟩
theorem does1 (m : Ms) (x : Rs) (o : OpV) (h : Sim m x) (ho : OpB o) (k : o.kd = 1) : ACall Try.prog 22 [.ptr 0 0 0, .ptr 3 0 0, .agg (opL o)] (mats m 0 ++ rats x 3) DoesQ := by
  have hob := ho.1
  obtain ⟨he, hs⟩ := sim_write h o.n (blockL o.b)
  have he := ieq he
  have hL : (x.L.length : Int) = x.H.sec := by rw [h.H]; exact h.Ll
  have hW : (x.W.length : Int) = x.H.sec := by rw [h.H]; exact h.Wl
  have hbl := blockL_len o.b
  have hbt : (blockL o.b).take 512 = blockL o.b := List.take_of_length_le (by omega)
  have na : ∀ n : Nat, (0 : Int) ≤ n := fun n => Int.natCast_nonneg n
  unfold opL mats mfL rats
  refine acall_run (good17d 7) Try.func22 rfl ⟨by kernel_rfl, by show 3 ≤ _; decide, by kernel_rfl, by kernel_rfl⟩ rfl ?_; have hr : Try.f22.results.toList = [.tmp 6] := rfl
  repeat (first | simp only [c17d_P, c17d_odd, c17d_ro, Nat.reduceBEq, reduceIte, Nat.reduceEqDiff, reduceCtorEq, ne_eq, if_true, if_false, exA, exA, tabs, exB, exD, buildA, rowOr, rowSetAt, rowAgg, mkAgg, AV.isAggV, AV.parts, AV.one, AV.solid, headSize, indexAddrA, indexA, fieldAddrA, fieldA, sliceA, boundsA, bndA, lenA, arrayAtA, rowOf, makeSliceA, intsOf, copyA, Nat.reduceAdd, Nat.reduceSub, Nat.reduceMul, Nat.reduceLeDiff, Nat.reduceLT, Nat.reduceGT, Int.reduceToNat, Int.reduceLE, Int.reduceLT, Int.reduceEq, Int.reduceNe, Int.reduceAdd, Int.reduceSub, Int.reduceMul, Int.reduceNeg, ite_true, ite_false, dite_true, xc1, xc2, xc3, xc4, xc5, xc6, xc7, xc8, xc9, xc10, xc11, xc12, xc13, xc14, xc15, xc16, xc17, xc17d, hr, k, hob] | simp (maxSteps := 1000000) (disch := omega) only [exE, Int.toNat_natCast, Int.reduceToNat])
  intro c _
  simp only [hbl]
  refine callW (C := c17d 7) (m := m) rfl hbl [] [_, _, _, _, _, _] rfl ?_
  simp only [AV.ren, renL, List.map_nil, List.append_nil, mats, mfL, rats, List.cons_append, List.nil_append, List.length_cons, List.length_nil, Nat.reduceAdd]
  repeat (first | simp only [c17d_P, c17d_odd, c17d_ro, Nat.reduceBEq, reduceIte, Nat.reduceEqDiff, reduceCtorEq, ne_eq, if_true, if_false, exA, exA, tabs, exB, exD, buildA, rowOr, rowSetAt, rowAgg, mkAgg, AV.isAggV, AV.parts, AV.one, AV.solid, headSize, indexAddrA, indexA, fieldAddrA, fieldA, sliceA, boundsA, bndA, lenA, arrayAtA, rowOf, makeSliceA, intsOf, copyA, Nat.reduceAdd, Nat.reduceSub, Nat.reduceMul, Nat.reduceLeDiff, Nat.reduceLT, Nat.reduceGT, Int.reduceToNat, Int.reduceLE, Int.reduceLT, Int.reduceEq, Int.reduceNe, Int.reduceAdd, Int.reduceSub, Int.reduceMul, Int.reduceNeg, ite_true, ite_false, dite_true, xc1, xc2, xc3, xc4, xc5, xc6, xc7, xc8, xc9, xc10, xc11, xc12, xc13, xc14, xc15, xc16, xc17, xc17d, hr, k, hob] | simp (maxSteps := 1000000) (disch := omega) only [exE, Int.toNat_natCast, Int.reduceToNat])
  refine loop_count (good17d 7) (dS (mWrite m o.n (blockL o.b)).2 x o (mWrite m o.n (blockL o.b)).1 c) 512 (by kernel_rfl) ?_ ?_ ?_
  · unfold dS mats mfL rats; (refine weak_of ?_ ?_; (focus (first | with_reducible rfl | (simp only [List.cons_append, List.nil_append, Int.natCast_zero, Nat.reduceAdd, incL] <;> with_reducible rfl))); simp only [exF, Nat.reduceEqDiff, if_true, if_false, reduceIte, Option.some.injEq, reduceCtorEq, Int.cast_ofNat_Int, List.cons_append, List.nil_append, Int.natCast_zero, Nat.reduceAdd, incL])
  · intro j hj
    have c1 : (j : Int) < 512 := by omega
    have w1 : IntKind.i64.wrap ((j : Int) + 1) = ((j + 1 : Nat) : Int) := by rw [i64_id _ (by omega)]; omega
    have hll : (incL (blockL o.b) j).length = 512 := by rw [incL_len]; exact hbl
    have e1 : incL (blockL o.b) (j + 1) = (incL (blockL o.b) j).set j (IntKind.u8.wrap ((incL (blockL o.b) j).getD j 0 + 1)) := rfl
    unfold dS mats mfL rats
    rw [e1]
    generalize incL (blockL o.b) j = q at hll
    repeat (first | simp only [c17d_P, c17d_odd, c17d_ro, Nat.reduceBEq, reduceIte, Nat.reduceEqDiff, reduceCtorEq, ne_eq, if_true, if_false, exA, exA, tabs, exB, exD, buildA, rowOr, rowSetAt, rowAgg, mkAgg, AV.isAggV, AV.parts, AV.one, AV.solid, headSize, indexAddrA, indexA, fieldAddrA, fieldA, sliceA, boundsA, bndA, lenA, arrayAtA, rowOf, makeSliceA, intsOf, copyA, Nat.reduceAdd, Nat.reduceSub, Nat.reduceMul, Nat.reduceLeDiff, Nat.reduceLT, Nat.reduceGT, Int.reduceToNat, Int.reduceLE, Int.reduceLT, Int.reduceEq, Int.reduceNe, Int.reduceAdd, Int.reduceSub, Int.reduceMul, Int.reduceNeg, ite_true, ite_false, dite_true, xc1, xc2, xc3, xc4, xc5, xc6, xc7, xc8, xc9, xc10, xc11, xc12, xc13, xc14, xc15, xc16, xc17, xc17d, hr, na, c1, w1, hll] | simp (maxSteps := 1000000) (disch := omega) only [exE, Int.toNat_natCast, Int.reduceToNat])
    refine ⟨hj, hj, ?_⟩
    (refine weak_of ?_ ?_; (focus (first | with_reducible rfl | (simp only [List.cons_append, List.nil_append] <;> with_reducible rfl))); simp only [exF, Nat.reduceEqDiff, if_true, if_false, reduceIte, Option.some.injEq, reduceCtorEq, Int.cast_ofNat_Int, List.cons_append, List.nil_append])
  · unfold dS mats mfL rats
    repeat (first | simp only [c17d_P, c17d_odd, c17d_ro, Nat.reduceBEq, reduceIte, Nat.reduceEqDiff, reduceCtorEq, ne_eq, if_true, if_false, exA, exA, tabs, exB, exD, buildA, rowOr, rowSetAt, rowAgg, mkAgg, AV.isAggV, AV.parts, AV.one, AV.solid, headSize, indexAddrA, indexA, fieldAddrA, fieldA, sliceA, boundsA, bndA, lenA, arrayAtA, rowOf, makeSliceA, intsOf, copyA, Nat.reduceAdd, Nat.reduceSub, Nat.reduceMul, Nat.reduceLeDiff, Nat.reduceLT, Nat.reduceGT, Int.reduceToNat, Int.reduceLE, Int.reduceLT, Int.reduceEq, Int.reduceNe, Int.reduceAdd, Int.reduceSub, Int.reduceMul, Int.reduceNeg, ite_true, ite_false, dite_true, xc1, xc2, xc3, xc4, xc5, xc6, xc7, xc8, xc9, xc10, xc11, xc12, xc13, xc14, xc15, xc16, xc17, xc17d, hr] | simp (maxSteps := 1000000) (disch := omega) only [exE, Int.toNat_natCast, Int.reduceToNat])
    refine callX (C := c17d 7) (xwrite_spec x o.n (blockL o.b) hL hW) [_, _, _] [_, _, _] (fun _ => rfl) rfl ?_
    rintro v h' ⟨rfl, ext, rfl⟩
    refine ⟨(xWrite x o.n (blockL o.b)).2, ext, rfl, ?_⟩
    simp only [AV.ren, renL, List.map_nil, List.append_nil, mats, mfL, rats, List.cons_append, List.nil_append, List.length_cons, List.length_nil, Nat.reduceAdd]
    repeat (first | simp only [c17d_P, c17d_odd, c17d_ro, Nat.reduceBEq, reduceIte, Nat.reduceEqDiff, reduceCtorEq, ne_eq, if_true, if_false, exA, exA, tabs, exB, exD, buildA, rowOr, rowSetAt, rowAgg, mkAgg, AV.isAggV, AV.parts, AV.one, AV.solid, headSize, indexAddrA, indexA, fieldAddrA, fieldA, sliceA, boundsA, bndA, lenA, arrayAtA, rowOf, makeSliceA, intsOf, copyA, Nat.reduceAdd, Nat.reduceSub, Nat.reduceMul, Nat.reduceLeDiff, Nat.reduceLT, Nat.reduceGT, Int.reduceToNat, Int.reduceLE, Int.reduceLT, Int.reduceEq, Int.reduceNe, Int.reduceAdd, Int.reduceSub, Int.reduceMul, Int.reduceNeg, ite_true, ite_false, dite_true, xc1, xc2, xc3, xc4, xc5, xc6, xc7, xc8, xc9, xc10, xc11, xc12, xc13, xc14, xc15, xc16, xc17, xc17d, hr, he] | simp (maxSteps := 1000000) (disch := omega) only [exE, Int.toNat_natCast, Int.reduceToNat])
    exact doesQ_of hs rfl
theorem does_any (m : Ms) (x : Rs) (o : OpV) (h : Sim m x) (ho : OpB o) : ACall Try.prog 22 [.ptr 0 0 0, .ptr 3 0 0, .agg (opL o)] (mats m 0 ++ rats x 3) DoesQ := by
  have bf : ∀ {a b : Int}, a ≠ b → (a == b) = false := fun h => by simpa using h
  by_cases k1 : o.kd = 1
  · exact does1 m x o h ho k1
  by_cases k2 : o.kd = 2
  · exact does2 m x o h ho k2
  by_cases k3 : o.kd = 3
  · exact does3 m x o h ho k3
  by_cases k4 : o.kd = 4
  · exact does4 m x o h ho k4
  by_cases k5 : o.kd = 5
  · exact does5 m x o h ho k5
  by_cases k6 : o.kd = 6
  · exact does6 m x o h ho k6
  by_cases k7 : o.kd = 7
  · exact does7 m x o h ho k7
  by_cases k9 : o.kd = 9
  · exact does9 m x o h ho k9
  by_cases k10 : o.kd = 10
  · exact does10 m x o h ho k10
  by_cases k14 : o.kd = 14
  · exact does14 m x o h ho k14
  exact doesI m x o h ho (bf k1) (bf k2) (bf k3) (bf k4) (bf k5) (bf k6) (bf k7) (bf k9) (bf k10) (bf k14)
end Go.Proofs.Ytgkhngcnbddoiaa

namespace Go.Proofs.Ytgkhngcnbddoiaa
open Go.Ax
theorem does_own (m : Ms) (x : Rs) (o : OpV) (h : Sim m x) (ho : OpB o) : ACall Try.prog 22 [.ptr 0 0 0, .ptr 3 0 0, .agg (opL o)] (mats m 0 ++ rats x 3) fun v h' => v = .v (.bool true) ∧ ∃ m' x', Sim m' x' ∧ h' = mats m' 0 ++ rats x' 3 := by
  refine ACall.weak (C := c17 7) rfl (does_any m x o h ho) ?_
  rintro v h' ⟨rfl, m', x', ext, hs, rfl⟩
  refine ⟨_, mats m' 0 ++ rats x' 3, ?_, rfl, m', x', hs, rfl⟩
  have g1 : ∀ n, gcMap [0, 1, 2, 3, 4, 5, 6] n 1 = 1 := fun n => rfl
  have g2 : ∀ n, gcMap [0, 1, 2, 3, 4, 5, 6] n 2 = 2 := fun n => rfl
  have g4 : ∀ n, gcMap [0, 1, 2, 3, 4, 5, 6] n 4 = 4 := fun n => rfl
  have g5 : ∀ n, gcMap [0, 1, 2, 3, 4, 5, 6] n 5 = 5 := fun n => rfl
  have g6 : ∀ n, gcMap [0, 1, 2, 3, 4, 5, 6] n 6 = 6 := fun n => rfl
  refine weak_gc' [0, 1, 2, 3, 4, 5, 6] (by decide) ?_ (by rfl) ?_ ?_
  · intro b hb
    simp only [List.mem_cons, List.not_mem_nil, or_false] at hb
    simp only [mats, rats, List.cons_append, List.nil_append, List.length_cons]
    omega
  · simp only [mats, mfL, rats, List.cons_append, List.nil_append, List.map_cons, List.map_nil, List.getElem?_cons_zero, List.getElem?_cons_succ, renB, Option.map_some, renL, AV.ren, renL_roB, renL_strV, renL_vs, renL_pr, Nat.reduceAdd, g1, g2, g4, g5, g6]
  · simp only [List.map_cons, List.map_nil, envAll_cons, envAll_nil, get_envL_cons, if_true, reduceIte, AV.ren, renL, and_self]
def othB : List Int := [111, 116, 104, 101, 114]
def SimP : Type := { p : Ms × Rs // Sim p.1 p.2 }
def lawS (b : List Int) (l : List OpV) (j : Nat) (p : SimP) : St :=
  ⟨envL [(1, .roI .u8 b), (2, .roL 5 (l.map fun o => .agg (opL o))), (7, .ptr 0 0 0), (9, .ptr 3 0 0), (11, .v (.int .i64 j))], mats p.1.1 0 ++ rats p.1.2 3⟩
theorem new_bad1 (H : Hd) (b : List Int) (hg : 0 ≤ H.gen) (hn : H.nam.length = 16) (h : newOk H b = false) : ACall Try.prog 6 [.agg (hdL H), .roI .u8 b] [] fun v h' => v = .tup [.v (.pointer none), .v (.int .i64 1)] ∧ ∃ x, h' = [x] := by
  have hn2 : H.nam.take 16 = H.nam := List.take_of_length_le (by omega)
  unfold hdL
  cases h1 : okH H
  · refine acall_run (good14 0) Try.func6 rfl ⟨by kernel_rfl, by show 2 ≤ _; decide, by kernel_rfl, by kernel_rfl⟩ rfl ?_; have hr : Try.f6.results.toList = [.tmp 4, .tmp 5] := rfl; repeat (first | simp only [c14_P, c14_odd, c14_ro, Nat.reduceBEq, reduceIte, Nat.reduceEqDiff, reduceCtorEq, ne_eq, if_true, if_false, exA, exA, tabs, exB, exD, buildA, rowOr, rowSetAt, rowAgg, mkAgg, AV.isAggV, AV.parts, AV.one, AV.solid, headSize, indexAddrA, indexA, fieldAddrA, fieldA, sliceA, boundsA, bndA, lenA, arrayAtA, rowOf, makeSliceA, intsOf, copyA, Nat.reduceAdd, Nat.reduceSub, Nat.reduceMul, Nat.reduceLeDiff, Nat.reduceLT, Nat.reduceGT, Int.reduceToNat, Int.reduceLE, Int.reduceLT, Int.reduceEq, Int.reduceNe, Int.reduceAdd, Int.reduceSub, Int.reduceMul, Int.reduceNeg, ite_true, ite_false, dite_true, xc1, xc2, xc3, xc4, xc5, xc6, xc7, xc8, xc9, xc10, xc11, xc12, xc13, xc14, hr, hg, hn, hn2, Hd_eta, errH_bne, errH_beq, h1] | simp (maxSteps := 1000000) (disch := omega) only [exE, Int.toNat_natCast, Int.reduceToNat])
    exact ⟨_, rfl⟩
  · have h2 : ¬ b.length ≤ 512 := by intro h3; simp [newOk, h1, h3] at h
    refine acall_run (good14 0) Try.func6 rfl ⟨by kernel_rfl, by show 2 ≤ _; decide, by kernel_rfl, by kernel_rfl⟩ rfl ?_; have hr : Try.f6.results.toList = [.tmp 4, .tmp 5] := rfl; repeat (first | simp only [c14_P, c14_odd, c14_ro, Nat.reduceBEq, reduceIte, Nat.reduceEqDiff, reduceCtorEq, ne_eq, if_true, if_false, exA, exA, tabs, exB, exD, buildA, rowOr, rowSetAt, rowAgg, mkAgg, AV.isAggV, AV.parts, AV.one, AV.solid, headSize, indexAddrA, indexA, fieldAddrA, fieldA, sliceA, boundsA, bndA, lenA, arrayAtA, rowOf, makeSliceA, intsOf, copyA, Nat.reduceAdd, Nat.reduceSub, Nat.reduceMul, Nat.reduceLeDiff, Nat.reduceLT, Nat.reduceGT, Int.reduceToNat, Int.reduceLE, Int.reduceLT, Int.reduceEq, Int.reduceNe, Int.reduceAdd, Int.reduceSub, Int.reduceMul, Int.reduceNeg, ite_true, ite_false, dite_true, xc1, xc2, xc3, xc4, xc5, xc6, xc7, xc8, xc9, xc10, xc11, xc12, xc13, xc14, hr, hg, hn, hn2, Hd_eta, errH_bne, errH_beq, h1, h2] | simp (maxSteps := 1000000) (disch := omega) only [exE, Int.toNat_natCast, Int.reduceToNat])
    exact ⟨_, rfl⟩
theorem does_law (H : Hd) (b : List Int) (l : List OpV) (hg : 0 ≤ H.gen) (hn : H.nam.length = 16) (hl : ∀ i, OpB (l.getD i op0)) (hll : l.length ≤ 9223372036854775807) : ACall Try.prog 4 [.agg (hdL H), .roI .u8 b, .roL 5 (l.map fun o => .agg (opL o))] [] fun v h' => v = .v (.bool true) := by
  have hn2 : H.nam.take 16 = H.nam := List.take_of_length_le (by omega)
  have na : ∀ n : Nat, (0 : Int) ≤ n := fun n => Int.natCast_nonneg n
  cases hok : newOk H b
  · unfold hdL
    refine acall_run (good14 0) Try.func4 rfl ⟨by kernel_rfl, by show 3 ≤ _; decide, by kernel_rfl, by kernel_rfl⟩ rfl ?_; have hr : Try.f4.results.toList = [.tmp 6] := rfl
    repeat (first | simp only [c14_P, c14_odd, c14_ro, Nat.reduceBEq, reduceIte, Nat.reduceEqDiff, reduceCtorEq, ne_eq, if_true, if_false, exA, exA, tabs, exB, exD, buildA, rowOr, rowSetAt, rowAgg, mkAgg, AV.isAggV, AV.parts, AV.one, AV.solid, headSize, indexAddrA, indexA, fieldAddrA, fieldA, sliceA, boundsA, bndA, lenA, arrayAtA, rowOf, makeSliceA, intsOf, copyA, Nat.reduceAdd, Nat.reduceSub, Nat.reduceMul, Nat.reduceLeDiff, Nat.reduceLT, Nat.reduceGT, Int.reduceToNat, Int.reduceLE, Int.reduceLT, Int.reduceEq, Int.reduceNe, Int.reduceAdd, Int.reduceSub, Int.reduceMul, Int.reduceNeg, ite_true, ite_false, dite_true, xc1, xc2, xc3, xc4, xc5, xc6, xc7, xc8, xc9, xc10, xc11, xc12, xc13, xc14, hr, hg, hn, hn2] | simp (maxSteps := 1000000) (disch := omega) only [exE, Int.toNat_natCast, Int.reduceToNat])
    refine callC_frame (C := c14 0) (new_bad1 H b hg hn hok) [] (by unfold hdL; rfl) rfl (by decide) (by simp) (by intro k hk; simp at hk) ?_
    rintro v h' ⟨rfl, a, rfl⟩
    simp only [overwrite, List.map_cons, List.map_nil, renL, AV.ren, List.cons_append, List.nil_append]
    repeat (first | simp only [c14_P, c14_odd, c14_ro, Nat.reduceBEq, reduceIte, Nat.reduceEqDiff, reduceCtorEq, ne_eq, if_true, if_false, exA, exA, tabs, exB, exD, buildA, rowOr, rowSetAt, rowAgg, mkAgg, AV.isAggV, AV.parts, AV.one, AV.solid, headSize, indexAddrA, indexA, fieldAddrA, fieldA, sliceA, boundsA, bndA, lenA, arrayAtA, rowOf, makeSliceA, intsOf, copyA, Nat.reduceAdd, Nat.reduceSub, Nat.reduceMul, Nat.reduceLeDiff, Nat.reduceLT, Nat.reduceGT, Int.reduceToNat, Int.reduceLE, Int.reduceLT, Int.reduceEq, Int.reduceNe, Int.reduceAdd, Int.reduceSub, Int.reduceMul, Int.reduceNeg, ite_true, ite_false, dite_true, xc1, xc2, xc3, xc4, xc5, xc6, xc7, xc8, xc9, xc10, xc11, xc12, xc13, xc14, hr, hg, hn, hn2] | simp (maxSteps := 1000000) (disch := omega) only [exE, Int.toNat_natCast, Int.reduceToNat])
    refine callC_frame (C := c14 0) (xnew_bad H b hg hn hok) [] (by unfold hdL; rfl) rfl (by decide) (by simp) (by intro k hk; simp at hk) ?_
    rintro v h' ⟨rfl, a2, rfl⟩
    simp only [overwrite, List.map_cons, List.map_nil, renL, AV.ren, List.cons_append, List.nil_append]
    repeat (first | simp only [c14_P, c14_odd, c14_ro, Nat.reduceBEq, reduceIte, Nat.reduceEqDiff, reduceCtorEq, ne_eq, if_true, if_false, exA, exA, tabs, exB, exD, buildA, rowOr, rowSetAt, rowAgg, mkAgg, AV.isAggV, AV.parts, AV.one, AV.solid, headSize, indexAddrA, indexA, fieldAddrA, fieldA, sliceA, boundsA, bndA, lenA, arrayAtA, rowOf, makeSliceA, intsOf, copyA, Nat.reduceAdd, Nat.reduceSub, Nat.reduceMul, Nat.reduceLeDiff, Nat.reduceLT, Nat.reduceGT, Int.reduceToNat, Int.reduceLE, Int.reduceLT, Int.reduceEq, Int.reduceNe, Int.reduceAdd, Int.reduceSub, Int.reduceMul, Int.reduceNeg, ite_true, ite_false, dite_true, xc1, xc2, xc3, xc4, xc5, xc6, xc7, xc8, xc9, xc10, xc11, xc12, xc13, xc14, hr] | simp (maxSteps := 1000000) (disch := omega) only [exE, Int.toNat_natCast, Int.reduceToNat])
    refine callC_of (C := c14 0) (drop_ok lives_spec (fun g => rfl) (κ := fun v h' => v = .v (.bool true) ∧ h' = _) ⟨rfl, rfl⟩) ?_
    rintro v h' ⟨rfl, rfl⟩
    repeat (first | simp only [c14_P, c14_odd, c14_ro, Nat.reduceBEq, reduceIte, Nat.reduceEqDiff, reduceCtorEq, ne_eq, if_true, if_false, exA, exA, tabs, exB, exD, buildA, rowOr, rowSetAt, rowAgg, mkAgg, AV.isAggV, AV.parts, AV.one, AV.solid, headSize, indexAddrA, indexA, fieldAddrA, fieldA, sliceA, boundsA, bndA, lenA, arrayAtA, rowOf, makeSliceA, intsOf, copyA, Nat.reduceAdd, Nat.reduceSub, Nat.reduceMul, Nat.reduceLeDiff, Nat.reduceLT, Nat.reduceGT, Int.reduceToNat, Int.reduceLE, Int.reduceLT, Int.reduceEq, Int.reduceNe, Int.reduceAdd, Int.reduceSub, Int.reduceMul, Int.reduceNeg, ite_true, ite_false, dite_true, xc1, xc2, xc3, xc4, xc5, xc6, xc7, xc8, xc9, xc10, xc11, xc12, xc13, xc14, hr] | simp (maxSteps := 1000000) (disch := omega) only [exE, Int.toNat_natCast, Int.reduceToNat])
    refine loop_count (good14 0) (fun i => ⟨envL [(1, .roI .u8 b), (2, .roL 5 (l.map fun o => .agg (opL o))), (9, .v (.pointer none)), (11, .v (.int .i64 0))], []⟩) 0 (by kernel_rfl) ?_ ?_ ?_
    · (refine weak_gc' [] (by decide) (by simp) (by rfl) ?_ ?_; (focus (first | with_reducible rfl | (simp only [List.map_cons, List.map_nil, List.cons_append, List.nil_append, List.getElem?_cons_zero, List.getElem?_cons_succ, renB, renL, Option.map_some, Option.map_none, AV.ren, gcMap, List.getD_cons_zero, List.getD_cons_succ, List.length_cons] <;> with_reducible rfl))); simp only [exF, List.map_cons, List.map_nil, List.length_cons, List.length_nil, Nat.reduceAdd, AV.ren, renL, gcMap, Nat.reduceEqDiff, if_true, if_false, reduceIte, Option.some.injEq, reduceCtorEq, Int.cast_ofNat_Int, List.length_cons])
    · intro i hi; omega
    · by_cases c0 : (0 : Int) < (l.length : Int)
      · repeat (first | simp only [c14_P, c14_odd, c14_ro, Nat.reduceBEq, reduceIte, Nat.reduceEqDiff, reduceCtorEq, ne_eq, if_true, if_false, exA, exA, tabs, exB, exD, buildA, rowOr, rowSetAt, rowAgg, mkAgg, AV.isAggV, AV.parts, AV.one, AV.solid, headSize, indexAddrA, indexA, fieldAddrA, fieldA, sliceA, boundsA, bndA, lenA, arrayAtA, rowOf, makeSliceA, intsOf, copyA, Nat.reduceAdd, Nat.reduceSub, Nat.reduceMul, Nat.reduceLeDiff, Nat.reduceLT, Nat.reduceGT, Int.reduceToNat, Int.reduceLE, Int.reduceLT, Int.reduceEq, Int.reduceNe, Int.reduceAdd, Int.reduceSub, Int.reduceMul, Int.reduceNeg, ite_true, ite_false, dite_true, xc1, xc2, xc3, xc4, xc5, xc6, xc7, xc8, xc9, xc10, xc11, xc12, xc13, xc14, hr, c0] | simp (maxSteps := 1000000) (disch := omega) only [exE, Int.toNat_natCast, Int.reduceToNat])
      · repeat (first | simp only [c14_P, c14_odd, c14_ro, Nat.reduceBEq, reduceIte, Nat.reduceEqDiff, reduceCtorEq, ne_eq, if_true, if_false, exA, exA, tabs, exB, exD, buildA, rowOr, rowSetAt, rowAgg, mkAgg, AV.isAggV, AV.parts, AV.one, AV.solid, headSize, indexAddrA, indexA, fieldAddrA, fieldA, sliceA, boundsA, bndA, lenA, arrayAtA, rowOf, makeSliceA, intsOf, copyA, Nat.reduceAdd, Nat.reduceSub, Nat.reduceMul, Nat.reduceLeDiff, Nat.reduceLT, Nat.reduceGT, Int.reduceToNat, Int.reduceLE, Int.reduceLT, Int.reduceEq, Int.reduceNe, Int.reduceAdd, Int.reduceSub, Int.reduceMul, Int.reduceNeg, ite_true, ite_false, dite_true, xc1, xc2, xc3, xc4, xc5, xc6, xc7, xc8, xc9, xc10, xc11, xc12, xc13, xc14, hr, c0] | simp (maxSteps := 1000000) (disch := omega) only [exE, Int.toNat_natCast, Int.reduceToNat])
  · unfold hdL
    refine acall_run (good17 0) Try.func4 rfl ⟨by kernel_rfl, by show 3 ≤ _; decide, by kernel_rfl, by kernel_rfl⟩ rfl ?_; have hr : Try.f4.results.toList = [.tmp 6] := rfl
    repeat (first | simp only [c17_P, c17_odd, c17_ro, Nat.reduceBEq, reduceIte, Nat.reduceEqDiff, reduceCtorEq, ne_eq, if_true, if_false, exA, exA, tabs, exB, exD, buildA, rowOr, rowSetAt, rowAgg, mkAgg, AV.isAggV, AV.parts, AV.one, AV.solid, headSize, indexAddrA, indexA, fieldAddrA, fieldA, sliceA, boundsA, bndA, lenA, arrayAtA, rowOf, makeSliceA, intsOf, copyA, Nat.reduceAdd, Nat.reduceSub, Nat.reduceMul, Nat.reduceLeDiff, Nat.reduceLT, Nat.reduceGT, Int.reduceToNat, Int.reduceLE, Int.reduceLT, Int.reduceEq, Int.reduceNe, Int.reduceAdd, Int.reduceSub, Int.reduceMul, Int.reduceNeg, ite_true, ite_false, dite_true, xc1, xc2, xc3, xc4, xc5, xc6, xc7, xc8, xc9, xc10, xc11, xc12, xc13, xc14, xc15, xc16, xc17, hr, hg, hn, hn2, hok] | simp (maxSteps := 1000000) (disch := omega) only [exE, Int.toNat_natCast, Int.reduceToNat])
    refine callC_frame (C := c17 0) (xnew_ok H b hg hn hok) [] (by unfold hdL; rfl) rfl (by decide) (by simp) (by intro k hk; simp at hk) ?_
    rintro v h' ⟨c, rfl, rfl⟩
    have z0 : frameMap [] 4 0 = 4 := rfl
    have z1 : frameMap [] 4 1 = 5 := rfl
    have z2 : frameMap [] 4 2 = 6 := rfl
    have z3 : frameMap [] 4 3 = 7 := rfl
    simp only [overwrite, mats, mfL, rblk, rfL, List.map_cons, List.map_nil, renB, Option.map_some, renL, AV.ren, z0, z1, z2, z3, renL_roB, renL_strV, renL_vs, renL_pr, List.cons_append, List.nil_append, List.length_cons, List.length_nil, Nat.reduceAdd]
    repeat (first | simp only [c17_P, c17_odd, c17_ro, Nat.reduceBEq, reduceIte, Nat.reduceEqDiff, reduceCtorEq, ne_eq, if_true, if_false, exA, exA, tabs, exB, exD, buildA, rowOr, rowSetAt, rowAgg, mkAgg, AV.isAggV, AV.parts, AV.one, AV.solid, headSize, indexAddrA, indexA, fieldAddrA, fieldA, sliceA, boundsA, bndA, lenA, arrayAtA, rowOf, makeSliceA, intsOf, copyA, Nat.reduceAdd, Nat.reduceSub, Nat.reduceMul, Nat.reduceLeDiff, Nat.reduceLT, Nat.reduceGT, Int.reduceToNat, Int.reduceLE, Int.reduceLT, Int.reduceEq, Int.reduceNe, Int.reduceAdd, Int.reduceSub, Int.reduceMul, Int.reduceNeg, ite_true, ite_false, dite_true, xc1, xc2, xc3, xc4, xc5, xc6, xc7, xc8, xc9, xc10, xc11, xc12, xc13, xc14, xc15, xc16, xc17, hr, hg, hn, hn2, hok] | simp (maxSteps := 1000000) (disch := omega) only [exE, Int.toNat_natCast, Int.reduceToNat])
    refine loop_countE (good17 0) (lawS b l) l.length (by kernel_rfl) ⟨⟨(mNew H b, xNew H b c), sim_new H b c hn hok⟩, ?_⟩ ?_ ?_
    · unfold lawS mats mfL rats; (refine weak_gc' [1, 2, 3, 4, 5, 6, 7] (by decide) (by simp) (by rfl) ?_ ?_; (focus (first | with_reducible rfl | (simp only [List.map_cons, List.map_nil, List.cons_append, List.nil_append, List.getElem?_cons_zero, List.getElem?_cons_succ, renB, renL, Option.map_some, Option.map_none, AV.ren, gcMap, List.getD_cons_zero, List.getD_cons_succ, mNew, aK, aV, roB, strV, renL, renL_vs, renL_pr, renL_roB, renL_strV, List.cons_append, List.nil_append, List.length_cons, List.length_nil, Nat.reduceAdd, Int.natCast_zero] <;> with_reducible rfl))); simp only [exF, List.map_cons, List.map_nil, List.length_cons, List.length_nil, Nat.reduceAdd, AV.ren, renL, gcMap, Nat.reduceEqDiff, if_true, if_false, reduceIte, Option.some.injEq, reduceCtorEq, Int.cast_ofNat_Int, mNew, aK, aV, roB, strV, renL, renL_vs, renL_pr, renL_roB, renL_strV, List.cons_append, List.nil_append, List.length_cons, List.length_nil, Nat.reduceAdd, Int.natCast_zero])
    · rintro i ⟨⟨m, x⟩, hsim⟩ hi
      have hsim : Sim m x := hsim
      have c1 : (i : Int) < (l.length : Int) := by omega
      have w1 : IntKind.i64.wrap ((i : Int) + 1) = ((i + 1 : Nat) : Int) := by rw [i64_id _ (by omega)]; omega
      have hob := hl i
      have hgt : (l.map fun o => AV.agg (opL o)).getD i .any = .agg (opL (l.getD i op0)) := by
        simp [List.getD_eq_getElem?_getD, show i < l.length by omega]
      generalize l.getD i op0 = o at hob hgt
      unfold lawS mats mfL rats
      simp only
      repeat (first | simp only [c17_P, c17_odd, c17_ro, Nat.reduceBEq, reduceIte, Nat.reduceEqDiff, reduceCtorEq, ne_eq, if_true, if_false, exA, exA, tabs, exB, exD, buildA, rowOr, rowSetAt, rowAgg, mkAgg, AV.isAggV, AV.parts, AV.one, AV.solid, headSize, indexAddrA, indexA, fieldAddrA, fieldA, sliceA, boundsA, bndA, lenA, arrayAtA, rowOf, makeSliceA, intsOf, copyA, Nat.reduceAdd, Nat.reduceSub, Nat.reduceMul, Nat.reduceLeDiff, Nat.reduceLT, Nat.reduceGT, Int.reduceToNat, Int.reduceLE, Int.reduceLT, Int.reduceEq, Int.reduceNe, Int.reduceAdd, Int.reduceSub, Int.reduceMul, Int.reduceNeg, ite_true, ite_false, dite_true, xc1, xc2, xc3, xc4, xc5, xc6, xc7, xc8, xc9, xc10, xc11, xc12, xc13, xc14, xc15, xc16, xc17, hr, c1, na, w1, hgt] | simp (maxSteps := 1000000) (disch := omega) only [exE, Int.toNat_natCast, Int.reduceToNat])
      by_cases h5 : (((i % 6 : Nat) : Int) == 5) = true
      · repeat (first | simp only [c17_P, c17_odd, c17_ro, Nat.reduceBEq, reduceIte, Nat.reduceEqDiff, reduceCtorEq, ne_eq, if_true, if_false, exA, exA, tabs, exB, exD, buildA, rowOr, rowSetAt, rowAgg, mkAgg, AV.isAggV, AV.parts, AV.one, AV.solid, headSize, indexAddrA, indexA, fieldAddrA, fieldA, sliceA, boundsA, bndA, lenA, arrayAtA, rowOf, makeSliceA, intsOf, copyA, Nat.reduceAdd, Nat.reduceSub, Nat.reduceMul, Nat.reduceLeDiff, Nat.reduceLT, Nat.reduceGT, Int.reduceToNat, Int.reduceLE, Int.reduceLT, Int.reduceEq, Int.reduceNe, Int.reduceAdd, Int.reduceSub, Int.reduceMul, Int.reduceNeg, ite_true, ite_false, dite_true, xc1, xc2, xc3, xc4, xc5, xc6, xc7, xc8, xc9, xc10, xc11, xc12, xc13, xc14, xc15, xc16, xc17, hr, h5] | simp (maxSteps := 1000000) (disch := omega) only [exE, Int.toNat_natCast, Int.reduceToNat])
        refine callM (C := c17 0) (fork_spec m hsim.nam hsim.tre) [] [_, _, _, _] (fun _ => rfl) rfl ?_
        rintro v h' ⟨rfl, rfl⟩
        refine ⟨m, _, rfl, ?_⟩
        simp only [AV.ren, renL, List.map_cons, List.map_nil, List.append_nil, mats, mfL, rats, List.cons_append, List.nil_append, List.length_cons, List.length_nil, Nat.reduceAdd, renB, Option.map_some, renL_roB, renL_strV, renL_bl, renL_vs, renL_pr, fm3, fm4, fm5, fx4, fx5, fx6]
        repeat (first | simp only [c17_P, c17_odd, c17_ro, Nat.reduceBEq, reduceIte, Nat.reduceEqDiff, reduceCtorEq, ne_eq, if_true, if_false, exA, exA, tabs, exB, exD, buildA, rowOr, rowSetAt, rowAgg, mkAgg, AV.isAggV, AV.parts, AV.one, AV.solid, headSize, indexAddrA, indexA, fieldAddrA, fieldA, sliceA, boundsA, bndA, lenA, arrayAtA, rowOf, makeSliceA, intsOf, copyA, Nat.reduceAdd, Nat.reduceSub, Nat.reduceMul, Nat.reduceLeDiff, Nat.reduceLT, Nat.reduceGT, Int.reduceToNat, Int.reduceLE, Int.reduceLT, Int.reduceEq, Int.reduceNe, Int.reduceAdd, Int.reduceSub, Int.reduceMul, Int.reduceNeg, ite_true, ite_false, dite_true, xc1, xc2, xc3, xc4, xc5, xc6, xc7, xc8, xc9, xc10, xc11, xc12, xc13, xc14, xc15, xc16, xc17, hr] | simp (maxSteps := 1000000) (disch := omega) only [exE, Int.toNat_natCast, Int.reduceToNat])
        refine callM (C := c17 0) (open_spec m b (by have := okH_iff.1 hsim.ok; omega)) [] [_, _, _, _, _, _, _] (fun _ => rfl) rfl ?_
        rintro v h' ⟨rfl, rfl⟩
        refine ⟨(mOpen m b).2, [], (List.append_nil _).symm, ?_⟩
        simp only [AV.ren, renL, List.map_cons, List.map_nil, List.append_nil, mats, mfL, rats, List.cons_append, List.nil_append, List.length_cons, List.length_nil, Nat.reduceAdd, renB, Option.map_some, renL_roB, renL_strV, renL_bl, renL_vs, renL_pr, fm3, fm4, fm5, fx4, fx5, fx6]
        repeat (first | simp only [c17_P, c17_odd, c17_ro, Nat.reduceBEq, reduceIte, Nat.reduceEqDiff, reduceCtorEq, ne_eq, if_true, if_false, exA, exA, tabs, exB, exD, buildA, rowOr, rowSetAt, rowAgg, mkAgg, AV.isAggV, AV.parts, AV.one, AV.solid, headSize, indexAddrA, indexA, fieldAddrA, fieldA, sliceA, boundsA, bndA, lenA, arrayAtA, rowOf, makeSliceA, intsOf, copyA, Nat.reduceAdd, Nat.reduceSub, Nat.reduceMul, Nat.reduceLeDiff, Nat.reduceLT, Nat.reduceGT, Int.reduceToNat, Int.reduceLE, Int.reduceLT, Int.reduceEq, Int.reduceNe, Int.reduceAdd, Int.reduceSub, Int.reduceMul, Int.reduceNeg, ite_true, ite_false, dite_true, xc1, xc2, xc3, xc4, xc5, xc6, xc7, xc8, xc9, xc10, xc11, xc12, xc13, xc14, xc15, xc16, xc17, hr] | simp (maxSteps := 1000000) (disch := omega) only [exE, Int.toNat_natCast, Int.reduceToNat])
        refine callM (C := c17 0) (write_spec (mOpen m b).2 0 (blockL othB) (by rw [blockL_len]; decide)) [] [_, _, _, _, _, _, _, _] (fun _ => rfl) rfl ?_
        rintro v h' ⟨rfl, rfl⟩
        refine ⟨(mWrite (mOpen m b).2 0 (blockL othB)).2, [], (List.append_nil _).symm, ?_⟩
        simp only [AV.ren, renL, List.map_cons, List.map_nil, List.append_nil, mats, mfL, rats, List.cons_append, List.nil_append, List.length_cons, List.length_nil, Nat.reduceAdd, renB, Option.map_some, renL_roB, renL_strV, renL_bl, renL_vs, renL_pr, fm3, fm4, fm5, fx4, fx5, fx6]
        repeat (first | simp only [c17_P, c17_odd, c17_ro, Nat.reduceBEq, reduceIte, Nat.reduceEqDiff, reduceCtorEq, ne_eq, if_true, if_false, exA, exA, tabs, exB, exD, buildA, rowOr, rowSetAt, rowAgg, mkAgg, AV.isAggV, AV.parts, AV.one, AV.solid, headSize, indexAddrA, indexA, fieldAddrA, fieldA, sliceA, boundsA, bndA, lenA, arrayAtA, rowOf, makeSliceA, intsOf, copyA, Nat.reduceAdd, Nat.reduceSub, Nat.reduceMul, Nat.reduceLeDiff, Nat.reduceLT, Nat.reduceGT, Int.reduceToNat, Int.reduceLE, Int.reduceLT, Int.reduceEq, Int.reduceNe, Int.reduceAdd, Int.reduceSub, Int.reduceMul, Int.reduceNeg, ite_true, ite_false, dite_true, xc1, xc2, xc3, xc4, xc5, xc6, xc7, xc8, xc9, xc10, xc11, xc12, xc13, xc14, xc15, xc16, xc17, hr] | simp (maxSteps := 1000000) (disch := omega) only [exE, Int.toNat_natCast, Int.reduceToNat])
        refine callM (C := c17 0) (rekeyStart_spec (mWrite (mOpen m b).2 0 (blockL othB)).2) [] [_, _, _, _, _, _, _, _] (fun _ => rfl) rfl ?_
        rintro v h' ⟨rfl, rfl⟩
        refine ⟨(mRekeyStart (mWrite (mOpen m b).2 0 (blockL othB)).2).2, [], (List.append_nil _).symm, ?_⟩
        simp only [AV.ren, renL, List.map_cons, List.map_nil, List.append_nil, mats, mfL, rats, List.cons_append, List.nil_append, List.length_cons, List.length_nil, Nat.reduceAdd, renB, Option.map_some, renL_roB, renL_strV, renL_bl, renL_vs, renL_pr, fm3, fm4, fm5, fx4, fx5, fx6]
        repeat (first | simp only [c17_P, c17_odd, c17_ro, Nat.reduceBEq, reduceIte, Nat.reduceEqDiff, reduceCtorEq, ne_eq, if_true, if_false, exA, exA, tabs, exB, exD, buildA, rowOr, rowSetAt, rowAgg, mkAgg, AV.isAggV, AV.parts, AV.one, AV.solid, headSize, indexAddrA, indexA, fieldAddrA, fieldA, sliceA, boundsA, bndA, lenA, arrayAtA, rowOf, makeSliceA, intsOf, copyA, Nat.reduceAdd, Nat.reduceSub, Nat.reduceMul, Nat.reduceLeDiff, Nat.reduceLT, Nat.reduceGT, Int.reduceToNat, Int.reduceLE, Int.reduceLT, Int.reduceEq, Int.reduceNe, Int.reduceAdd, Int.reduceSub, Int.reduceMul, Int.reduceNeg, ite_true, ite_false, dite_true, xc1, xc2, xc3, xc4, xc5, xc6, xc7, xc8, xc9, xc10, xc11, xc12, xc13, xc14, xc15, xc16, xc17, hr, na, hgt, c1] | simp (maxSteps := 1000000) (disch := omega) only [exE, Int.toNat_natCast, Int.reduceToNat])
        have f1 : ∀ n, frameMap [7, 8, 9, 3, 4, 5, 6] n 1 = 8 := fun n => rfl
        have f2 : ∀ n, frameMap [7, 8, 9, 3, 4, 5, 6] n 2 = 9 := fun n => rfl
        have f4 : ∀ n, frameMap [7, 8, 9, 3, 4, 5, 6] n 4 = 4 := fun n => rfl
        have f5 : ∀ n, frameMap [7, 8, 9, 3, 4, 5, 6] n 5 = 5 := fun n => rfl
        have f6 : ∀ n, frameMap [7, 8, 9, 3, 4, 5, 6] n 6 = 6 := fun n => rfl
        refine callC_frame (C := c17 0) (does_own m x o hsim hob) [7, 8, 9, 3, 4, 5, 6] rfl rfl (by decide) (by simp) ?_ ?_
        · intro q hq
          rw [← List.getElem?_map]
          simp only [mats, mfL, rats, List.cons_append, List.nil_append, List.map_cons, List.map_nil, renB, Option.map_some, renL, AV.ren, renL_roB, renL_strV, renL_vs, renL_pr, Nat.reduceAdd, f1, f2, f4, f5, f6]
          match q, hq with
          | 0, _ => rfl
          | 1, _ => rfl
          | 2, _ => rfl
          | 3, _ => rfl
          | 4, _ => rfl
          | 5, _ => rfl
          | 6, _ => rfl
        rintro v h' ⟨rfl, m', x', hs', rfl⟩
        simp only [mats, mfL, rats, List.cons_append, List.nil_append, List.map_cons, List.map_nil, renB, Option.map_some, renL, AV.ren, renL_roB, renL_strV, renL_vs, renL_pr, Nat.reduceAdd, f1, f2, f4, f5, f6, overwrite, List.set_cons_zero, List.set_cons_succ]
        repeat (first | simp only [c17_P, c17_odd, c17_ro, Nat.reduceBEq, reduceIte, Nat.reduceEqDiff, reduceCtorEq, ne_eq, if_true, if_false, exA, exA, tabs, exB, exD, buildA, rowOr, rowSetAt, rowAgg, mkAgg, AV.isAggV, AV.parts, AV.one, AV.solid, headSize, indexAddrA, indexA, fieldAddrA, fieldA, sliceA, boundsA, bndA, lenA, arrayAtA, rowOf, makeSliceA, intsOf, copyA, Nat.reduceAdd, Nat.reduceSub, Nat.reduceMul, Nat.reduceLeDiff, Nat.reduceLT, Nat.reduceGT, Int.reduceToNat, Int.reduceLE, Int.reduceLT, Int.reduceEq, Int.reduceNe, Int.reduceAdd, Int.reduceSub, Int.reduceMul, Int.reduceNeg, ite_true, ite_false, dite_true, xc1, xc2, xc3, xc4, xc5, xc6, xc7, xc8, xc9, xc10, xc11, xc12, xc13, xc14, xc15, xc16, xc17, hr, w1] | simp (maxSteps := 1000000) (disch := omega) only [exE, Int.toNat_natCast, Int.reduceToNat])
        have hwl := sim_written hs'
        have hwW : x'.W.length ≤ 1048576 := by have := hs'.Wl; have := okH_iff.1 hs'.ok; omega
        have hk2 : ∀ k ∈ aK m'.S, 0 ≤ k ∧ k ≤ 1048576 := fun k hk => by have := hs'.rS k hk; have := okH_iff.1 hs'.ok; omega
        have hsl : (srt (aK m'.S)).length = (aK m'.S).length := by simp [srt]
        have hrl := rise_len (wf x') x'.W.length
        have hs8 : (srt (aK m'.S)).length ≤ 1048576 := by rw [hwl]; omega
        have hml : m'.S.length ≤ 1048576 := by rw [← aK_len, ← hsl]; exact hs8
        have htk : (srt (aK m'.S)).take (aK m'.S).length = srt (aK m'.S) := List.take_of_length_le (by omega)
        refine callM (C := c17 0) (written_spec m' hk2 hml) [_, _, _, _, _, _, _] [_] (fun _ => rfl) rfl ?_
        rintro v h' (⟨ha, rfl, x1, rfl⟩ | ⟨cc, x1, rfl, rfl⟩)
        · refine ⟨m', _, rfl, ?_⟩
          simp only [AV.ren, renL, List.map_cons, List.map_nil, List.append_nil, mats, mfL, rats, List.cons_append, List.nil_append, List.length_cons, List.length_nil, Nat.reduceAdd, renB, Option.map_some, renL_roB, renL_strV, renL_bl, renL_vs, renL_pr, fm3, fm4, fm5, fx4, fx5, fx6]
          repeat (first | simp only [c17_P, c17_odd, c17_ro, Nat.reduceBEq, reduceIte, Nat.reduceEqDiff, reduceCtorEq, ne_eq, if_true, if_false, exA, exA, tabs, exB, exD, buildA, rowOr, rowSetAt, rowAgg, mkAgg, AV.isAggV, AV.parts, AV.one, AV.solid, headSize, indexAddrA, indexA, fieldAddrA, fieldA, sliceA, boundsA, bndA, lenA, arrayAtA, rowOf, makeSliceA, intsOf, copyA, Nat.reduceAdd, Nat.reduceSub, Nat.reduceMul, Nat.reduceLeDiff, Nat.reduceLT, Nat.reduceGT, Int.reduceToNat, Int.reduceLE, Int.reduceLT, Int.reduceEq, Int.reduceNe, Int.reduceAdd, Int.reduceSub, Int.reduceMul, Int.reduceNeg, ite_true, ite_false, dite_true, xc1, xc2, xc3, xc4, xc5, xc6, xc7, xc8, xc9, xc10, xc11, xc12, xc13, xc14, xc15, xc16, xc17, hr, w1] | simp (maxSteps := 1000000) (disch := omega) only [exE, Int.toNat_natCast, Int.reduceToNat])
          refine callX (C := c17 0) (xwritten_spec x' hwW) [_, _, _] [_, _, _, _, _] (fun _ => rfl) rfl ?_
          rintro v h' (⟨hb0, rfl, rfl⟩ | ⟨cd, rfl, rfl⟩)
          · refine ⟨x', [], (List.append_nil _).symm, ?_⟩
            simp only [AV.ren, renL, List.map_cons, List.map_nil, List.append_nil, mats, mfL, rats, List.cons_append, List.nil_append, List.length_cons, List.length_nil, Nat.reduceAdd, renB, Option.map_some, renL_roB, renL_strV, renL_bl, renL_vs, renL_pr, fm3, fm4, fm5, fx4, fx5, fx6]
            repeat (first | simp only [c17_P, c17_odd, c17_ro, Nat.reduceBEq, reduceIte, Nat.reduceEqDiff, reduceCtorEq, ne_eq, if_true, if_false, exA, exA, tabs, exB, exD, buildA, rowOr, rowSetAt, rowAgg, mkAgg, AV.isAggV, AV.parts, AV.one, AV.solid, headSize, indexAddrA, indexA, fieldAddrA, fieldA, sliceA, boundsA, bndA, lenA, arrayAtA, rowOf, makeSliceA, intsOf, copyA, Nat.reduceAdd, Nat.reduceSub, Nat.reduceMul, Nat.reduceLeDiff, Nat.reduceLT, Nat.reduceGT, Int.reduceToNat, Int.reduceLE, Int.reduceLT, Int.reduceEq, Int.reduceNe, Int.reduceAdd, Int.reduceSub, Int.reduceMul, Int.reduceNeg, ite_true, ite_false, dite_true, xc1, xc2, xc3, xc4, xc5, xc6, xc7, xc8, xc9, xc10, xc11, xc12, xc13, xc14, xc15, xc16, xc17, hr, w1] | simp (maxSteps := 1000000) (disch := omega) only [exE, Int.toNat_natCast, Int.reduceToNat])
            refine callC_of (C := c17 0) (same_ok (l := srt (aK m'.S)) hs8 (by rw [show srt (aK m'.S) = [] by rw [ha]; simp [srt]]; exact Frz.nil _) (by rw [hwl, hb0]; exact Frz.nil _) (κ := fun v h' => v = .v (.bool true) ∧ h' = _) ⟨rfl, rfl⟩) ?_
            rintro v h' ⟨rfl, rfl⟩
            repeat (first | simp only [c17_P, c17_odd, c17_ro, Nat.reduceBEq, reduceIte, Nat.reduceEqDiff, reduceCtorEq, ne_eq, if_true, if_false, exA, exA, tabs, exB, exD, buildA, rowOr, rowSetAt, rowAgg, mkAgg, AV.isAggV, AV.parts, AV.one, AV.solid, headSize, indexAddrA, indexA, fieldAddrA, fieldA, sliceA, boundsA, bndA, lenA, arrayAtA, rowOf, makeSliceA, intsOf, copyA, Nat.reduceAdd, Nat.reduceSub, Nat.reduceMul, Nat.reduceLeDiff, Nat.reduceLT, Nat.reduceGT, Int.reduceToNat, Int.reduceLE, Int.reduceLT, Int.reduceEq, Int.reduceNe, Int.reduceAdd, Int.reduceSub, Int.reduceMul, Int.reduceNeg, ite_true, ite_false, dite_true, xc1, xc2, xc3, xc4, xc5, xc6, xc7, xc8, xc9, xc10, xc11, xc12, xc13, xc14, xc15, xc16, xc17, hr, w1] | simp (maxSteps := 1000000) (disch := omega) only [exE, Int.toNat_natCast, Int.reduceToNat])
            refine ⟨⟨(m', x'), hs'⟩, ?_⟩
            (refine weak_gc' [7, 8, 9, 3, 4, 5, 6] (by decide) (by simp) (by rfl) ?_ ?_; (focus (first | with_reducible rfl | (simp only [List.map_cons, List.map_nil, List.cons_append, List.nil_append, List.getElem?_cons_zero, List.getElem?_cons_succ, renB, renL, Option.map_some, Option.map_none, AV.ren, gcMap, List.getD_cons_zero, List.getD_cons_succ, renL, renL_vs, renL_pr, renL_roB, renL_strV, List.cons_append, List.nil_append, Nat.reduceAdd] <;> with_reducible rfl))); simp only [exF, List.map_cons, List.map_nil, List.length_cons, List.length_nil, Nat.reduceAdd, AV.ren, renL, gcMap, Nat.reduceEqDiff, if_true, if_false, reduceIte, Option.some.injEq, reduceCtorEq, Int.cast_ofNat_Int, renL, renL_vs, renL_pr, renL_roB, renL_strV, List.cons_append, List.nil_append, Nat.reduceAdd])
          · refine ⟨x', _, rfl, ?_⟩
            simp only [AV.ren, renL, List.map_cons, List.map_nil, List.append_nil, mats, mfL, rats, List.cons_append, List.nil_append, List.length_cons, List.length_nil, Nat.reduceAdd, renB, Option.map_some, renL_roB, renL_strV, renL_bl, renL_vs, renL_pr, fm3, fm4, fm5, fx4, fx5, fx6]
            repeat (first | simp only [c17_P, c17_odd, c17_ro, Nat.reduceBEq, reduceIte, Nat.reduceEqDiff, reduceCtorEq, ne_eq, if_true, if_false, exA, exA, tabs, exB, exD, buildA, rowOr, rowSetAt, rowAgg, mkAgg, AV.isAggV, AV.parts, AV.one, AV.solid, headSize, indexAddrA, indexA, fieldAddrA, fieldA, sliceA, boundsA, bndA, lenA, arrayAtA, rowOf, makeSliceA, intsOf, copyA, Nat.reduceAdd, Nat.reduceSub, Nat.reduceMul, Nat.reduceLeDiff, Nat.reduceLT, Nat.reduceGT, Int.reduceToNat, Int.reduceLE, Int.reduceLT, Int.reduceEq, Int.reduceNe, Int.reduceAdd, Int.reduceSub, Int.reduceMul, Int.reduceNeg, ite_true, ite_false, dite_true, xc1, xc2, xc3, xc4, xc5, xc6, xc7, xc8, xc9, xc10, xc11, xc12, xc13, xc14, xc15, xc16, xc17, hr, w1] | simp (maxSteps := 1000000) (disch := omega) only [exE, Int.toNat_natCast, Int.reduceToNat])
            refine callC_of (C := c17 0) (same_ok (l := srt (aK m'.S)) hs8 (by rw [show srt (aK m'.S) = [] by rw [ha]; simp [srt]]; exact Frz.nil _) (by rw [hwl]; exact Frz.ints (by simp [List.mem_range]) (by simp [intsOf, row_def, rowS, noMap, rowDrop, oguard])) (κ := fun v h' => v = .v (.bool true) ∧ h' = _) ⟨rfl, rfl⟩) ?_
            rintro v h' ⟨rfl, rfl⟩
            repeat (first | simp only [c17_P, c17_odd, c17_ro, Nat.reduceBEq, reduceIte, Nat.reduceEqDiff, reduceCtorEq, ne_eq, if_true, if_false, exA, exA, tabs, exB, exD, buildA, rowOr, rowSetAt, rowAgg, mkAgg, AV.isAggV, AV.parts, AV.one, AV.solid, headSize, indexAddrA, indexA, fieldAddrA, fieldA, sliceA, boundsA, bndA, lenA, arrayAtA, rowOf, makeSliceA, intsOf, copyA, Nat.reduceAdd, Nat.reduceSub, Nat.reduceMul, Nat.reduceLeDiff, Nat.reduceLT, Nat.reduceGT, Int.reduceToNat, Int.reduceLE, Int.reduceLT, Int.reduceEq, Int.reduceNe, Int.reduceAdd, Int.reduceSub, Int.reduceMul, Int.reduceNeg, ite_true, ite_false, dite_true, xc1, xc2, xc3, xc4, xc5, xc6, xc7, xc8, xc9, xc10, xc11, xc12, xc13, xc14, xc15, xc16, xc17, hr, w1] | simp (maxSteps := 1000000) (disch := omega) only [exE, Int.toNat_natCast, Int.reduceToNat])
            refine ⟨⟨(m', x'), hs'⟩, ?_⟩
            (refine weak_gc' [7, 8, 9, 3, 4, 5, 6] (by decide) (by simp) (by rfl) ?_ ?_; (focus (first | with_reducible rfl | (simp only [List.map_cons, List.map_nil, List.cons_append, List.nil_append, List.getElem?_cons_zero, List.getElem?_cons_succ, renB, renL, Option.map_some, Option.map_none, AV.ren, gcMap, List.getD_cons_zero, List.getD_cons_succ, renL, renL_vs, renL_pr, renL_roB, renL_strV, List.cons_append, List.nil_append, Nat.reduceAdd] <;> with_reducible rfl))); simp only [exF, List.map_cons, List.map_nil, List.length_cons, List.length_nil, Nat.reduceAdd, AV.ren, renL, gcMap, Nat.reduceEqDiff, if_true, if_false, reduceIte, Option.some.injEq, reduceCtorEq, Int.cast_ofNat_Int, renL, renL_vs, renL_pr, renL_roB, renL_strV, List.cons_append, List.nil_append, Nat.reduceAdd])
        · refine ⟨m', _, rfl, ?_⟩
          simp only [AV.ren, renL, List.map_cons, List.map_nil, List.append_nil, mats, mfL, rats, List.cons_append, List.nil_append, List.length_cons, List.length_nil, Nat.reduceAdd, renB, Option.map_some, renL_roB, renL_strV, renL_bl, renL_vs, renL_pr, fm3, fm4, fm5, fx4, fx5, fx6]
          repeat (first | simp only [c17_P, c17_odd, c17_ro, Nat.reduceBEq, reduceIte, Nat.reduceEqDiff, reduceCtorEq, ne_eq, if_true, if_false, exA, exA, tabs, exB, exD, buildA, rowOr, rowSetAt, rowAgg, mkAgg, AV.isAggV, AV.parts, AV.one, AV.solid, headSize, indexAddrA, indexA, fieldAddrA, fieldA, sliceA, boundsA, bndA, lenA, arrayAtA, rowOf, makeSliceA, intsOf, copyA, Nat.reduceAdd, Nat.reduceSub, Nat.reduceMul, Nat.reduceLeDiff, Nat.reduceLT, Nat.reduceGT, Int.reduceToNat, Int.reduceLE, Int.reduceLT, Int.reduceEq, Int.reduceNe, Int.reduceAdd, Int.reduceSub, Int.reduceMul, Int.reduceNeg, ite_true, ite_false, dite_true, xc1, xc2, xc3, xc4, xc5, xc6, xc7, xc8, xc9, xc10, xc11, xc12, xc13, xc14, xc15, xc16, xc17, hr, w1] | simp (maxSteps := 1000000) (disch := omega) only [exE, Int.toNat_natCast, Int.reduceToNat])
          refine callX (C := c17 0) (xwritten_spec x' hwW) [_, _, _] [_, _, _, _, _, _] (fun _ => rfl) rfl ?_
          rintro v h' (⟨hb0, rfl, rfl⟩ | ⟨cd, rfl, rfl⟩)
          · refine ⟨x', [], (List.append_nil _).symm, ?_⟩
            simp only [AV.ren, renL, List.map_cons, List.map_nil, List.append_nil, mats, mfL, rats, List.cons_append, List.nil_append, List.length_cons, List.length_nil, Nat.reduceAdd, renB, Option.map_some, renL_roB, renL_strV, renL_bl, renL_vs, renL_pr, fm3, fm4, fm5, fx4, fx5, fx6]
            repeat (first | simp only [c17_P, c17_odd, c17_ro, Nat.reduceBEq, reduceIte, Nat.reduceEqDiff, reduceCtorEq, ne_eq, if_true, if_false, exA, exA, tabs, exB, exD, buildA, rowOr, rowSetAt, rowAgg, mkAgg, AV.isAggV, AV.parts, AV.one, AV.solid, headSize, indexAddrA, indexA, fieldAddrA, fieldA, sliceA, boundsA, bndA, lenA, arrayAtA, rowOf, makeSliceA, intsOf, copyA, Nat.reduceAdd, Nat.reduceSub, Nat.reduceMul, Nat.reduceLeDiff, Nat.reduceLT, Nat.reduceGT, Int.reduceToNat, Int.reduceLE, Int.reduceLT, Int.reduceEq, Int.reduceNe, Int.reduceAdd, Int.reduceSub, Int.reduceMul, Int.reduceNeg, ite_true, ite_false, dite_true, xc1, xc2, xc3, xc4, xc5, xc6, xc7, xc8, xc9, xc10, xc11, xc12, xc13, xc14, xc15, xc16, xc17, hr, w1] | simp (maxSteps := 1000000) (disch := omega) only [exE, Int.toNat_natCast, Int.reduceToNat])
            refine callC_of (C := c17 0) (same_ok (l := srt (aK m'.S)) hs8 (Frz.ints (by simp [List.mem_range]) (by simp [intsOf, row_def, rowS, noMap, rowDrop, oguard, htk])) (by rw [hwl, hb0]; exact Frz.nil _) (κ := fun v h' => v = .v (.bool true) ∧ h' = _) ⟨rfl, rfl⟩) ?_
            rintro v h' ⟨rfl, rfl⟩
            repeat (first | simp only [c17_P, c17_odd, c17_ro, Nat.reduceBEq, reduceIte, Nat.reduceEqDiff, reduceCtorEq, ne_eq, if_true, if_false, exA, exA, tabs, exB, exD, buildA, rowOr, rowSetAt, rowAgg, mkAgg, AV.isAggV, AV.parts, AV.one, AV.solid, headSize, indexAddrA, indexA, fieldAddrA, fieldA, sliceA, boundsA, bndA, lenA, arrayAtA, rowOf, makeSliceA, intsOf, copyA, Nat.reduceAdd, Nat.reduceSub, Nat.reduceMul, Nat.reduceLeDiff, Nat.reduceLT, Nat.reduceGT, Int.reduceToNat, Int.reduceLE, Int.reduceLT, Int.reduceEq, Int.reduceNe, Int.reduceAdd, Int.reduceSub, Int.reduceMul, Int.reduceNeg, ite_true, ite_false, dite_true, xc1, xc2, xc3, xc4, xc5, xc6, xc7, xc8, xc9, xc10, xc11, xc12, xc13, xc14, xc15, xc16, xc17, hr, w1] | simp (maxSteps := 1000000) (disch := omega) only [exE, Int.toNat_natCast, Int.reduceToNat])
            refine ⟨⟨(m', x'), hs'⟩, ?_⟩
            (refine weak_gc' [7, 8, 9, 3, 4, 5, 6] (by decide) (by simp) (by rfl) ?_ ?_; (focus (first | with_reducible rfl | (simp only [List.map_cons, List.map_nil, List.cons_append, List.nil_append, List.getElem?_cons_zero, List.getElem?_cons_succ, renB, renL, Option.map_some, Option.map_none, AV.ren, gcMap, List.getD_cons_zero, List.getD_cons_succ, renL, renL_vs, renL_pr, renL_roB, renL_strV, List.cons_append, List.nil_append, Nat.reduceAdd] <;> with_reducible rfl))); simp only [exF, List.map_cons, List.map_nil, List.length_cons, List.length_nil, Nat.reduceAdd, AV.ren, renL, gcMap, Nat.reduceEqDiff, if_true, if_false, reduceIte, Option.some.injEq, reduceCtorEq, Int.cast_ofNat_Int, renL, renL_vs, renL_pr, renL_roB, renL_strV, List.cons_append, List.nil_append, Nat.reduceAdd])
          · refine ⟨x', _, rfl, ?_⟩
            simp only [AV.ren, renL, List.map_cons, List.map_nil, List.append_nil, mats, mfL, rats, List.cons_append, List.nil_append, List.length_cons, List.length_nil, Nat.reduceAdd, renB, Option.map_some, renL_roB, renL_strV, renL_bl, renL_vs, renL_pr, fm3, fm4, fm5, fx4, fx5, fx6]
            repeat (first | simp only [c17_P, c17_odd, c17_ro, Nat.reduceBEq, reduceIte, Nat.reduceEqDiff, reduceCtorEq, ne_eq, if_true, if_false, exA, exA, tabs, exB, exD, buildA, rowOr, rowSetAt, rowAgg, mkAgg, AV.isAggV, AV.parts, AV.one, AV.solid, headSize, indexAddrA, indexA, fieldAddrA, fieldA, sliceA, boundsA, bndA, lenA, arrayAtA, rowOf, makeSliceA, intsOf, copyA, Nat.reduceAdd, Nat.reduceSub, Nat.reduceMul, Nat.reduceLeDiff, Nat.reduceLT, Nat.reduceGT, Int.reduceToNat, Int.reduceLE, Int.reduceLT, Int.reduceEq, Int.reduceNe, Int.reduceAdd, Int.reduceSub, Int.reduceMul, Int.reduceNeg, ite_true, ite_false, dite_true, xc1, xc2, xc3, xc4, xc5, xc6, xc7, xc8, xc9, xc10, xc11, xc12, xc13, xc14, xc15, xc16, xc17, hr, w1] | simp (maxSteps := 1000000) (disch := omega) only [exE, Int.toNat_natCast, Int.reduceToNat])
            refine callC_of (C := c17 0) (same_ok (l := srt (aK m'.S)) hs8 (Frz.ints (by simp [List.mem_range]) (by simp [intsOf, row_def, rowS, noMap, rowDrop, oguard, htk])) (by rw [hwl]; exact Frz.ints (by simp [List.mem_range]) (by simp [intsOf, row_def, rowS, noMap, rowDrop, oguard])) (κ := fun v h' => v = .v (.bool true) ∧ h' = _) ⟨rfl, rfl⟩) ?_
            rintro v h' ⟨rfl, rfl⟩
            repeat (first | simp only [c17_P, c17_odd, c17_ro, Nat.reduceBEq, reduceIte, Nat.reduceEqDiff, reduceCtorEq, ne_eq, if_true, if_false, exA, exA, tabs, exB, exD, buildA, rowOr, rowSetAt, rowAgg, mkAgg, AV.isAggV, AV.parts, AV.one, AV.solid, headSize, indexAddrA, indexA, fieldAddrA, fieldA, sliceA, boundsA, bndA, lenA, arrayAtA, rowOf, makeSliceA, intsOf, copyA, Nat.reduceAdd, Nat.reduceSub, Nat.reduceMul, Nat.reduceLeDiff, Nat.reduceLT, Nat.reduceGT, Int.reduceToNat, Int.reduceLE, Int.reduceLT, Int.reduceEq, Int.reduceNe, Int.reduceAdd, Int.reduceSub, Int.reduceMul, Int.reduceNeg, ite_true, ite_false, dite_true, xc1, xc2, xc3, xc4, xc5, xc6, xc7, xc8, xc9, xc10, xc11, xc12, xc13, xc14, xc15, xc16, xc17, hr, w1] | simp (maxSteps := 1000000) (disch := omega) only [exE, Int.toNat_natCast, Int.reduceToNat])
            refine ⟨⟨(m', x'), hs'⟩, ?_⟩
            (refine weak_gc' [7, 8, 9, 3, 4, 5, 6] (by decide) (by simp) (by rfl) ?_ ?_; (focus (first | with_reducible rfl | (simp only [List.map_cons, List.map_nil, List.cons_append, List.nil_append, List.getElem?_cons_zero, List.getElem?_cons_succ, renB, renL, Option.map_some, Option.map_none, AV.ren, gcMap, List.getD_cons_zero, List.getD_cons_succ, renL, renL_vs, renL_pr, renL_roB, renL_strV, List.cons_append, List.nil_append, Nat.reduceAdd] <;> with_reducible rfl))); simp only [exF, List.map_cons, List.map_nil, List.length_cons, List.length_nil, Nat.reduceAdd, AV.ren, renL, gcMap, Nat.reduceEqDiff, if_true, if_false, reduceIte, Option.some.injEq, reduceCtorEq, Int.cast_ofNat_Int, renL, renL_vs, renL_pr, renL_roB, renL_strV, List.cons_append, List.nil_append, Nat.reduceAdd])
      · have h5 : (((i % 6 : Nat) : Int) == 5) = false := by simpa using h5
        repeat (first | simp only [c17_P, c17_odd, c17_ro, Nat.reduceBEq, reduceIte, Nat.reduceEqDiff, reduceCtorEq, ne_eq, if_true, if_false, exA, exA, tabs, exB, exD, buildA, rowOr, rowSetAt, rowAgg, mkAgg, AV.isAggV, AV.parts, AV.one, AV.solid, headSize, indexAddrA, indexA, fieldAddrA, fieldA, sliceA, boundsA, bndA, lenA, arrayAtA, rowOf, makeSliceA, intsOf, copyA, Nat.reduceAdd, Nat.reduceSub, Nat.reduceMul, Nat.reduceLeDiff, Nat.reduceLT, Nat.reduceGT, Int.reduceToNat, Int.reduceLE, Int.reduceLT, Int.reduceEq, Int.reduceNe, Int.reduceAdd, Int.reduceSub, Int.reduceMul, Int.reduceNeg, ite_true, ite_false, dite_true, xc1, xc2, xc3, xc4, xc5, xc6, xc7, xc8, xc9, xc10, xc11, xc12, xc13, xc14, xc15, xc16, xc17, hr, h5, na, hgt, c1] | simp (maxSteps := 1000000) (disch := omega) only [exE, Int.toNat_natCast, Int.reduceToNat])
        have f1 : ∀ n, frameMap [0, 1, 2, 3, 4, 5, 6] n 1 = 1 := fun n => rfl
        have f2 : ∀ n, frameMap [0, 1, 2, 3, 4, 5, 6] n 2 = 2 := fun n => rfl
        have f4 : ∀ n, frameMap [0, 1, 2, 3, 4, 5, 6] n 4 = 4 := fun n => rfl
        have f5 : ∀ n, frameMap [0, 1, 2, 3, 4, 5, 6] n 5 = 5 := fun n => rfl
        have f6 : ∀ n, frameMap [0, 1, 2, 3, 4, 5, 6] n 6 = 6 := fun n => rfl
        refine callC_frame (C := c17 0) (does_own m x o hsim hob) [0, 1, 2, 3, 4, 5, 6] rfl rfl (by decide) (by simp) ?_ ?_
        · intro q hq
          rw [← List.getElem?_map]
          simp only [mats, mfL, rats, List.cons_append, List.nil_append, List.map_cons, List.map_nil, renB, Option.map_some, renL, AV.ren, renL_roB, renL_strV, renL_vs, renL_pr, Nat.reduceAdd, f1, f2, f4, f5, f6]
          match q, hq with
          | 0, _ => rfl
          | 1, _ => rfl
          | 2, _ => rfl
          | 3, _ => rfl
          | 4, _ => rfl
          | 5, _ => rfl
          | 6, _ => rfl
        rintro v h' ⟨rfl, m', x', hs', rfl⟩
        simp only [mats, mfL, rats, List.cons_append, List.nil_append, List.map_cons, List.map_nil, renB, Option.map_some, renL, AV.ren, renL_roB, renL_strV, renL_vs, renL_pr, Nat.reduceAdd, f1, f2, f4, f5, f6, overwrite, List.set_cons_zero, List.set_cons_succ]
        repeat (first | simp only [c17_P, c17_odd, c17_ro, Nat.reduceBEq, reduceIte, Nat.reduceEqDiff, reduceCtorEq, ne_eq, if_true, if_false, exA, exA, tabs, exB, exD, buildA, rowOr, rowSetAt, rowAgg, mkAgg, AV.isAggV, AV.parts, AV.one, AV.solid, headSize, indexAddrA, indexA, fieldAddrA, fieldA, sliceA, boundsA, bndA, lenA, arrayAtA, rowOf, makeSliceA, intsOf, copyA, Nat.reduceAdd, Nat.reduceSub, Nat.reduceMul, Nat.reduceLeDiff, Nat.reduceLT, Nat.reduceGT, Int.reduceToNat, Int.reduceLE, Int.reduceLT, Int.reduceEq, Int.reduceNe, Int.reduceAdd, Int.reduceSub, Int.reduceMul, Int.reduceNeg, ite_true, ite_false, dite_true, xc1, xc2, xc3, xc4, xc5, xc6, xc7, xc8, xc9, xc10, xc11, xc12, xc13, xc14, xc15, xc16, xc17, hr, w1] | simp (maxSteps := 1000000) (disch := omega) only [exE, Int.toNat_natCast, Int.reduceToNat])
        have hwl := sim_written hs'
        have hwW : x'.W.length ≤ 1048576 := by have := hs'.Wl; have := okH_iff.1 hs'.ok; omega
        have hk2 : ∀ k ∈ aK m'.S, 0 ≤ k ∧ k ≤ 1048576 := fun k hk => by have := hs'.rS k hk; have := okH_iff.1 hs'.ok; omega
        have hsl : (srt (aK m'.S)).length = (aK m'.S).length := by simp [srt]
        have hrl := rise_len (wf x') x'.W.length
        have hs8 : (srt (aK m'.S)).length ≤ 1048576 := by rw [hwl]; omega
        have hml : m'.S.length ≤ 1048576 := by rw [← aK_len, ← hsl]; exact hs8
        have htk : (srt (aK m'.S)).take (aK m'.S).length = srt (aK m'.S) := List.take_of_length_le (by omega)
        refine callM (C := c17 0) (written_spec m' hk2 hml) [] [_, _, _, _] (fun _ => rfl) rfl ?_
        rintro v h' (⟨ha, rfl, x1, rfl⟩ | ⟨cc, x1, rfl, rfl⟩)
        · refine ⟨m', _, rfl, ?_⟩
          simp only [AV.ren, renL, List.map_cons, List.map_nil, List.append_nil, mats, mfL, rats, List.cons_append, List.nil_append, List.length_cons, List.length_nil, Nat.reduceAdd, renB, Option.map_some, renL_roB, renL_strV, renL_bl, renL_vs, renL_pr, fm3, fm4, fm5, fx4, fx5, fx6]
          repeat (first | simp only [c17_P, c17_odd, c17_ro, Nat.reduceBEq, reduceIte, Nat.reduceEqDiff, reduceCtorEq, ne_eq, if_true, if_false, exA, exA, tabs, exB, exD, buildA, rowOr, rowSetAt, rowAgg, mkAgg, AV.isAggV, AV.parts, AV.one, AV.solid, headSize, indexAddrA, indexA, fieldAddrA, fieldA, sliceA, boundsA, bndA, lenA, arrayAtA, rowOf, makeSliceA, intsOf, copyA, Nat.reduceAdd, Nat.reduceSub, Nat.reduceMul, Nat.reduceLeDiff, Nat.reduceLT, Nat.reduceGT, Int.reduceToNat, Int.reduceLE, Int.reduceLT, Int.reduceEq, Int.reduceNe, Int.reduceAdd, Int.reduceSub, Int.reduceMul, Int.reduceNeg, ite_true, ite_false, dite_true, xc1, xc2, xc3, xc4, xc5, xc6, xc7, xc8, xc9, xc10, xc11, xc12, xc13, xc14, xc15, xc16, xc17, hr, w1] | simp (maxSteps := 1000000) (disch := omega) only [exE, Int.toNat_natCast, Int.reduceToNat])
          refine callX (C := c17 0) (xwritten_spec x' hwW) [_, _, _] [_] (fun _ => rfl) rfl ?_
          rintro v h' (⟨hb0, rfl, rfl⟩ | ⟨cd, rfl, rfl⟩)
          · refine ⟨x', [], (List.append_nil _).symm, ?_⟩
            simp only [AV.ren, renL, List.map_cons, List.map_nil, List.append_nil, mats, mfL, rats, List.cons_append, List.nil_append, List.length_cons, List.length_nil, Nat.reduceAdd, renB, Option.map_some, renL_roB, renL_strV, renL_bl, renL_vs, renL_pr, fm3, fm4, fm5, fx4, fx5, fx6]
            repeat (first | simp only [c17_P, c17_odd, c17_ro, Nat.reduceBEq, reduceIte, Nat.reduceEqDiff, reduceCtorEq, ne_eq, if_true, if_false, exA, exA, tabs, exB, exD, buildA, rowOr, rowSetAt, rowAgg, mkAgg, AV.isAggV, AV.parts, AV.one, AV.solid, headSize, indexAddrA, indexA, fieldAddrA, fieldA, sliceA, boundsA, bndA, lenA, arrayAtA, rowOf, makeSliceA, intsOf, copyA, Nat.reduceAdd, Nat.reduceSub, Nat.reduceMul, Nat.reduceLeDiff, Nat.reduceLT, Nat.reduceGT, Int.reduceToNat, Int.reduceLE, Int.reduceLT, Int.reduceEq, Int.reduceNe, Int.reduceAdd, Int.reduceSub, Int.reduceMul, Int.reduceNeg, ite_true, ite_false, dite_true, xc1, xc2, xc3, xc4, xc5, xc6, xc7, xc8, xc9, xc10, xc11, xc12, xc13, xc14, xc15, xc16, xc17, hr, w1] | simp (maxSteps := 1000000) (disch := omega) only [exE, Int.toNat_natCast, Int.reduceToNat])
            refine callC_of (C := c17 0) (same_ok (l := srt (aK m'.S)) hs8 (by rw [show srt (aK m'.S) = [] by rw [ha]; simp [srt]]; exact Frz.nil _) (by rw [hwl, hb0]; exact Frz.nil _) (κ := fun v h' => v = .v (.bool true) ∧ h' = _) ⟨rfl, rfl⟩) ?_
            rintro v h' ⟨rfl, rfl⟩
            repeat (first | simp only [c17_P, c17_odd, c17_ro, Nat.reduceBEq, reduceIte, Nat.reduceEqDiff, reduceCtorEq, ne_eq, if_true, if_false, exA, exA, tabs, exB, exD, buildA, rowOr, rowSetAt, rowAgg, mkAgg, AV.isAggV, AV.parts, AV.one, AV.solid, headSize, indexAddrA, indexA, fieldAddrA, fieldA, sliceA, boundsA, bndA, lenA, arrayAtA, rowOf, makeSliceA, intsOf, copyA, Nat.reduceAdd, Nat.reduceSub, Nat.reduceMul, Nat.reduceLeDiff, Nat.reduceLT, Nat.reduceGT, Int.reduceToNat, Int.reduceLE, Int.reduceLT, Int.reduceEq, Int.reduceNe, Int.reduceAdd, Int.reduceSub, Int.reduceMul, Int.reduceNeg, ite_true, ite_false, dite_true, xc1, xc2, xc3, xc4, xc5, xc6, xc7, xc8, xc9, xc10, xc11, xc12, xc13, xc14, xc15, xc16, xc17, hr, w1] | simp (maxSteps := 1000000) (disch := omega) only [exE, Int.toNat_natCast, Int.reduceToNat])
            refine ⟨⟨(m', x'), hs'⟩, ?_⟩
            (refine weak_gc' [0, 1, 2, 3, 4, 5, 6] (by decide) (by simp) (by rfl) ?_ ?_; (focus (first | with_reducible rfl | (simp only [List.map_cons, List.map_nil, List.cons_append, List.nil_append, List.getElem?_cons_zero, List.getElem?_cons_succ, renB, renL, Option.map_some, Option.map_none, AV.ren, gcMap, List.getD_cons_zero, List.getD_cons_succ, renL, renL_vs, renL_pr, renL_roB, renL_strV, List.cons_append, List.nil_append, Nat.reduceAdd] <;> with_reducible rfl))); simp only [exF, List.map_cons, List.map_nil, List.length_cons, List.length_nil, Nat.reduceAdd, AV.ren, renL, gcMap, Nat.reduceEqDiff, if_true, if_false, reduceIte, Option.some.injEq, reduceCtorEq, Int.cast_ofNat_Int, renL, renL_vs, renL_pr, renL_roB, renL_strV, List.cons_append, List.nil_append, Nat.reduceAdd])
          · refine ⟨x', _, rfl, ?_⟩
            simp only [AV.ren, renL, List.map_cons, List.map_nil, List.append_nil, mats, mfL, rats, List.cons_append, List.nil_append, List.length_cons, List.length_nil, Nat.reduceAdd, renB, Option.map_some, renL_roB, renL_strV, renL_bl, renL_vs, renL_pr, fm3, fm4, fm5, fx4, fx5, fx6]
            repeat (first | simp only [c17_P, c17_odd, c17_ro, Nat.reduceBEq, reduceIte, Nat.reduceEqDiff, reduceCtorEq, ne_eq, if_true, if_false, exA, exA, tabs, exB, exD, buildA, rowOr, rowSetAt, rowAgg, mkAgg, AV.isAggV, AV.parts, AV.one, AV.solid, headSize, indexAddrA, indexA, fieldAddrA, fieldA, sliceA, boundsA, bndA, lenA, arrayAtA, rowOf, makeSliceA, intsOf, copyA, Nat.reduceAdd, Nat.reduceSub, Nat.reduceMul, Nat.reduceLeDiff, Nat.reduceLT, Nat.reduceGT, Int.reduceToNat, Int.reduceLE, Int.reduceLT, Int.reduceEq, Int.reduceNe, Int.reduceAdd, Int.reduceSub, Int.reduceMul, Int.reduceNeg, ite_true, ite_false, dite_true, xc1, xc2, xc3, xc4, xc5, xc6, xc7, xc8, xc9, xc10, xc11, xc12, xc13, xc14, xc15, xc16, xc17, hr, w1] | simp (maxSteps := 1000000) (disch := omega) only [exE, Int.toNat_natCast, Int.reduceToNat])
            refine callC_of (C := c17 0) (same_ok (l := srt (aK m'.S)) hs8 (by rw [show srt (aK m'.S) = [] by rw [ha]; simp [srt]]; exact Frz.nil _) (by rw [hwl]; exact Frz.ints (by simp [List.mem_range]) (by simp [intsOf, row_def, rowS, noMap, rowDrop, oguard])) (κ := fun v h' => v = .v (.bool true) ∧ h' = _) ⟨rfl, rfl⟩) ?_
            rintro v h' ⟨rfl, rfl⟩
            repeat (first | simp only [c17_P, c17_odd, c17_ro, Nat.reduceBEq, reduceIte, Nat.reduceEqDiff, reduceCtorEq, ne_eq, if_true, if_false, exA, exA, tabs, exB, exD, buildA, rowOr, rowSetAt, rowAgg, mkAgg, AV.isAggV, AV.parts, AV.one, AV.solid, headSize, indexAddrA, indexA, fieldAddrA, fieldA, sliceA, boundsA, bndA, lenA, arrayAtA, rowOf, makeSliceA, intsOf, copyA, Nat.reduceAdd, Nat.reduceSub, Nat.reduceMul, Nat.reduceLeDiff, Nat.reduceLT, Nat.reduceGT, Int.reduceToNat, Int.reduceLE, Int.reduceLT, Int.reduceEq, Int.reduceNe, Int.reduceAdd, Int.reduceSub, Int.reduceMul, Int.reduceNeg, ite_true, ite_false, dite_true, xc1, xc2, xc3, xc4, xc5, xc6, xc7, xc8, xc9, xc10, xc11, xc12, xc13, xc14, xc15, xc16, xc17, hr, w1] | simp (maxSteps := 1000000) (disch := omega) only [exE, Int.toNat_natCast, Int.reduceToNat])
            refine ⟨⟨(m', x'), hs'⟩, ?_⟩
            (refine weak_gc' [0, 1, 2, 3, 4, 5, 6] (by decide) (by simp) (by rfl) ?_ ?_; (focus (first | with_reducible rfl | (simp only [List.map_cons, List.map_nil, List.cons_append, List.nil_append, List.getElem?_cons_zero, List.getElem?_cons_succ, renB, renL, Option.map_some, Option.map_none, AV.ren, gcMap, List.getD_cons_zero, List.getD_cons_succ, renL, renL_vs, renL_pr, renL_roB, renL_strV, List.cons_append, List.nil_append, Nat.reduceAdd] <;> with_reducible rfl))); simp only [exF, List.map_cons, List.map_nil, List.length_cons, List.length_nil, Nat.reduceAdd, AV.ren, renL, gcMap, Nat.reduceEqDiff, if_true, if_false, reduceIte, Option.some.injEq, reduceCtorEq, Int.cast_ofNat_Int, renL, renL_vs, renL_pr, renL_roB, renL_strV, List.cons_append, List.nil_append, Nat.reduceAdd])
        · refine ⟨m', _, rfl, ?_⟩
          simp only [AV.ren, renL, List.map_cons, List.map_nil, List.append_nil, mats, mfL, rats, List.cons_append, List.nil_append, List.length_cons, List.length_nil, Nat.reduceAdd, renB, Option.map_some, renL_roB, renL_strV, renL_bl, renL_vs, renL_pr, fm3, fm4, fm5, fx4, fx5, fx6]
          repeat (first | simp only [c17_P, c17_odd, c17_ro, Nat.reduceBEq, reduceIte, Nat.reduceEqDiff, reduceCtorEq, ne_eq, if_true, if_false, exA, exA, tabs, exB, exD, buildA, rowOr, rowSetAt, rowAgg, mkAgg, AV.isAggV, AV.parts, AV.one, AV.solid, headSize, indexAddrA, indexA, fieldAddrA, fieldA, sliceA, boundsA, bndA, lenA, arrayAtA, rowOf, makeSliceA, intsOf, copyA, Nat.reduceAdd, Nat.reduceSub, Nat.reduceMul, Nat.reduceLeDiff, Nat.reduceLT, Nat.reduceGT, Int.reduceToNat, Int.reduceLE, Int.reduceLT, Int.reduceEq, Int.reduceNe, Int.reduceAdd, Int.reduceSub, Int.reduceMul, Int.reduceNeg, ite_true, ite_false, dite_true, xc1, xc2, xc3, xc4, xc5, xc6, xc7, xc8, xc9, xc10, xc11, xc12, xc13, xc14, xc15, xc16, xc17, hr, w1] | simp (maxSteps := 1000000) (disch := omega) only [exE, Int.toNat_natCast, Int.reduceToNat])
          refine callX (C := c17 0) (xwritten_spec x' hwW) [_, _, _] [_, _] (fun _ => rfl) rfl ?_
          rintro v h' (⟨hb0, rfl, rfl⟩ | ⟨cd, rfl, rfl⟩)
          · refine ⟨x', [], (List.append_nil _).symm, ?_⟩
            simp only [AV.ren, renL, List.map_cons, List.map_nil, List.append_nil, mats, mfL, rats, List.cons_append, List.nil_append, List.length_cons, List.length_nil, Nat.reduceAdd, renB, Option.map_some, renL_roB, renL_strV, renL_bl, renL_vs, renL_pr, fm3, fm4, fm5, fx4, fx5, fx6]
            repeat (first | simp only [c17_P, c17_odd, c17_ro, Nat.reduceBEq, reduceIte, Nat.reduceEqDiff, reduceCtorEq, ne_eq, if_true, if_false, exA, exA, tabs, exB, exD, buildA, rowOr, rowSetAt, rowAgg, mkAgg, AV.isAggV, AV.parts, AV.one, AV.solid, headSize, indexAddrA, indexA, fieldAddrA, fieldA, sliceA, boundsA, bndA, lenA, arrayAtA, rowOf, makeSliceA, intsOf, copyA, Nat.reduceAdd, Nat.reduceSub, Nat.reduceMul, Nat.reduceLeDiff, Nat.reduceLT, Nat.reduceGT, Int.reduceToNat, Int.reduceLE, Int.reduceLT, Int.reduceEq, Int.reduceNe, Int.reduceAdd, Int.reduceSub, Int.reduceMul, Int.reduceNeg, ite_true, ite_false, dite_true, xc1, xc2, xc3, xc4, xc5, xc6, xc7, xc8, xc9, xc10, xc11, xc12, xc13, xc14, xc15, xc16, xc17, hr, w1] | simp (maxSteps := 1000000) (disch := omega) only [exE, Int.toNat_natCast, Int.reduceToNat])
            refine callC_of (C := c17 0) (same_ok (l := srt (aK m'.S)) hs8 (Frz.ints (by simp [List.mem_range]) (by simp [intsOf, row_def, rowS, noMap, rowDrop, oguard, htk])) (by rw [hwl, hb0]; exact Frz.nil _) (κ := fun v h' => v = .v (.bool true) ∧ h' = _) ⟨rfl, rfl⟩) ?_
            rintro v h' ⟨rfl, rfl⟩
            repeat (first | simp only [c17_P, c17_odd, c17_ro, Nat.reduceBEq, reduceIte, Nat.reduceEqDiff, reduceCtorEq, ne_eq, if_true, if_false, exA, exA, tabs, exB, exD, buildA, rowOr, rowSetAt, rowAgg, mkAgg, AV.isAggV, AV.parts, AV.one, AV.solid, headSize, indexAddrA, indexA, fieldAddrA, fieldA, sliceA, boundsA, bndA, lenA, arrayAtA, rowOf, makeSliceA, intsOf, copyA, Nat.reduceAdd, Nat.reduceSub, Nat.reduceMul, Nat.reduceLeDiff, Nat.reduceLT, Nat.reduceGT, Int.reduceToNat, Int.reduceLE, Int.reduceLT, Int.reduceEq, Int.reduceNe, Int.reduceAdd, Int.reduceSub, Int.reduceMul, Int.reduceNeg, ite_true, ite_false, dite_true, xc1, xc2, xc3, xc4, xc5, xc6, xc7, xc8, xc9, xc10, xc11, xc12, xc13, xc14, xc15, xc16, xc17, hr, w1] | simp (maxSteps := 1000000) (disch := omega) only [exE, Int.toNat_natCast, Int.reduceToNat])
            refine ⟨⟨(m', x'), hs'⟩, ?_⟩
            (refine weak_gc' [0, 1, 2, 3, 4, 5, 6] (by decide) (by simp) (by rfl) ?_ ?_; (focus (first | with_reducible rfl | (simp only [List.map_cons, List.map_nil, List.cons_append, List.nil_append, List.getElem?_cons_zero, List.getElem?_cons_succ, renB, renL, Option.map_some, Option.map_none, AV.ren, gcMap, List.getD_cons_zero, List.getD_cons_succ, renL, renL_vs, renL_pr, renL_roB, renL_strV, List.cons_append, List.nil_append, Nat.reduceAdd] <;> with_reducible rfl))); simp only [exF, List.map_cons, List.map_nil, List.length_cons, List.length_nil, Nat.reduceAdd, AV.ren, renL, gcMap, Nat.reduceEqDiff, if_true, if_false, reduceIte, Option.some.injEq, reduceCtorEq, Int.cast_ofNat_Int, renL, renL_vs, renL_pr, renL_roB, renL_strV, List.cons_append, List.nil_append, Nat.reduceAdd])
          · refine ⟨x', _, rfl, ?_⟩
            simp only [AV.ren, renL, List.map_cons, List.map_nil, List.append_nil, mats, mfL, rats, List.cons_append, List.nil_append, List.length_cons, List.length_nil, Nat.reduceAdd, renB, Option.map_some, renL_roB, renL_strV, renL_bl, renL_vs, renL_pr, fm3, fm4, fm5, fx4, fx5, fx6]
            repeat (first | simp only [c17_P, c17_odd, c17_ro, Nat.reduceBEq, reduceIte, Nat.reduceEqDiff, reduceCtorEq, ne_eq, if_true, if_false, exA, exA, tabs, exB, exD, buildA, rowOr, rowSetAt, rowAgg, mkAgg, AV.isAggV, AV.parts, AV.one, AV.solid, headSize, indexAddrA, indexA, fieldAddrA, fieldA, sliceA, boundsA, bndA, lenA, arrayAtA, rowOf, makeSliceA, intsOf, copyA, Nat.reduceAdd, Nat.reduceSub, Nat.reduceMul, Nat.reduceLeDiff, Nat.reduceLT, Nat.reduceGT, Int.reduceToNat, Int.reduceLE, Int.reduceLT, Int.reduceEq, Int.reduceNe, Int.reduceAdd, Int.reduceSub, Int.reduceMul, Int.reduceNeg, ite_true, ite_false, dite_true, xc1, xc2, xc3, xc4, xc5, xc6, xc7, xc8, xc9, xc10, xc11, xc12, xc13, xc14, xc15, xc16, xc17, hr, w1] | simp (maxSteps := 1000000) (disch := omega) only [exE, Int.toNat_natCast, Int.reduceToNat])
            refine callC_of (C := c17 0) (same_ok (l := srt (aK m'.S)) hs8 (Frz.ints (by simp [List.mem_range]) (by simp [intsOf, row_def, rowS, noMap, rowDrop, oguard, htk])) (by rw [hwl]; exact Frz.ints (by simp [List.mem_range]) (by simp [intsOf, row_def, rowS, noMap, rowDrop, oguard])) (κ := fun v h' => v = .v (.bool true) ∧ h' = _) ⟨rfl, rfl⟩) ?_
            rintro v h' ⟨rfl, rfl⟩
            repeat (first | simp only [c17_P, c17_odd, c17_ro, Nat.reduceBEq, reduceIte, Nat.reduceEqDiff, reduceCtorEq, ne_eq, if_true, if_false, exA, exA, tabs, exB, exD, buildA, rowOr, rowSetAt, rowAgg, mkAgg, AV.isAggV, AV.parts, AV.one, AV.solid, headSize, indexAddrA, indexA, fieldAddrA, fieldA, sliceA, boundsA, bndA, lenA, arrayAtA, rowOf, makeSliceA, intsOf, copyA, Nat.reduceAdd, Nat.reduceSub, Nat.reduceMul, Nat.reduceLeDiff, Nat.reduceLT, Nat.reduceGT, Int.reduceToNat, Int.reduceLE, Int.reduceLT, Int.reduceEq, Int.reduceNe, Int.reduceAdd, Int.reduceSub, Int.reduceMul, Int.reduceNeg, ite_true, ite_false, dite_true, xc1, xc2, xc3, xc4, xc5, xc6, xc7, xc8, xc9, xc10, xc11, xc12, xc13, xc14, xc15, xc16, xc17, hr, w1] | simp (maxSteps := 1000000) (disch := omega) only [exE, Int.toNat_natCast, Int.reduceToNat])
            refine ⟨⟨(m', x'), hs'⟩, ?_⟩
            (refine weak_gc' [0, 1, 2, 3, 4, 5, 6] (by decide) (by simp) (by rfl) ?_ ?_; (focus (first | with_reducible rfl | (simp only [List.map_cons, List.map_nil, List.cons_append, List.nil_append, List.getElem?_cons_zero, List.getElem?_cons_succ, renB, renL, Option.map_some, Option.map_none, AV.ren, gcMap, List.getD_cons_zero, List.getD_cons_succ, renL, renL_vs, renL_pr, renL_roB, renL_strV, List.cons_append, List.nil_append, Nat.reduceAdd] <;> with_reducible rfl))); simp only [exF, List.map_cons, List.map_nil, List.length_cons, List.length_nil, Nat.reduceAdd, AV.ren, renL, gcMap, Nat.reduceEqDiff, if_true, if_false, reduceIte, Option.some.injEq, reduceCtorEq, Int.cast_ofNat_Int, renL, renL_vs, renL_pr, renL_roB, renL_strV, List.cons_append, List.nil_append, Nat.reduceAdd])
    · rintro ⟨⟨m, x⟩, hsim⟩
      unfold lawS mats mfL rats
      repeat (first | simp only [c17_P, c17_odd, c17_ro, Nat.reduceBEq, reduceIte, Nat.reduceEqDiff, reduceCtorEq, ne_eq, if_true, if_false, exA, exA, tabs, exB, exD, buildA, rowOr, rowSetAt, rowAgg, mkAgg, AV.isAggV, AV.parts, AV.one, AV.solid, headSize, indexAddrA, indexA, fieldAddrA, fieldA, sliceA, boundsA, bndA, lenA, arrayAtA, rowOf, makeSliceA, intsOf, copyA, Nat.reduceAdd, Nat.reduceSub, Nat.reduceMul, Nat.reduceLeDiff, Nat.reduceLT, Nat.reduceGT, Int.reduceToNat, Int.reduceLE, Int.reduceLT, Int.reduceEq, Int.reduceNe, Int.reduceAdd, Int.reduceSub, Int.reduceMul, Int.reduceNeg, ite_true, ite_false, dite_true, xc1, xc2, xc3, xc4, xc5, xc6, xc7, xc8, xc9, xc10, xc11, xc12, xc13, xc14, xc15, xc16, xc17, hr] | simp (maxSteps := 1000000) (disch := omega) only [exE, Int.toNat_natCast, Int.reduceToNat])
end Go.Proofs.Ytgkhngcnbddoiaa

namespace Go.Proofs.Ytgkhngcnbddoiaa
open Go.Ax
open Go.ChangeShapes Go.WideShapes Go.ChangeAt Go.RowKit
theorem own_none : ownKnob Try.prog.godebug = none := by kernel_rfl
theorem relVs_mk0 {X : Nat → Prop} {w : World} {ρ : List (Option Nat)} : relVs X w ρ [] [] := by simp only [relVs]
theorem relVs_mk {X : Nat → Prop} {w : World} {ρ : List (Option Nat)} {x : AV} {xs : List AV} {v : Value} {vs : List Value} (h : AV.relV X w ρ x v) (hs : relVs X w ρ xs vs) : relVs X w ρ (x :: xs) (v :: vs) := by
  simp only [relVs]; exact ⟨v, vs, rfl, h, hs⟩
theorem opT : OpT Try.prog 26 := ⟨3, 23, 5, 24, 142, _, _, _, _, _, Try.underlying26, ⟨rfl, rfl⟩, ⟨rfl, rfl⟩, ⟨rfl, rfl⟩, ⟨rfl, rfl⟩, ⟨rfl, rfl⟩, Try.underlying3, by kernel_rfl, Try.underlying23, by kernel_rfl, Try.underlying5, by kernel_rfl, Try.underlying24, by kernel_rfl, by kernel_rfl⟩

end Go.Proofs.Ytgkhngcnbddoiaa
