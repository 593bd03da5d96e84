/- Part of the proof. -/
import Derived.Test.YtfnfmbikooeiaaaAc
import Derived.RangeFuncCalls
import Derived.RangeFuncLeaves
import Derived.Shelf.Abstract
import Derived.Shelf.RegionOpen
import Derived.WalkKit
import Derived.OwnWalkIn
import Derived.TacticsInMore
import Derived.LoopNIn
import Derived.LoopIn
import Derived.RangeFuncSeq
import Derived.Test.YtfnfmbikooeiaaaProg
set_option linter.unusedSimpArgs false
set_option linter.unusedVariables false
set_option maxHeartbeats 4000000
set_option maxRecDepth 100000
namespace Go.Proofs.Ytfnfmbikooeiaaa
open Go.Ax
theorem z49 (n : Int) (key msg : List Int) (hk : key.length ≤ 140737488355328) (hb : n < 1 ∨ 64 < n ∨ 64 < key.length) :
    Zs Try.prog 21 [.v (.int .i64 n), .roI .u8 key, .roI .u8 msg] [] fun v h' => v = .tup [.v (.slice none 0 0), .v (.int .i64 1)] ∧ h' = [] := by
  refine Zq (zf7 0) Try.func21 rfl ⟨by kernel_rfl, by show 3 ≤ _; decide, by kernel_rfl, by kernel_rfl⟩ rfl ?_; have hr : Try.f21.results.toList = [.tmp 6, .tmp 7] := rfl
  repeat (first | simp only [c6_P, Qy, Jq, Nat.reduceBEq, reduceIte, Nat.reduceEqDiff, reduceCtorEq, ne_eq, if_true, if_false, exA, exA, tabs, exB, exD, Zl, Zp, Ze, Zi, Zn, AV.isAggV, AV.parts, AV.one, AV.solid, Zf, Zb, Zj, Zc, Zk, Zh, Zg, bndA, lenA, Zd, rowOf, Za, intsOf, Zo, Nat.reduceAdd, Nat.reduceSub, Nat.reduceMul, Nat.reduceLeDiff, Nat.reduceLT, Nat.reduceGT, Int.reduceToNat, Int.reduceLE, Int.reduceLT, Int.reduceEq, Int.reduceNe, Int.reduceAdd, Int.reduceSub, Int.reduceMul, Int.reduceNeg, ite_true, ite_false, dite_true, Y9, Qa, p4, p3, p2, p1, Yk, Yl, Yj, Yg, Yh, Yf, Ym, n6, n5, Yp, Qe, hr] | simp (maxSteps := 1000000) (disch := omega) only [exE, Int.toNat_natCast, Int.reduceToNat])
  by_cases h1 : n < 1
  · repeat (first | simp only [c6_P, Qy, Jq, Nat.reduceBEq, reduceIte, Nat.reduceEqDiff, reduceCtorEq, ne_eq, if_true, if_false, exA, exA, tabs, exB, exD, Zl, Zp, Ze, Zi, Zn, AV.isAggV, AV.parts, AV.one, AV.solid, Zf, Zb, Zj, Zc, Zk, Zh, Zg, bndA, lenA, Zd, rowOf, Za, intsOf, Zo, Nat.reduceAdd, Nat.reduceSub, Nat.reduceMul, Nat.reduceLeDiff, Nat.reduceLT, Nat.reduceGT, Int.reduceToNat, Int.reduceLE, Int.reduceLT, Int.reduceEq, Int.reduceNe, Int.reduceAdd, Int.reduceSub, Int.reduceMul, Int.reduceNeg, ite_true, ite_false, dite_true, Y9, Qa, p4, p3, p2, p1, Yk, Yl, Yj, Yg, Yh, Yf, Ym, n6, n5, Yp, Qe, hr] | simp (maxSteps := 1000000) (disch := omega) only [exE, Int.toNat_natCast, Int.reduceToNat])
  · by_cases h2 : 64 < n
    · repeat (first | simp only [c6_P, Qy, Jq, Nat.reduceBEq, reduceIte, Nat.reduceEqDiff, reduceCtorEq, ne_eq, if_true, if_false, exA, exA, tabs, exB, exD, Zl, Zp, Ze, Zi, Zn, AV.isAggV, AV.parts, AV.one, AV.solid, Zf, Zb, Zj, Zc, Zk, Zh, Zg, bndA, lenA, Zd, rowOf, Za, intsOf, Zo, Nat.reduceAdd, Nat.reduceSub, Nat.reduceMul, Nat.reduceLeDiff, Nat.reduceLT, Nat.reduceGT, Int.reduceToNat, Int.reduceLE, Int.reduceLT, Int.reduceEq, Int.reduceNe, Int.reduceAdd, Int.reduceSub, Int.reduceMul, Int.reduceNeg, ite_true, ite_false, dite_true, Y9, Qa, p4, p3, p2, p1, Yk, Yl, Yj, Yg, Yh, Yf, Ym, n6, n5, Yp, Qe, hr] | simp (maxSteps := 1000000) (disch := omega) only [exE, Int.toNat_natCast, Int.reduceToNat])
    · repeat (first | simp only [c6_P, Qy, Jq, Nat.reduceBEq, reduceIte, Nat.reduceEqDiff, reduceCtorEq, ne_eq, if_true, if_false, exA, exA, tabs, exB, exD, Zl, Zp, Ze, Zi, Zn, AV.isAggV, AV.parts, AV.one, AV.solid, Zf, Zb, Zj, Zc, Zk, Zh, Zg, bndA, lenA, Zd, rowOf, Za, intsOf, Zo, Nat.reduceAdd, Nat.reduceSub, Nat.reduceMul, Nat.reduceLeDiff, Nat.reduceLT, Nat.reduceGT, Int.reduceToNat, Int.reduceLE, Int.reduceLT, Int.reduceEq, Int.reduceNe, Int.reduceAdd, Int.reduceSub, Int.reduceMul, Int.reduceNeg, ite_true, ite_false, dite_true, Y9, Qa, p4, p3, p2, p1, Yk, Yl, Yj, Yg, Yh, Yf, Ym, n6, n5, Yp, Qe, hr] | simp (maxSteps := 1000000) (disch := omega) only [exE, Int.toNat_natCast, Int.reduceToNat])
theorem zx6 (n : Nat) (key msg : List Int) (hb : 1 ≤ n ∧ n ≤ 64) (hk : key.length = 0) (hm : msg.length ≤ 549755813888) :
    Zs Try.prog 21 [.v (.int .i64 n), .roI .u8 key, .roI .u8 msg] [] fun v h' => ∃ c, v = .tup [.sl 0 0 1 0 n c, .v (.int .i64 0)] ∧ h' = [some [.arr n .u8 (Qd n key msg)]] := by
  refine Zs.weak (C := c6 0) rfl (κ := fun v h' => ∃ c, v = .tup [.sl 1 0 1 0 n c, .v (.int .i64 0)] ∧ ∃ x, h' = [x, some [.arr n .u8 (Qd n key msg)]]) ?_ ?_
  · obtain ⟨all, hall⟩ : ∃ all, keyB key ++ msg = all := ⟨_, rfl⟩
    have hal : all.length = (keyB key).length + msg.length := by rw [← hall, List.length_append]
    have hkb : keyB key = [] := by unfold keyB; rw [if_pos hk]
    rw [hkb, List.length_nil] at hal
    obtain ⟨q, hq⟩ : ∃ q, qOf all.length = q := ⟨_, rfl⟩
    have hq1 : 128 * q ≤ all.length := hq ▸ zts _
    have hq2 : all.length ≤ 128 * q + 128 := by rw [← hq]; unfold qOf; omega
    have hq3 : ∀ i, i < q → 128 * i + 128 < all.length := by intro i hi; rw [← hq] at hi; unfold qOf at hi; omega
    have hq4 : 0 < q → 128 * q < all.length := by rw [← hq]; unfold qOf; omega
    refine Zq (zf7 0) Try.func21 rfl ⟨by kernel_rfl, by show 3 ≤ _; decide, by kernel_rfl, by kernel_rfl⟩ rfl ?_; have hr : Try.f21.results.toList = [.tmp 6, .tmp 7] := rfl
    repeat (first | simp only [c6_P, Qy, Jq, Nat.reduceBEq, reduceIte, Nat.reduceEqDiff, reduceCtorEq, ne_eq, if_true, if_false, exA, exA, tabs, exB, exD, Zl, Zp, Ze, Zi, Zn, AV.isAggV, AV.parts, AV.one, AV.solid, Zf, Zb, Zj, Zc, Zk, Zh, Zg, bndA, lenA, Zd, rowOf, Za, intsOf, Zo, Nat.reduceAdd, Nat.reduceSub, Nat.reduceMul, Nat.reduceLeDiff, Nat.reduceLT, Nat.reduceGT, Int.reduceToNat, Int.reduceLE, Int.reduceLT, Int.reduceEq, Int.reduceNe, Int.reduceAdd, Int.reduceSub, Int.reduceMul, Int.reduceNeg, ite_true, ite_false, dite_true, Y9, Qa, p4, p3, p2, p1, Yk, Yl, Yj, Yg, Yh, Yf, Ym, n6, n5, Yp, Qe, hr] | simp (maxSteps := 1000000) (disch := omega) only [exE, Int.toNat_natCast, Int.reduceToNat])
    repeat (with_reducible refine And.intro (by first | omega | assumption) ?_)
    intro c _
    repeat (first | simp only [c6_P, Qy, Jq, Nat.reduceBEq, reduceIte, Nat.reduceEqDiff, reduceCtorEq, ne_eq, if_true, if_false, exA, exA, tabs, exB, exD, Zl, Zp, Ze, Zi, Zn, AV.isAggV, AV.parts, AV.one, AV.solid, Zf, Zb, Zj, Zc, Zk, Zh, Zg, bndA, lenA, Zd, rowOf, Za, intsOf, Zo, Nat.reduceAdd, Nat.reduceSub, Nat.reduceMul, Nat.reduceLeDiff, Nat.reduceLT, Nat.reduceGT, Int.reduceToNat, Int.reduceLE, Int.reduceLT, Int.reduceEq, Int.reduceNe, Int.reduceAdd, Int.reduceSub, Int.reduceMul, Int.reduceNeg, ite_true, ite_false, dite_true, Y9, Qa, p4, p3, p2, p1, Yk, Yl, Yj, Yg, Yh, Yf, Ym, n6, n5, Yp, Qe, hr] | simp (maxSteps := 1000000) (disch := omega) only [exE, Int.toNat_natCast, Int.reduceToNat])
    repeat (with_reducible refine And.intro (by first | omega | assumption) ?_)
    skip
    rw [zvq n key _ (by simp [shl, IntKind.bits])]
    refine Z3 (zf7 0) (fun i => ⟨envL [(0, .v (.int .i64 n)), (8, .ptr 0 0 0), (9, .sl 1 0 1 0 all.length c), (10, .v (.int .i64 (128 * i : Nat)))],
      [some [.arr 8 .u64 (za1 (Y4 n key) all i)], some [.arr all.length .u8 all]]⟩) (q + 1) (by kernel_rfl) ?_ ?_ ?_
    · have h1 := zdk (Y4 n key) all 0 (by omega)
      rw [h1, ← hall, hkb]
      (refine Z1 ?_ ?_; (focus (first | with_reducible rfl | (simp only [pieces, List.nil_append, Nat.mul_zero] <;> with_reducible rfl))); simp only [exF, Nat.reduceEqDiff, if_true, if_false, reduceIte, Option.some.injEq, reduceCtorEq, Int.cast_ofNat_Int, pieces, List.nil_append, Nat.mul_zero])
    · intro i hi
      have hh := zik (Y4 n key) all i
      have hp := zgk n key
      obtain ⟨m, hm⟩ : ∃ m, min 128 (all.length - 128 * i) = m := ⟨_, rfl⟩
      by_cases h0 : i = 0 <;> (repeat (first | simp only [c6_P, Qy, Jq, Nat.reduceBEq, reduceIte, Nat.reduceEqDiff, reduceCtorEq, ne_eq, if_true, if_false, exA, exA, tabs, exB, exD, Zl, Zp, Ze, Zi, Zn, AV.isAggV, AV.parts, AV.one, AV.solid, Zf, Zb, Zj, Zc, Zk, Zh, Zg, bndA, lenA, Zd, rowOf, Za, intsOf, Zo, Nat.reduceAdd, Nat.reduceSub, Nat.reduceMul, Nat.reduceLeDiff, Nat.reduceLT, Nat.reduceGT, Int.reduceToNat, Int.reduceLE, Int.reduceLT, Int.reduceEq, Int.reduceNe, Int.reduceAdd, Int.reduceSub, Int.reduceMul, Int.reduceNeg, ite_true, ite_false, dite_true, Y9, Qa, p4, p3, p2, p1, Yk, Yl, Yj, Yg, Yh, Yf, Ym, n6, n5, Yp, Qe, hr] | simp (maxSteps := 1000000) (disch := omega) only [exE, Int.toNat_natCast, Int.reduceToNat]))
      all_goals
        refine Z3 (zf7 0) (fun j => ⟨envL [(0, .v (.int .i64 n)), (8, .ptr 0 0 0), (9, .sl 1 0 1 0 all.length c), (10, .v (.int .i64 (128 * i : Nat))), (11, .ptr 2 0 0), (12, .v (.int .i64 j))],
          [some [.arr 8 .u64 (za1 (Y4 n key) all i)], some [.arr all.length .u8 all], some [.arr 128 .u8 (Q9 (fun j => all.getD (128 * i + j) 0) (List.replicate 128 0) j)]]⟩) m (by kernel_rfl) ?_ ?_ ?_
        · (refine Z1 ?_ ?_; (focus (first | with_reducible rfl | (simp only [Q9] <;> with_reducible rfl))); simp only [exF, Nat.reduceEqDiff, if_true, if_false, reduceIte, Option.some.injEq, reduceCtorEq, Int.cast_ofNat_Int, Q9])
        · intro j hj
          repeat (first | simp only [c6_P, Qy, Jq, Nat.reduceBEq, reduceIte, Nat.reduceEqDiff, reduceCtorEq, ne_eq, if_true, if_false, exA, exA, tabs, exB, exD, Zl, Zp, Ze, Zi, Zn, AV.isAggV, AV.parts, AV.one, AV.solid, Zf, Zb, Zj, Zc, Zk, Zh, Zg, bndA, lenA, Zd, rowOf, Za, intsOf, Zo, Nat.reduceAdd, Nat.reduceSub, Nat.reduceMul, Nat.reduceLeDiff, Nat.reduceLT, Nat.reduceGT, Int.reduceToNat, Int.reduceLE, Int.reduceLT, Int.reduceEq, Int.reduceNe, Int.reduceAdd, Int.reduceSub, Int.reduceMul, Int.reduceNeg, ite_true, ite_false, dite_true, Y9, Qa, p4, p3, p2, p1, Yk, Yl, Yj, Yg, Yh, Yf, Ym, n6, n5, Yp, Qe, hr, zev] | simp (maxSteps := 1000000) (disch := omega) only [exE, Int.toNat_natCast, Int.reduceToNat])
          repeat (with_reducible refine And.intro (by first | omega | assumption) ?_)
          (refine Z1 ?_ ?_; (focus (first | with_reducible rfl | (simp only [Q9] <;> with_reducible rfl))); simp only [exF, Nat.reduceEqDiff, if_true, if_false, reduceIte, Option.some.injEq, reduceCtorEq, Int.cast_ofNat_Int, Q9])
        · have hf := zqf all (128 * i) m hm.symm (by omega)
          have hfl := zev (fun j => all.getD (128 * i + j) 0) (List.replicate 128 0) m
          rw [List.length_replicate] at hfl
          have hmm : m = 128 ∨ (m < 128 ∧ 128 * i + m = all.length) := by omega
          by_cases hiq : i < q
          · have h1 := hq3 i hiq
            have hm8 : m = 128 := by omega
            have e1 : za1 (Y4 n key) all (i + 1) = Q8 (za1 (Y4 n key) all i) (Q9 (fun j => all.getD (128 * i + j) 0) (List.replicate 128 0) m) ((128 * i + 128 : Nat) : Int) false := by
              rw [zdk _ _ _ (by omega), zdk _ _ _ (by omega), hf, zsc _ (by rw [List.length_take, List.length_drop]; omega)]; rfl
            have e2 : 128 * (i + 1) = 128 * i + 128 := by omega
            repeat (first | simp only [c6_P, Qy, Jq, Nat.reduceBEq, reduceIte, Nat.reduceEqDiff, reduceCtorEq, ne_eq, if_true, if_false, exA, exA, tabs, exB, exD, Zl, Zp, Ze, Zi, Zn, AV.isAggV, AV.parts, AV.one, AV.solid, Zf, Zb, Zj, Zc, Zk, Zh, Zg, bndA, lenA, Zd, rowOf, Za, intsOf, Zo, Nat.reduceAdd, Nat.reduceSub, Nat.reduceMul, Nat.reduceLeDiff, Nat.reduceLT, Nat.reduceGT, Int.reduceToNat, Int.reduceLE, Int.reduceLT, Int.reduceEq, Int.reduceNe, Int.reduceAdd, Int.reduceSub, Int.reduceMul, Int.reduceNeg, ite_true, ite_false, dite_true, Y9, Qa, p4, p3, p2, p1, Yk, Yl, Yj, Yg, Yh, Yf, Ym, n6, n5, Yp, Qe, hr, hh, hp, hfl] | simp (maxSteps := 1000000) (disch := omega) only [exE, Int.toNat_natCast, Int.reduceToNat])
            (refine Z2 [0, 1] (by decide) (by simp) (by rfl) ?_ ?_; (focus (first | with_reducible rfl | (simp only [List.map_cons, List.map_nil, List.cons_append, List.nil_append, List.getElem?_cons_zero, List.getElem?_cons_succ, renB, renL, Option.map_some, Option.map_none, AV.ren, Z4, List.getD_cons_zero, List.getD_cons_succ, e1, e2] <;> with_reducible rfl))); simp only [exF, List.map_cons, List.map_nil, List.length_cons, List.length_nil, Nat.reduceAdd, AV.ren, renL, Z4, Nat.reduceEqDiff, if_true, if_false, reduceIte, Option.some.injEq, reduceCtorEq, Int.cast_ofNat_Int, e1, e2])
          · have hiq : i = q := by omega
            have e1 : za1 (Y4 n key) all (i + 1) = Q8 (za1 (Y4 n key) all i) (Q9 (fun j => all.getD (128 * i + j) 0) (List.replicate 128 0) m) (all.length : Nat) true := by
              rw [hiq, ← hq, zk1, zdk _ _ _ (by omega), hq, ← hiq, hf, List.take_of_length_le (show (all.drop (128 * i)).length ≤ 128 by rw [List.length_drop]; omega)]
            have e2 : 128 * (i + 1) = 128 * i + 128 := by omega
            rcases hmm with hmm | hmm
            · repeat (first | simp only [c6_P, Qy, Jq, Nat.reduceBEq, reduceIte, Nat.reduceEqDiff, reduceCtorEq, ne_eq, if_true, if_false, exA, exA, tabs, exB, exD, Zl, Zp, Ze, Zi, Zn, AV.isAggV, AV.parts, AV.one, AV.solid, Zf, Zb, Zj, Zc, Zk, Zh, Zg, bndA, lenA, Zd, rowOf, Za, intsOf, Zo, Nat.reduceAdd, Nat.reduceSub, Nat.reduceMul, Nat.reduceLeDiff, Nat.reduceLT, Nat.reduceGT, Int.reduceToNat, Int.reduceLE, Int.reduceLT, Int.reduceEq, Int.reduceNe, Int.reduceAdd, Int.reduceSub, Int.reduceMul, Int.reduceNeg, ite_true, ite_false, dite_true, Y9, Qa, p4, p3, p2, p1, Yk, Yl, Yj, Yg, Yh, Yf, Ym, n6, n5, Yp, Qe, hr, hh, hp, hfl] | simp (maxSteps := 1000000) (disch := omega) only [exE, Int.toNat_natCast, Int.reduceToNat])
              (refine Z2 [0, 1] (by decide) (by simp) (by rfl) ?_ ?_; (focus (first | with_reducible rfl | (simp only [List.map_cons, List.map_nil, List.cons_append, List.nil_append, List.getElem?_cons_zero, List.getElem?_cons_succ, renB, renL, Option.map_some, Option.map_none, AV.ren, Z4, List.getD_cons_zero, List.getD_cons_succ, e1, e2] <;> with_reducible rfl))); simp only [exF, List.map_cons, List.map_nil, List.length_cons, List.length_nil, Nat.reduceAdd, AV.ren, renL, Z4, Nat.reduceEqDiff, if_true, if_false, reduceIte, Option.some.injEq, reduceCtorEq, Int.cast_ofNat_Int, e1, e2])
            · first
              | (exfalso; omega)
              | ((repeat (first | simp only [c6_P, Qy, Jq, Nat.reduceBEq, reduceIte, Nat.reduceEqDiff, reduceCtorEq, ne_eq, if_true, if_false, exA, exA, tabs, exB, exD, Zl, Zp, Ze, Zi, Zn, AV.isAggV, AV.parts, AV.one, AV.solid, Zf, Zb, Zj, Zc, Zk, Zh, Zg, bndA, lenA, Zd, rowOf, Za, intsOf, Zo, Nat.reduceAdd, Nat.reduceSub, Nat.reduceMul, Nat.reduceLeDiff, Nat.reduceLT, Nat.reduceGT, Int.reduceToNat, Int.reduceLE, Int.reduceLT, Int.reduceEq, Int.reduceNe, Int.reduceAdd, Int.reduceSub, Int.reduceMul, Int.reduceNeg, ite_true, ite_false, dite_true, Y9, Qa, p4, p3, p2, p1, Yk, Yl, Yj, Yg, Yh, Yf, Ym, n6, n5, Yp, Qe, hr, hh, hp, hfl] | simp (maxSteps := 1000000) (disch := omega) only [exE, Int.toNat_natCast, Int.reduceToNat]))
                 (refine Z2 [0, 1] (by decide) (by simp) (by rfl) ?_ ?_; (focus (first | with_reducible rfl | (simp only [List.map_cons, List.map_nil, List.cons_append, List.nil_append, List.getElem?_cons_zero, List.getElem?_cons_succ, renB, renL, Option.map_some, Option.map_none, AV.ren, Z4, List.getD_cons_zero, List.getD_cons_succ, e1, e2] <;> with_reducible rfl))); simp only [exF, List.map_cons, List.map_nil, List.length_cons, List.length_nil, Nat.reduceAdd, AV.ren, renL, Z4, Nat.reduceEqDiff, if_true, if_false, reduceIte, Option.some.injEq, reduceCtorEq, Int.cast_ofNat_Int, e1, e2]))
    · have hh := zik (Y4 n key) all (q + 1)
      have hp := zgk n key
      repeat (first | simp only [c6_P, Qy, Jq, Nat.reduceBEq, reduceIte, Nat.reduceEqDiff, reduceCtorEq, ne_eq, if_true, if_false, exA, exA, tabs, exB, exD, Zl, Zp, Ze, Zi, Zn, AV.isAggV, AV.parts, AV.one, AV.solid, Zf, Zb, Zj, Zc, Zk, Zh, Zg, bndA, lenA, Zd, rowOf, Za, intsOf, Zo, Nat.reduceAdd, Nat.reduceSub, Nat.reduceMul, Nat.reduceLeDiff, Nat.reduceLT, Nat.reduceGT, Int.reduceToNat, Int.reduceLE, Int.reduceLT, Int.reduceEq, Int.reduceNe, Int.reduceAdd, Int.reduceSub, Int.reduceMul, Int.reduceNeg, ite_true, ite_false, dite_true, Y9, Qa, p4, p3, p2, p1, Yk, Yl, Yj, Yg, Yh, Yf, Ym, n6, n5, Yp, Qe, hr, hh, hp] | simp (maxSteps := 1000000) (disch := omega) only [exE, Int.toNat_natCast, Int.reduceToNat])
      refine Jy (zf7 0) (fun i c => ⟨envL [(0, .v (.int .i64 n)), (8, .ptr 0 0 0), (13, .sl 1 0 1 0 i c), (14, .v (.int .i64 i))],
        [some [.arr 8 .u64 (za1 (Y4 n key) all (q + 1))], some [.arr i .u8 ((List.range i).map (byteAt (za1 (Y4 n key) all (q + 1))))]]⟩) n (by kernel_rfl) ⟨0, ?_⟩ ?_ ?_
      · refine Weak.trans (zbs 13 .u8 rfl (fun j => get_put _ _ _ _)) ?_
        (refine Z2 [0, 2] (by decide) (by simp) (by rfl) ?_ ?_; (focus (first | with_reducible rfl | (simp only [List.map_cons, List.map_nil, List.cons_append, List.nil_append, List.getElem?_cons_zero, List.getElem?_cons_succ, renB, renL, Option.map_some, Option.map_none, AV.ren, Z4, List.getD_cons_zero, List.getD_cons_succ, List.range_zero] <;> with_reducible rfl))); simp only [exF, List.map_cons, List.map_nil, List.length_cons, List.length_nil, Nat.reduceAdd, AV.ren, renL, Z4, Nat.reduceEqDiff, if_true, if_false, reduceIte, Option.some.injEq, reduceCtorEq, Int.cast_ofNat_Int, List.range_zero])
      · intro i c hi
        repeat (first | simp only [c6_P, Qy, Jq, Nat.reduceBEq, reduceIte, Nat.reduceEqDiff, reduceCtorEq, ne_eq, if_true, if_false, exA, exA, tabs, exB, exD, Zl, Zp, Ze, Zi, Zn, AV.isAggV, AV.parts, AV.one, AV.solid, Zf, Zb, Zj, Zc, Zk, Zh, Zg, bndA, lenA, Zd, rowOf, Za, intsOf, Zo, Nat.reduceAdd, Nat.reduceSub, Nat.reduceMul, Nat.reduceLeDiff, Nat.reduceLT, Nat.reduceGT, Int.reduceToNat, Int.reduceLE, Int.reduceLT, Int.reduceEq, Int.reduceNe, Int.reduceAdd, Int.reduceSub, Int.reduceMul, Int.reduceNeg, ite_true, ite_false, dite_true, Y9, Qa, p4, p3, p2, p1, Yk, Yl, Yj, Yg, Yh, Yf, Ym, n6, n5, Yp, Qe, hr, hh, hp] | simp (maxSteps := 1000000) (disch := omega) only [exE, Int.toNat_natCast, Int.reduceToNat])
        repeat (with_reducible refine And.intro (by first | omega | assumption) ?_)
        intro c1 _
        refine ⟨c1, ?_⟩
        (refine Z2 [0, 3] (by decide) (by simp) (by rfl) ?_ ?_; (focus (first | with_reducible rfl | (simp only [List.map_cons, List.map_nil, List.cons_append, List.nil_append, List.getElem?_cons_zero, List.getElem?_cons_succ, renB, renL, Option.map_some, Option.map_none, AV.ren, Z4, List.getD_cons_zero, List.getD_cons_succ, zen, byteAt] <;> with_reducible rfl))); simp only [exF, List.map_cons, List.map_nil, List.length_cons, List.length_nil, Nat.reduceAdd, AV.ren, renL, Z4, Nat.reduceEqDiff, if_true, if_false, reduceIte, Option.some.injEq, reduceCtorEq, Int.cast_ofNat_Int, zen, byteAt])
      · intro c
        have e1 : (List.range n).map (byteAt (za1 (Y4 n key) all (q + 1))) = Qd n key msg := by
          unfold Qd zgq; rw [hall, ← hq, zk1]
        rw [e1]
        repeat (first | simp only [c6_P, Qy, Jq, Nat.reduceBEq, reduceIte, Nat.reduceEqDiff, reduceCtorEq, ne_eq, if_true, if_false, exA, exA, tabs, exB, exD, Zl, Zp, Ze, Zi, Zn, AV.isAggV, AV.parts, AV.one, AV.solid, Zf, Zb, Zj, Zc, Zk, Zh, Zg, bndA, lenA, Zd, rowOf, Za, intsOf, Zo, Nat.reduceAdd, Nat.reduceSub, Nat.reduceMul, Nat.reduceLeDiff, Nat.reduceLT, Nat.reduceGT, Int.reduceToNat, Int.reduceLE, Int.reduceLT, Int.reduceEq, Int.reduceNe, Int.reduceAdd, Int.reduceSub, Int.reduceMul, Int.reduceNeg, ite_true, ite_false, dite_true, Y9, Qa, p4, p3, p2, p1, Yk, Yl, Yj, Yg, Yh, Yf, Ym, n6, n5, Yp, Qe, hr, hh, hp] | simp (maxSteps := 1000000) (disch := omega) only [exE, Int.toNat_natCast, Int.reduceToNat])
        exact ⟨c, rfl, _, rfl⟩
  · rintro v h' ⟨c, rfl, x, rfl⟩
    exact ⟨_, _, Z2 [1] (by decide) (by simp) (by rfl) rfl ⟨rfl, trivial⟩, c, rfl, rfl⟩
theorem z48 (n : Nat) (key msg : List Int) (hb : 1 ≤ n ∧ n ≤ 64) (hk : 0 < key.length ∧ key.length ≤ 64) (hm : msg.length ≤ 549755813888) :
    Zs Try.prog 21 [.v (.int .i64 n), .roI .u8 key, .roI .u8 msg] [] fun v h' => ∃ c, v = .tup [.sl 0 0 1 0 n c, .v (.int .i64 0)] ∧ h' = [some [.arr n .u8 (Qd n key msg)]] := by
  refine Zs.weak (C := c6 0) rfl (κ := fun v h' => ∃ c, v = .tup [.sl 1 0 1 0 n c, .v (.int .i64 0)] ∧ ∃ x, h' = [x, some [.arr n .u8 (Qd n key msg)]]) ?_ ?_
  · obtain ⟨all, hall⟩ : ∃ all, keyB key ++ msg = all := ⟨_, rfl⟩
    have hal : all.length = (keyB key).length + msg.length := by rw [← hall, List.length_append]
    have hkb : keyB key = padL key := by unfold keyB; rw [if_neg (by omega)]
    rw [hkb, zpo key (by omega)] at hal
    obtain ⟨q, hq⟩ : ∃ q, qOf all.length = q := ⟨_, rfl⟩
    have hq1 : 128 * q ≤ all.length := hq ▸ zts _
    have hq2 : all.length ≤ 128 * q + 128 := by rw [← hq]; unfold qOf; omega
    have hq3 : ∀ i, i < q → 128 * i + 128 < all.length := by intro i hi; rw [← hq] at hi; unfold qOf at hi; omega
    have hq4 : 0 < q → 128 * q < all.length := by rw [← hq]; unfold qOf; omega
    refine Zq (zf7 0) Try.func21 rfl ⟨by kernel_rfl, by show 3 ≤ _; decide, by kernel_rfl, by kernel_rfl⟩ rfl ?_; have hr : Try.f21.results.toList = [.tmp 6, .tmp 7] := rfl
    repeat (first | simp only [c6_P, Qy, Jq, Nat.reduceBEq, reduceIte, Nat.reduceEqDiff, reduceCtorEq, ne_eq, if_true, if_false, exA, exA, tabs, exB, exD, Zl, Zp, Ze, Zi, Zn, AV.isAggV, AV.parts, AV.one, AV.solid, Zf, Zb, Zj, Zc, Zk, Zh, Zg, bndA, lenA, Zd, rowOf, Za, intsOf, Zo, Nat.reduceAdd, Nat.reduceSub, Nat.reduceMul, Nat.reduceLeDiff, Nat.reduceLT, Nat.reduceGT, Int.reduceToNat, Int.reduceLE, Int.reduceLT, Int.reduceEq, Int.reduceNe, Int.reduceAdd, Int.reduceSub, Int.reduceMul, Int.reduceNeg, ite_true, ite_false, dite_true, Y9, Qa, p4, p3, p2, p1, Yk, Yl, Yj, Yg, Yh, Yf, Ym, n6, n5, Yp, Qe, hr] | simp (maxSteps := 1000000) (disch := omega) only [exE, Int.toNat_natCast, Int.reduceToNat])
    repeat (with_reducible refine And.intro (by first | omega | assumption) ?_)
    intro c1 _ c2 _ c _
    repeat (first | simp only [c6_P, Qy, Jq, Nat.reduceBEq, reduceIte, Nat.reduceEqDiff, reduceCtorEq, ne_eq, if_true, if_false, exA, exA, tabs, exB, exD, Zl, Zp, Ze, Zi, Zn, AV.isAggV, AV.parts, AV.one, AV.solid, Zf, Zb, Zj, Zc, Zk, Zh, Zg, bndA, lenA, Zd, rowOf, Za, intsOf, Zo, Nat.reduceAdd, Nat.reduceSub, Nat.reduceMul, Nat.reduceLeDiff, Nat.reduceLT, Nat.reduceGT, Int.reduceToNat, Int.reduceLE, Int.reduceLT, Int.reduceEq, Int.reduceNe, Int.reduceAdd, Int.reduceSub, Int.reduceMul, Int.reduceNeg, ite_true, ite_false, dite_true, Y9, Qa, p4, p3, p2, p1, Yk, Yl, Yj, Yg, Yh, Yf, Ym, n6, n5, Yp, Qe, hr] | simp (maxSteps := 1000000) (disch := omega) only [exE, Int.toNat_natCast, Int.reduceToNat])
    repeat (with_reducible refine And.intro (by first | omega | assumption) ?_)
    have htk : (key ++ List.replicate (128 - key.length) (0 : Int)).take (key.length + (128 - key.length)) = key ++ List.replicate (128 - key.length) 0 := List.take_of_length_le (by simp)
    rw [zvq n key _ (by simp [shl, IntKind.bits])]
    refine Z3 (zf7 0) (fun i => ⟨envL [(0, .v (.int .i64 n)), (8, .ptr 0 0 0), (9, .sl 1 0 1 0 all.length c), (10, .v (.int .i64 (128 * i : Nat)))],
      [some [.arr 8 .u64 (za1 (Y4 n key) all i)], some [.arr all.length .u8 all]]⟩) (q + 1) (by kernel_rfl) ?_ ?_ ?_
    · have h1 := zdk (Y4 n key) all 0 (by omega)
      rw [h1, ← hall, hkb]
      (refine Z2 [0, 3] (by decide) (by simp) (by rfl) ?_ ?_; (focus (first | with_reducible rfl | (simp only [List.map_cons, List.map_nil, List.cons_append, List.nil_append, List.getElem?_cons_zero, List.getElem?_cons_succ, renB, renL, Option.map_some, Option.map_none, AV.ren, Z4, List.getD_cons_zero, List.getD_cons_succ, pieces, padL, htk, List.length_append, List.length_replicate, Nat.mul_zero] <;> with_reducible rfl))); simp only [exF, List.map_cons, List.map_nil, List.length_cons, List.length_nil, Nat.reduceAdd, AV.ren, renL, Z4, Nat.reduceEqDiff, if_true, if_false, reduceIte, Option.some.injEq, reduceCtorEq, Int.cast_ofNat_Int, pieces, padL, htk, List.length_append, List.length_replicate, Nat.mul_zero])
    · intro i hi
      have hh := zik (Y4 n key) all i
      have hp := zgk n key
      obtain ⟨m, hm⟩ : ∃ m, min 128 (all.length - 128 * i) = m := ⟨_, rfl⟩
      by_cases h0 : i = 0 <;> (repeat (first | simp only [c6_P, Qy, Jq, Nat.reduceBEq, reduceIte, Nat.reduceEqDiff, reduceCtorEq, ne_eq, if_true, if_false, exA, exA, tabs, exB, exD, Zl, Zp, Ze, Zi, Zn, AV.isAggV, AV.parts, AV.one, AV.solid, Zf, Zb, Zj, Zc, Zk, Zh, Zg, bndA, lenA, Zd, rowOf, Za, intsOf, Zo, Nat.reduceAdd, Nat.reduceSub, Nat.reduceMul, Nat.reduceLeDiff, Nat.reduceLT, Nat.reduceGT, Int.reduceToNat, Int.reduceLE, Int.reduceLT, Int.reduceEq, Int.reduceNe, Int.reduceAdd, Int.reduceSub, Int.reduceMul, Int.reduceNeg, ite_true, ite_false, dite_true, Y9, Qa, p4, p3, p2, p1, Yk, Yl, Yj, Yg, Yh, Yf, Ym, n6, n5, Yp, Qe, hr] | simp (maxSteps := 1000000) (disch := omega) only [exE, Int.toNat_natCast, Int.reduceToNat]))
      all_goals
        refine Z3 (zf7 0) (fun j => ⟨envL [(0, .v (.int .i64 n)), (8, .ptr 0 0 0), (9, .sl 1 0 1 0 all.length c), (10, .v (.int .i64 (128 * i : Nat))), (11, .ptr 2 0 0), (12, .v (.int .i64 j))],
          [some [.arr 8 .u64 (za1 (Y4 n key) all i)], some [.arr all.length .u8 all], some [.arr 128 .u8 (Q9 (fun j => all.getD (128 * i + j) 0) (List.replicate 128 0) j)]]⟩) m (by kernel_rfl) ?_ ?_ ?_
        · (refine Z1 ?_ ?_; (focus (first | with_reducible rfl | (simp only [Q9] <;> with_reducible rfl))); simp only [exF, Nat.reduceEqDiff, if_true, if_false, reduceIte, Option.some.injEq, reduceCtorEq, Int.cast_ofNat_Int, Q9])
        · intro j hj
          repeat (first | simp only [c6_P, Qy, Jq, Nat.reduceBEq, reduceIte, Nat.reduceEqDiff, reduceCtorEq, ne_eq, if_true, if_false, exA, exA, tabs, exB, exD, Zl, Zp, Ze, Zi, Zn, AV.isAggV, AV.parts, AV.one, AV.solid, Zf, Zb, Zj, Zc, Zk, Zh, Zg, bndA, lenA, Zd, rowOf, Za, intsOf, Zo, Nat.reduceAdd, Nat.reduceSub, Nat.reduceMul, Nat.reduceLeDiff, Nat.reduceLT, Nat.reduceGT, Int.reduceToNat, Int.reduceLE, Int.reduceLT, Int.reduceEq, Int.reduceNe, Int.reduceAdd, Int.reduceSub, Int.reduceMul, Int.reduceNeg, ite_true, ite_false, dite_true, Y9, Qa, p4, p3, p2, p1, Yk, Yl, Yj, Yg, Yh, Yf, Ym, n6, n5, Yp, Qe, hr, zev] | simp (maxSteps := 1000000) (disch := omega) only [exE, Int.toNat_natCast, Int.reduceToNat])
          repeat (with_reducible refine And.intro (by first | omega | assumption) ?_)
          (refine Z1 ?_ ?_; (focus (first | with_reducible rfl | (simp only [Q9] <;> with_reducible rfl))); simp only [exF, Nat.reduceEqDiff, if_true, if_false, reduceIte, Option.some.injEq, reduceCtorEq, Int.cast_ofNat_Int, Q9])
        · have hf := zqf all (128 * i) m hm.symm (by omega)
          have hfl := zev (fun j => all.getD (128 * i + j) 0) (List.replicate 128 0) m
          rw [List.length_replicate] at hfl
          have hmm : m = 128 ∨ (m < 128 ∧ 128 * i + m = all.length) := by omega
          by_cases hiq : i < q
          · have h1 := hq3 i hiq
            have hm8 : m = 128 := by omega
            have e1 : za1 (Y4 n key) all (i + 1) = Q8 (za1 (Y4 n key) all i) (Q9 (fun j => all.getD (128 * i + j) 0) (List.replicate 128 0) m) ((128 * i + 128 : Nat) : Int) false := by
              rw [zdk _ _ _ (by omega), zdk _ _ _ (by omega), hf, zsc _ (by rw [List.length_take, List.length_drop]; omega)]; rfl
            have e2 : 128 * (i + 1) = 128 * i + 128 := by omega
            repeat (first | simp only [c6_P, Qy, Jq, Nat.reduceBEq, reduceIte, Nat.reduceEqDiff, reduceCtorEq, ne_eq, if_true, if_false, exA, exA, tabs, exB, exD, Zl, Zp, Ze, Zi, Zn, AV.isAggV, AV.parts, AV.one, AV.solid, Zf, Zb, Zj, Zc, Zk, Zh, Zg, bndA, lenA, Zd, rowOf, Za, intsOf, Zo, Nat.reduceAdd, Nat.reduceSub, Nat.reduceMul, Nat.reduceLeDiff, Nat.reduceLT, Nat.reduceGT, Int.reduceToNat, Int.reduceLE, Int.reduceLT, Int.reduceEq, Int.reduceNe, Int.reduceAdd, Int.reduceSub, Int.reduceMul, Int.reduceNeg, ite_true, ite_false, dite_true, Y9, Qa, p4, p3, p2, p1, Yk, Yl, Yj, Yg, Yh, Yf, Ym, n6, n5, Yp, Qe, hr, hh, hp, hfl] | simp (maxSteps := 1000000) (disch := omega) only [exE, Int.toNat_natCast, Int.reduceToNat])
            (refine Z2 [0, 1] (by decide) (by simp) (by rfl) ?_ ?_; (focus (first | with_reducible rfl | (simp only [List.map_cons, List.map_nil, List.cons_append, List.nil_append, List.getElem?_cons_zero, List.getElem?_cons_succ, renB, renL, Option.map_some, Option.map_none, AV.ren, Z4, List.getD_cons_zero, List.getD_cons_succ, e1, e2] <;> with_reducible rfl))); simp only [exF, List.map_cons, List.map_nil, List.length_cons, List.length_nil, Nat.reduceAdd, AV.ren, renL, Z4, Nat.reduceEqDiff, if_true, if_false, reduceIte, Option.some.injEq, reduceCtorEq, Int.cast_ofNat_Int, e1, e2])
          · have hiq : i = q := by omega
            have e1 : za1 (Y4 n key) all (i + 1) = Q8 (za1 (Y4 n key) all i) (Q9 (fun j => all.getD (128 * i + j) 0) (List.replicate 128 0) m) (all.length : Nat) true := by
              rw [hiq, ← hq, zk1, zdk _ _ _ (by omega), hq, ← hiq, hf, List.take_of_length_le (show (all.drop (128 * i)).length ≤ 128 by rw [List.length_drop]; omega)]
            have e2 : 128 * (i + 1) = 128 * i + 128 := by omega
            rcases hmm with hmm | hmm
            · repeat (first | simp only [c6_P, Qy, Jq, Nat.reduceBEq, reduceIte, Nat.reduceEqDiff, reduceCtorEq, ne_eq, if_true, if_false, exA, exA, tabs, exB, exD, Zl, Zp, Ze, Zi, Zn, AV.isAggV, AV.parts, AV.one, AV.solid, Zf, Zb, Zj, Zc, Zk, Zh, Zg, bndA, lenA, Zd, rowOf, Za, intsOf, Zo, Nat.reduceAdd, Nat.reduceSub, Nat.reduceMul, Nat.reduceLeDiff, Nat.reduceLT, Nat.reduceGT, Int.reduceToNat, Int.reduceLE, Int.reduceLT, Int.reduceEq, Int.reduceNe, Int.reduceAdd, Int.reduceSub, Int.reduceMul, Int.reduceNeg, ite_true, ite_false, dite_true, Y9, Qa, p4, p3, p2, p1, Yk, Yl, Yj, Yg, Yh, Yf, Ym, n6, n5, Yp, Qe, hr, hh, hp, hfl] | simp (maxSteps := 1000000) (disch := omega) only [exE, Int.toNat_natCast, Int.reduceToNat])
              (refine Z2 [0, 1] (by decide) (by simp) (by rfl) ?_ ?_; (focus (first | with_reducible rfl | (simp only [List.map_cons, List.map_nil, List.cons_append, List.nil_append, List.getElem?_cons_zero, List.getElem?_cons_succ, renB, renL, Option.map_some, Option.map_none, AV.ren, Z4, List.getD_cons_zero, List.getD_cons_succ, e1, e2] <;> with_reducible rfl))); simp only [exF, List.map_cons, List.map_nil, List.length_cons, List.length_nil, Nat.reduceAdd, AV.ren, renL, Z4, Nat.reduceEqDiff, if_true, if_false, reduceIte, Option.some.injEq, reduceCtorEq, Int.cast_ofNat_Int, e1, e2])
            · first
              | (exfalso; omega)
              | ((repeat (first | simp only [c6_P, Qy, Jq, Nat.reduceBEq, reduceIte, Nat.reduceEqDiff, reduceCtorEq, ne_eq, if_true, if_false, exA, exA, tabs, exB, exD, Zl, Zp, Ze, Zi, Zn, AV.isAggV, AV.parts, AV.one, AV.solid, Zf, Zb, Zj, Zc, Zk, Zh, Zg, bndA, lenA, Zd, rowOf, Za, intsOf, Zo, Nat.reduceAdd, Nat.reduceSub, Nat.reduceMul, Nat.reduceLeDiff, Nat.reduceLT, Nat.reduceGT, Int.reduceToNat, Int.reduceLE, Int.reduceLT, Int.reduceEq, Int.reduceNe, Int.reduceAdd, Int.reduceSub, Int.reduceMul, Int.reduceNeg, ite_true, ite_false, dite_true, Y9, Qa, p4, p3, p2, p1, Yk, Yl, Yj, Yg, Yh, Yf, Ym, n6, n5, Yp, Qe, hr, hh, hp, hfl] | simp (maxSteps := 1000000) (disch := omega) only [exE, Int.toNat_natCast, Int.reduceToNat]))
                 (refine Z2 [0, 1] (by decide) (by simp) (by rfl) ?_ ?_; (focus (first | with_reducible rfl | (simp only [List.map_cons, List.map_nil, List.cons_append, List.nil_append, List.getElem?_cons_zero, List.getElem?_cons_succ, renB, renL, Option.map_some, Option.map_none, AV.ren, Z4, List.getD_cons_zero, List.getD_cons_succ, e1, e2] <;> with_reducible rfl))); simp only [exF, List.map_cons, List.map_nil, List.length_cons, List.length_nil, Nat.reduceAdd, AV.ren, renL, Z4, Nat.reduceEqDiff, if_true, if_false, reduceIte, Option.some.injEq, reduceCtorEq, Int.cast_ofNat_Int, e1, e2]))
    · have hh := zik (Y4 n key) all (q + 1)
      have hp := zgk n key
      repeat (first | simp only [c6_P, Qy, Jq, Nat.reduceBEq, reduceIte, Nat.reduceEqDiff, reduceCtorEq, ne_eq, if_true, if_false, exA, exA, tabs, exB, exD, Zl, Zp, Ze, Zi, Zn, AV.isAggV, AV.parts, AV.one, AV.solid, Zf, Zb, Zj, Zc, Zk, Zh, Zg, bndA, lenA, Zd, rowOf, Za, intsOf, Zo, Nat.reduceAdd, Nat.reduceSub, Nat.reduceMul, Nat.reduceLeDiff, Nat.reduceLT, Nat.reduceGT, Int.reduceToNat, Int.reduceLE, Int.reduceLT, Int.reduceEq, Int.reduceNe, Int.reduceAdd, Int.reduceSub, Int.reduceMul, Int.reduceNeg, ite_true, ite_false, dite_true, Y9, Qa, p4, p3, p2, p1, Yk, Yl, Yj, Yg, Yh, Yf, Ym, n6, n5, Yp, Qe, hr, hh, hp] | simp (maxSteps := 1000000) (disch := omega) only [exE, Int.toNat_natCast, Int.reduceToNat])
      refine Jy (zf7 0) (fun i c => ⟨envL [(0, .v (.int .i64 n)), (8, .ptr 0 0 0), (13, .sl 1 0 1 0 i c), (14, .v (.int .i64 i))],
        [some [.arr 8 .u64 (za1 (Y4 n key) all (q + 1))], some [.arr i .u8 ((List.range i).map (byteAt (za1 (Y4 n key) all (q + 1))))]]⟩) n (by kernel_rfl) ⟨0, ?_⟩ ?_ ?_
      · refine Weak.trans (zbs 13 .u8 rfl (fun j => get_put _ _ _ _)) ?_
        (refine Z2 [0, 2] (by decide) (by simp) (by rfl) ?_ ?_; (focus (first | with_reducible rfl | (simp only [List.map_cons, List.map_nil, List.cons_append, List.nil_append, List.getElem?_cons_zero, List.getElem?_cons_succ, renB, renL, Option.map_some, Option.map_none, AV.ren, Z4, List.getD_cons_zero, List.getD_cons_succ, List.range_zero] <;> with_reducible rfl))); simp only [exF, List.map_cons, List.map_nil, List.length_cons, List.length_nil, Nat.reduceAdd, AV.ren, renL, Z4, Nat.reduceEqDiff, if_true, if_false, reduceIte, Option.some.injEq, reduceCtorEq, Int.cast_ofNat_Int, List.range_zero])
      · intro i c hi
        repeat (first | simp only [c6_P, Qy, Jq, Nat.reduceBEq, reduceIte, Nat.reduceEqDiff, reduceCtorEq, ne_eq, if_true, if_false, exA, exA, tabs, exB, exD, Zl, Zp, Ze, Zi, Zn, AV.isAggV, AV.parts, AV.one, AV.solid, Zf, Zb, Zj, Zc, Zk, Zh, Zg, bndA, lenA, Zd, rowOf, Za, intsOf, Zo, Nat.reduceAdd, Nat.reduceSub, Nat.reduceMul, Nat.reduceLeDiff, Nat.reduceLT, Nat.reduceGT, Int.reduceToNat, Int.reduceLE, Int.reduceLT, Int.reduceEq, Int.reduceNe, Int.reduceAdd, Int.reduceSub, Int.reduceMul, Int.reduceNeg, ite_true, ite_false, dite_true, Y9, Qa, p4, p3, p2, p1, Yk, Yl, Yj, Yg, Yh, Yf, Ym, n6, n5, Yp, Qe, hr, hh, hp] | simp (maxSteps := 1000000) (disch := omega) only [exE, Int.toNat_natCast, Int.reduceToNat])
        repeat (with_reducible refine And.intro (by first | omega | assumption) ?_)
        intro c1 _
        refine ⟨c1, ?_⟩
        (refine Z2 [0, 3] (by decide) (by simp) (by rfl) ?_ ?_; (focus (first | with_reducible rfl | (simp only [List.map_cons, List.map_nil, List.cons_append, List.nil_append, List.getElem?_cons_zero, List.getElem?_cons_succ, renB, renL, Option.map_some, Option.map_none, AV.ren, Z4, List.getD_cons_zero, List.getD_cons_succ, zen, byteAt] <;> with_reducible rfl))); simp only [exF, List.map_cons, List.map_nil, List.length_cons, List.length_nil, Nat.reduceAdd, AV.ren, renL, Z4, Nat.reduceEqDiff, if_true, if_false, reduceIte, Option.some.injEq, reduceCtorEq, Int.cast_ofNat_Int, zen, byteAt])
      · intro c
        have e1 : (List.range n).map (byteAt (za1 (Y4 n key) all (q + 1))) = Qd n key msg := by
          unfold Qd zgq; rw [hall, ← hq, zk1]
        rw [e1]
        repeat (first | simp only [c6_P, Qy, Jq, Nat.reduceBEq, reduceIte, Nat.reduceEqDiff, reduceCtorEq, ne_eq, if_true, if_false, exA, exA, tabs, exB, exD, Zl, Zp, Ze, Zi, Zn, AV.isAggV, AV.parts, AV.one, AV.solid, Zf, Zb, Zj, Zc, Zk, Zh, Zg, bndA, lenA, Zd, rowOf, Za, intsOf, Zo, Nat.reduceAdd, Nat.reduceSub, Nat.reduceMul, Nat.reduceLeDiff, Nat.reduceLT, Nat.reduceGT, Int.reduceToNat, Int.reduceLE, Int.reduceLT, Int.reduceEq, Int.reduceNe, Int.reduceAdd, Int.reduceSub, Int.reduceMul, Int.reduceNeg, ite_true, ite_false, dite_true, Y9, Qa, p4, p3, p2, p1, Yk, Yl, Yj, Yg, Yh, Yf, Ym, n6, n5, Yp, Qe, hr, hh, hp] | simp (maxSteps := 1000000) (disch := omega) only [exE, Int.toNat_natCast, Int.reduceToNat])
        exact ⟨c, rfl, _, rfl⟩
  · rintro v h' ⟨c, rfl, x, rfl⟩
    exact ⟨_, _, Z2 [1] (by decide) (by simp) (by rfl) rfl ⟨rfl, trivial⟩, c, rfl, rfl⟩
end Go.Proofs.Ytfnfmbikooeiaaa
namespace Go.Proofs.Ytfnfmbikooeiaaa
open Go.Ax
theorem Zs.capTup {P : Program} {f : FuncId} {args : List AV} {h : List Blk} {κ : AV → List Blk → Prop} (hc : Zs P f args h κ) :
    Zs P f args h fun v h' => κ v h' ∧ ∀ b b1 b2 b3 len cap y, v = .tup [.sl b b1 b2 b3 len cap, y] → len ≤ cap := by
  refine ⟨hc.1, ?_⟩
  intro E w ρ vs h1 h2 h3
  refine (hc.2 E w ρ vs h1 h2 h3).mono ?_
  rintro en w' ⟨av, v, ρ', h', rfl, hκ, hv, rest⟩
  refine ⟨av, v, ρ', h', rfl, ⟨hκ, ?_⟩, hv, rest⟩
  rintro b b1 b2 b3 len cap y rfl
  simp only [AV.relV, Z9] at hv
  obtain ⟨vs, _, x, _, _, hx, _⟩ := hv
  simp only [AV.rel] at hx
  rcases hx with ⟨_, _, _, _, _, _, hl⟩ | ⟨_, _, hl, hc⟩
  · exact hl
  · omega
def N20 (h : List Blk) : List AV → Option Out
  | [.v (.int .i64 n), x, m] => (u8Of h x).bind fun key => (zkh h m).bind fun ms => Zu (key.length ≤ 140737488355328) (osel (decide (n < 1 ∨ 64 < n ∨ 64 < key.length)) (some (.one (.tup [.v (.slice none 0 0), .v (.int .i64 1)]) h))
      (Zu (ms.flatten.length ≤ 549755813888 ∧ ms.length ≤ 549755813888) (some (.one (.tup [.sl h.length 0 1 0 n.toNat n.toNat, .v (.int .i64 0)]) (h ++ [some [.arr n.toNat .u8 (Qd n.toNat key ms.flatten)]])))))
  | _ => none
theorem zmn (h : List Blk) (n : Int) (x m : AV) : N20 h [.v (.int .i64 n), x, m] = (u8Of h x).bind fun key => (zkh h m).bind fun ms => Zu (key.length ≤ 140737488355328) (osel (decide (n < 1 ∨ 64 < n ∨ 64 < key.length)) (some (.one (.tup [.v (.slice none 0 0), .v (.int .i64 1)]) h))
      (Zu (ms.flatten.length ≤ 549755813888 ∧ ms.length ≤ 549755813888) (some (.one (.tup [.sl h.length 0 1 0 n.toNat n.toNat, .v (.int .i64 0)]) (h ++ [some [.arr n.toNat .u8 (Qd n.toNat key ms.flatten)]]))))) := rfl
def N21 (h : List Blk) : List AV → Option Out
  | [.v (.int .i64 n), x, m] => (u8Of h x).bind fun key => (u8Of h m).bind fun msg => Zu (key.length ≤ 140737488355328) (osel (decide (n < 1 ∨ 64 < n ∨ 64 < key.length)) (some (.one (.tup [.v (.slice none 0 0), .v (.int .i64 1)]) h))
      (Zu (msg.length ≤ 549755813888) (some (.cap n.toNat fun c => (.tup [.sl h.length 0 1 0 n.toNat c, .v (.int .i64 0)], h ++ [some [.arr n.toNat .u8 (Qd n.toNat key msg)]])))))
  | _ => none
theorem zmm (h : List Blk) (n : Int) (x m : AV) : N21 h [.v (.int .i64 n), x, m] = (u8Of h x).bind fun key => (u8Of h m).bind fun msg => Zu (key.length ≤ 140737488355328) (osel (decide (n < 1 ∨ 64 < n ∨ 64 < key.length)) (some (.one (.tup [.v (.slice none 0 0), .v (.int .i64 1)]) h))
      (Zu (msg.length ≤ 549755813888) (some (.cap n.toNat fun c => (.tup [.sl h.length 0 1 0 n.toNat c, .v (.int .i64 0)], h ++ [some [.arr n.toNat .u8 (Qd n.toNat key msg)]]))))) := rfl
noncomputable def n7 : FuncId → Option (List Blk → List AV → Option Out) := Qz (Qz n6 20 N20) 21 N21
noncomputable def c7 (k : Nat) : Cfg := ⟨Try.prog, k, p4, [], n7, none, []⟩
theorem yc7 (k : Nat) : (c7 k).odd = [] := rfl
theorem yls (k : Nat) : (c7 k).ro = [] := rfl
theorem c7_P (k : Nat) : (c7 k).P = Try.prog := rfl
theorem z9v (k : Nat) : (c7 k).pure = p4 := rfl
theorem z9w (k : Nat) : (c7 k).news = n7 := rfl
theorem ybc (k : Nat) : (c7 k).Good := by
  refine Cfg.Good.addN (Cfg.Good.addN (zf7 k) ?_ k) ?_ k
  · intro h args out hN
    unfold N20 at hN
    split at hN
    · rename_i n x m
      obtain ⟨key, hl, hN⟩ := Option.bind_eq_some_iff.1 hN
      obtain ⟨ms, hm, hN⟩ := Option.bind_eq_some_iff.1 hN
      obtain ⟨h1, hN⟩ := Zt hN
      by_cases hb : n < 1 ∨ 64 < n ∨ 64 < key.length
      · rw [zcj (decide_eq_true hb)] at hN
        cases hN
        refine ⟨⟨[], by simp⟩, fun κ hκ => Ql (args := [.v (.int .i64 n), x, m]) (z8j n key ms h1 hb) (by rintro _ _ ⟨rfl, rfl⟩; exact ⟨rfl, rfl⟩) (fun g => rfl) ⟨Frz.same _, Qv hl, zh8 hm, trivial⟩ ?_ hκ⟩
        rintro _ _ ⟨rfl, rfl⟩
        exact ⟨rfl, by simp⟩
      · rw [zck (decide_eq_false hb)] at hN
        obtain ⟨h2, hN⟩ := Zt hN
        cases hN
        obtain ⟨n, rfl⟩ := Int.eq_ofNat_of_zero_le (show 0 ≤ n by omega)
        refine ⟨⟨_, rfl⟩, fun κ hκ => Ql (args := [.v (.int .i64 n), x, m]) (yck n key ms (by omega) (by omega) h2) (by rintro _ _ ⟨rfl, rfl⟩; exact ⟨rfl, rfl⟩) (fun g => rfl) ⟨Frz.same _, Qv hl, zh8 hm, trivial⟩ ?_ hκ⟩
        rintro _ _ ⟨rfl, rfl⟩
        exact ⟨rfl, rfl⟩
    · cases hN
  · intro h args out hN
    unfold N21 at hN
    split at hN
    · rename_i n x m
      obtain ⟨key, hl, hN⟩ := Option.bind_eq_some_iff.1 hN
      obtain ⟨msg, hm, hN⟩ := Option.bind_eq_some_iff.1 hN
      obtain ⟨h1, hN⟩ := Zt hN
      by_cases hb : n < 1 ∨ 64 < n ∨ 64 < key.length
      · rw [zcj (decide_eq_true hb)] at hN
        cases hN
        refine ⟨⟨[], by simp⟩, fun κ hκ => Ql (args := [.v (.int .i64 n), x, m]) (z49 n key msg h1 hb) (by rintro _ _ ⟨rfl, rfl⟩; exact ⟨rfl, rfl⟩) (fun g => rfl) ⟨Frz.same _, Qv hl, Qv hm, trivial⟩ ?_ hκ⟩
        rintro _ _ ⟨rfl, rfl⟩
        exact ⟨rfl, by simp⟩
      · rw [zck (decide_eq_false hb)] at hN
        obtain ⟨h2, hN⟩ := Zt hN
        cases hN
        obtain ⟨n, rfl⟩ := Int.eq_ofNat_of_zero_le (show 0 ≤ n by omega)
        refine ⟨fun c _ => ⟨_, rfl⟩, fun κ hκ => Ql (args := [.v (.int .i64 n), x, m]) (args0 := [.v (.int .i64 n), .roI .u8 key, .roI .u8 msg]) (R := fun v h' => ∃ c, n ≤ c ∧ v = .tup [.sl 0 0 1 0 n c, .v (.int .i64 0)] ∧ h' = [some [.arr n .u8 (Qd n key msg)]]) ?_ (by rintro _ _ ⟨c, _, rfl, rfl⟩; exact ⟨rfl, rfl⟩) (fun g => rfl) ⟨Frz.same _, Qv hl, Qv hm, trivial⟩ ?_ hκ⟩
        · refine (Zs.capTup (κ := fun v h' => ∃ c, v = .tup [.sl 0 0 1 0 n c, .v (.int .i64 0)] ∧ h' = [some [.arr n .u8 (Qd n key msg)]]) ?_).mono (by rintro _ _ ⟨⟨c, rfl, rfl⟩, hc⟩; exact ⟨c, hc _ _ _ _ _ _ _ rfl, rfl, rfl⟩)
          by_cases h0 : key.length = 0
          · exact zx6 n key msg (by omega) h0 h2
          · exact z48 n key msg (by omega) (by omega) h2
        · rintro _ _ ⟨c, hc, rfl, rfl⟩
          exact ⟨c, by simpa using hc, rfl⟩
    · cases hN
theorem z29 : (Qd 64 [] [97, 98, 99]).getD 0 0 = 186 ∧ (Qd 64 [] [97, 98, 99]).getD 1 0 = 128 ∧ (Qd 64 [] [97, 98, 99]).getD 63 0 = 35 := by decide +kernel
theorem zyr : Zs Try.prog 22 [] [] fun v h' => v = .v (.bool true) := by
  refine Zq (ybc 0) Try.func22 rfl ⟨by kernel_rfl, by show 0 ≤ _; decide, by kernel_rfl, by kernel_rfl⟩ rfl ?_; have hr : Try.f22.results.toList = [.tmp 0] := rfl
  obtain ⟨h1, h2, h3⟩ := z29
  repeat (first | simp only [c7_P, yc7, yls, Nat.reduceBEq, reduceIte, Nat.reduceEqDiff, reduceCtorEq, ne_eq, if_true, if_false, exA, exA, tabs, exB, exD, Zl, Zp, Ze, Zi, Zn, AV.isAggV, AV.parts, AV.one, AV.solid, Zf, Zb, Zj, Zc, Zk, Zh, Zg, bndA, lenA, Zd, rowOf, Za, intsOf, Zo, Nat.reduceAdd, Nat.reduceSub, Nat.reduceMul, Nat.reduceLeDiff, Nat.reduceLT, Nat.reduceGT, Int.reduceToNat, Int.reduceLE, Int.reduceLT, Int.reduceEq, Int.reduceNe, Int.reduceAdd, Int.reduceSub, Int.reduceMul, Int.reduceNeg, ite_true, ite_false, dite_true, z9v, z9w, p4, p3, p2, p1, Yk, Yl, Yj, Yg, Yh, Yf, Ym, n7, n6, n5, Yp, Qe, zmn, zmm, hr, h1, h2, h3] | simp (maxSteps := 1000000) (disch := omega) only [exE, Int.toNat_natCast, Int.reduceToNat])
end Go.Proofs.Ytfnfmbikooeiaaa
namespace Go.Proofs.Ytfnfmbikooeiaaa
open Go.Ax
theorem zha {α : Type} (a b : List α) : (a ++ b).take (a.length + b.length) = a ++ b := List.take_of_length_le (by simp)
theorem zde (n : Nat) (key msg : List Int) : (Qd n key msg).take n = Qd n key msg := List.take_of_length_le (by simp [Qd, znf])
theorem Qh (n : Nat) (key msg : List Int) : (Qd n key msg).length = n := by simp [Qd, znf]
def F22 : List AV → Option AV
  | [] => some (.v (.bool true))
  | _ => none
theorem zqz : F22 [] = some (.v (.bool true)) := rfl
noncomputable def p5 : FuncId → Option (List AV → Option AV) := Qb p4 22 F22
noncomputable def c8 (k : Nat) : Cfg := ⟨Try.prog, k, p5, [], n7, none, []⟩
theorem yc6 (k : Nat) : (c8 k).odd = [] := rfl
theorem ylr (k : Nat) : (c8 k).ro = [] := rfl
theorem c8_P (k : Nat) : (c8 k).P = Try.prog := rfl
theorem z9t (k : Nat) : (c8 k).pure = p5 := rfl
theorem z9u (k : Nat) : (c8 k).news = n7 := rfl
theorem ybb (k : Nat) : (c8 k).Good := by
  refine Cfg.Good.add (ybc k) ?_ k
  intro args v hF h κ hκ
  unfold F22 at hF
  split at hF
  · cases hF
    exact Yn zyr (fun g => rfl) (fun g => rfl) h κ hκ
  · cases hF
end Go.Proofs.Ytfnfmbikooeiaaa
namespace Go.Proofs.Ytfnfmbikooeiaaa
open Go.Ax
def sumL (size : Nat) (hh r : List Int) (t : Int) : List Int := (List.range size).map (byteAt (Q8 hh (padL r) (IntKind.u64.wrap (t + r.length)) true))
def z0w (b b2 len c size : Nat) (hh : List Int) (t : Int) : Option (List AV) → Option (List Int × Nat × List Int × Int × Nat × Nat)
  | some [.arr n .u8 r] => if b ≠ b2 ∧ len = n ∧ r.length = n ∧ hh.length = 8 ∧ 0 < size ∧ size ≤ 64 ∧ r.length ≤ 128 then some (hh, size, r, t, b2, c) else none
  | _ => none
def zp7 (h : List Blk) (b : Nat) : Option (List AV) → Option (List Int × Nat × List Int × Int × Nat × Nat)
  | some [.arr 8 .u64 hh, .v (.int .i64 size), .sl b2 0 1 0 len c, .v (.int .u64 t)] => if 0 ≤ size then z0w b b2 len c size.toNat hh t (row h b2) else none
  | _ => none
def N30 (h : List Blk) : List AV → Option Out
  | [.v (.pointer none)] => some (.one (.v (.slice none 0 0)) h)
  | [.ptr b 0 0] => (zp7 h b (row h b)).bind fun x => some (.one (.sl h.length 0 1 0 x.2.1 x.2.1) (h ++ [some [.arr x.2.1 .u8 (sumL x.2.1 x.1 x.2.2.1 x.2.2.2.1)]]))
  | _ => none
theorem zoa (h : List Blk) : N30 h [.v (.pointer none)] = some (.one (.v (.slice none 0 0)) h) := rfl
theorem zn9 (h : List Blk) (b : Nat) : N30 h [.ptr b 0 0] = (zp7 h b (row h b)).bind fun x => some (.one (.sl h.length 0 1 0 x.2.1 x.2.1) (h ++ [some [.arr x.2.1 .u8 (sumL x.2.1 x.1 x.2.2.1 x.2.2.2.1)]])) := rfl
def N28 (h : List Blk) : List AV → Option Out
  | [.v (.pointer none)] => some (.one (.v (.pointer none)) h)
  | [.ptr b 0 0] => (zp7 h b (row h b)).bind fun x => some (.cap 0 fun c => (.ptr h.length 0 0, h ++ [some [.arr 8 .u64 x.1, .v (.int .i64 x.2.1), .sl (h.length + 1) 0 1 0 x.2.2.1.length c, .v (.int .u64 x.2.2.2.1)], some [.arr x.2.2.1.length .u8 x.2.2.1]]))
  | _ => none
theorem zoc (h : List Blk) : N28 h [.v (.pointer none)] = some (.one (.v (.pointer none)) h) := rfl
theorem zob (h : List Blk) (b : Nat) : N28 h [.ptr b 0 0] = (zp7 h b (row h b)).bind fun x => some (.cap 0 fun c => (.ptr h.length 0 0, h ++ [some [.arr 8 .u64 x.1, .v (.int .i64 x.2.1), .sl (h.length + 1) 0 1 0 x.2.2.1.length c, .v (.int .u64 x.2.2.2.1)], some [.arr x.2.2.1.length .u8 x.2.2.1]])) := rfl
theorem zli (h : List Blk) (b : Nat) (hh : List Int) (size : Int) (b2 len c : Nat) (t : Int) : zp7 h b (some [.arr 8 .u64 hh, .v (.int .i64 size), .sl b2 0 1 0 len c, .v (.int .u64 t)]) = Zu (0 ≤ size) (z0w b b2 len c size.toNat hh t (row h b2)) := rfl
theorem zlh (b b2 len c size : Nat) (hh : List Int) (t : Int) (n : Nat) (r : List Int) : z0w b b2 len c size hh t (some [.arr n .u8 r]) = Zu (b ≠ b2 ∧ len = n ∧ r.length = n ∧ hh.length = 8 ∧ 0 < size ∧ size ≤ 64 ∧ r.length ≤ 128) (some (hh, size, r, t, b2, c)) := rfl
theorem zwq {h : List Blk} {b : Nat} {x : List Int × Nat × List Int × Int × Nat × Nat} (e : zp7 h b (row h b) = some x) :
    row h b = some [.arr 8 .u64 x.1, .v (.int .i64 x.2.1), .sl x.2.2.2.2.1 0 1 0 x.2.2.1.length x.2.2.2.2.2, .v (.int .u64 x.2.2.2.1)] ∧ row h x.2.2.2.2.1 = some [.arr x.2.2.1.length .u8 x.2.2.1] ∧ b ≠ x.2.2.2.2.1 ∧
      x.1.length = 8 ∧ (0 < x.2.1 ∧ x.2.1 ≤ 64) ∧ x.2.2.1.length ≤ 128 := by
  unfold zp7 at e
  split at e
  · rename_i hh size b2 len c t hr
    split at e
    · rename_i h0
      unfold z0w at e
      split at e
      · rename_i n r hr2
        split at e
        · rename_i hc
          obtain ⟨h1, rfl, h3, h4, h5, h6, h7⟩ := hc
          cases e
          simp only
          refine ⟨?_, ?_, h1, h4, ⟨h5, h6⟩, h7⟩
          · rw [h3, Int.toNat_of_nonneg h0, hr]
          · rw [h3, hr2]
        · cases e
      · cases e
    · cases e
  · cases e
theorem set_self {α : Type} {h : List α} {b : Nat} {x : α} (e : h[b]? = some x) : h.set b x = h := by
  apply List.ext_getElem?
  intro i
  by_cases hi : b = i
  · subst hi
    rw [List.getElem?_set_self (List.getElem?_eq_some_iff.1 e).1, e]
  · rw [List.getElem?_set_ne hi]
theorem z6v (hh r : List Int) (size c : Nat) (t : Int) (h8 : hh.length = 8) (hrl : r.length ≤ 128) :
    Zs Try.prog 28 [.ptr 0 0 0] [some [.arr 8 .u64 hh, .v (.int .i64 size), .sl 1 0 1 0 r.length c, .v (.int .u64 t)], some [.arr r.length .u8 r]]
      fun v h' => v = .ptr 2 0 0 ∧ ∃ c', h' = [some [.arr 8 .u64 hh, .v (.int .i64 size), .sl 1 0 1 0 r.length c, .v (.int .u64 t)], some [.arr r.length .u8 r],
        some [.arr 8 .u64 hh, .v (.int .i64 size), .sl 3 0 1 0 r.length c', .v (.int .u64 t)], some [.arr r.length .u8 r]] := by
  refine Zs.weak (C := c8 2) rfl (κ := fun v h' => v = .ptr 3 0 0 ∧ ∃ c', h' = [some [.arr 8 .u64 hh, .v (.int .i64 size), .sl 1 0 1 0 r.length c, .v (.int .u64 t)], some [.arr r.length .u8 r],
        some [.arr r.length .u8 r], some [.arr 8 .u64 hh, .v (.int .i64 size), .sl 2 0 1 0 r.length c', .v (.int .u64 t)]]) ?_ ?_
  · refine Zq (ybb 2) Try.func28 rfl ⟨by kernel_rfl, by show 1 ≤ _; decide, by kernel_rfl, by kernel_rfl⟩ rfl ?_; have hr : Try.f28.results.toList = [.tmp 2] := rfl
    repeat (first | simp only [c8_P, yc6, ylr, Nat.reduceBEq, reduceIte, Nat.reduceEqDiff, reduceCtorEq, ne_eq, if_true, if_false, exA, exA, tabs, exB, exD, Zl, Zp, Ze, Zi, Zn, AV.isAggV, AV.parts, AV.one, AV.solid, Zf, Zb, Zj, Zc, Zk, Zh, Zg, bndA, lenA, Zd, rowOf, Za, intsOf, Zo, Nat.reduceAdd, Nat.reduceSub, Nat.reduceMul, Nat.reduceLeDiff, Nat.reduceLT, Nat.reduceGT, Int.reduceToNat, Int.reduceLE, Int.reduceLT, Int.reduceEq, Int.reduceNe, Int.reduceAdd, Int.reduceSub, Int.reduceMul, Int.reduceNeg, ite_true, ite_false, dite_true, zha, zde, Qh, z9t, z9u, p5, zqz, p4, p3, p2, p1, Yk, Yl, Yj, Yg, Yh, Yf, Ym, n7, n6, n5, Yp, Qe, zmn, zmm, hr, h8] | simp (maxSteps := 1000000) (disch := omega) only [exE, Int.toNat_natCast, Int.reduceToNat])
    repeat (with_reducible refine And.intro (by first | omega | assumption) ?_)
    intro c3 _
    exact ⟨c3, rfl⟩
  · rintro v h' ⟨rfl, c', rfl⟩
    exact ⟨_, _, Z2 [0, 1, 3, 2] (by decide) (by simp) (by rfl) rfl ⟨rfl, trivial⟩, rfl, c', rfl⟩
noncomputable def n8 : FuncId → Option (List Blk → List AV → Option Out) := Qz (Qz n7 30 N30) 28 N28
noncomputable def c9 (k : Nat) : Cfg := ⟨Try.prog, k, p5, [], n8, none, []⟩
theorem zmi (k : Nat) : (c9 k).odd = [] := rfl
theorem zs7 (k : Nat) : (c9 k).ro = [] := rfl
theorem c9_P (k : Nat) : (c9 k).P = Try.prog := rfl
theorem zn6 (k : Nat) : (c9 k).pure = p5 := rfl
theorem zn7 (k : Nat) : (c9 k).news = n8 := rfl
theorem zwr (k : Nat) : (c9 k).Good := by
  have key : ∀ (h : List Blk) (b b2 : Nat) (row0 rest0 : List AV), row h b = some (renL (Yb [b, b2] h.length) row0) → row h b2 = some (renL (Yb [b, b2] h.length) rest0) → b ≠ b2 →
      ∀ k, k < [b, b2].length → h[[b, b2].getD k 0]? = (([some row0, some rest0] : List Blk)[k]?).map (renB (Yb [b, b2] h.length)) := by
    intro h b b2 row0 rest0 h1 h2 _ k hk
    match k, hk with
    | 0, _ => exact Y7 h1
    | 1, _ => exact Y7 h2
  have lt : ∀ {h : List Blk} {b b2 : Nat} {p q : List AV}, row h b = some p → row h b2 = some q → ∀ x ∈ [b, b2], x < h.length := by
    intro h b b2 p q h1 h2 x hx
    simp only [List.mem_cons, List.not_mem_nil, or_false] at hx
    rcases hx with rfl | rfl
    · exact zhh h1
    · exact zhh h2
  refine Cfg.Good.addN (Cfg.Good.addN (ybb k) ?_ k) ?_ k
  · intro h args out hN
    unfold N30 at hN
    split at hN
    · cases hN
      refine ⟨⟨[], by simp⟩, fun κ hκ => Ql (args := [.v (.pointer none)]) z6i (by rintro _ _ ⟨rfl, rfl⟩; exact ⟨rfl, rfl⟩) (fun g => rfl) ⟨Frz.same _, trivial⟩ ?_ hκ⟩
      rintro _ _ ⟨rfl, rfl⟩
      exact ⟨rfl, by simp⟩
    · rename_i b
      obtain ⟨x, hx, hN⟩ := Option.bind_eq_some_iff.1 hN
      cases hN
      obtain ⟨h1, h2, h3, h4, h5, h6⟩ := zwq hx
      obtain ⟨hh, size, r, t, b2, c⟩ := x
      simp only at h1 h2 h3 h4 h5 h6 ⊢
      refine ⟨⟨_, rfl⟩, fun κ hκ => ?_⟩
      refine Zs.frame (zsu hh r size c t h4 h5 h6) [b, b2] rfl rfl (by simp [h3]) (lt h1 h2) (key h b b2 _ _ h1 h2 h3) ?_
      rintro _ _ ⟨rfl, rfl⟩
      have e1 : (h.set b (some [.arr 8 .u64 hh, .v (.int .i64 size), .sl b2 0 1 0 r.length c, .v (.int .u64 t)])).set b2 (some [.arr r.length .u8 r]) = h := by
        rw [set_self (Y7 h1), set_self (Y7 h2)]
      simp only [Ya, List.map_cons, List.map_nil, renB, Option.map_some, renL, AV.ren, Yb, List.length_cons, List.length_nil, List.getD_cons_zero, List.getD_cons_succ, Nat.reduceAdd, Nat.reduceLT, Nat.reduceSub, if_true, if_false, Nat.lt_irrefl, Nat.add_zero, Nat.sub_self]
      rw [e1]
      exact hκ
    · cases hN
  · intro h args out hN
    unfold N28 at hN
    split at hN
    · cases hN
      refine ⟨⟨[], by simp⟩, fun κ hκ => Ql (args := [.v (.pointer none)]) z6u (by rintro _ _ ⟨rfl, rfl⟩; exact ⟨rfl, rfl⟩) (fun g => rfl) ⟨Frz.same _, trivial⟩ ?_ hκ⟩
      rintro _ _ ⟨rfl, rfl⟩
      exact ⟨rfl, by simp⟩
    · rename_i b
      obtain ⟨x, hx, hN⟩ := Option.bind_eq_some_iff.1 hN
      cases hN
      obtain ⟨h1, h2, h3, h4, h5, h6⟩ := zwq hx
      obtain ⟨hh, size, r, t, b2, c⟩ := x
      simp only at h1 h2 h3 h4 h5 h6 ⊢
      refine ⟨fun c' _ => ⟨_, rfl⟩, fun κ hκ => ?_⟩
      refine Zs.frame (z6v hh r size c t h4 h6) [b, b2] rfl rfl (by simp [h3]) (lt h1 h2) (key h b b2 _ _ h1 h2 h3) ?_
      rintro _ _ ⟨rfl, c', rfl⟩
      have e1 : (h.set b (some [.arr 8 .u64 hh, .v (.int .i64 size), .sl b2 0 1 0 r.length c, .v (.int .u64 t)])).set b2 (some [.arr r.length .u8 r]) = h := by
        rw [set_self (Y7 h1), set_self (Y7 h2)]
      simp only [Ya, List.map_cons, List.map_nil, renB, Option.map_some, renL, AV.ren, Yb, List.length_cons, List.length_nil, List.getD_cons_zero, List.getD_cons_succ, Nat.reduceAdd, Nat.reduceLT, Nat.reduceSub, if_true, if_false, Nat.lt_irrefl, Nat.add_zero, Nat.sub_self]
      rw [e1]
      exact hκ c' (Nat.zero_le _)
    · cases hN
end Go.Proofs.Ytfnfmbikooeiaaa
namespace Go.Proofs.Ytfnfmbikooeiaaa
open Go.Ax
def Z7 (n j : Nat) : Nat := n - 1 - n * (j * j / 4294967296) / 4294967296
theorem zmp (n j : Nat) (h1 : 1 ≤ n) (h2 : n ≤ 2147483647) (hj : j < 4294967296) :
    j * j < 18446744073709551616 ∧ j * j / 4294967296 < 4294967296 ∧ n * (j * j / 4294967296) < 9223372036854775808 ∧ n * (j * j / 4294967296) / 4294967296 < n := by
  have a1 : j * j ≤ 4294967295 * 4294967295 := Nat.mul_le_mul (by omega) (by omega)
  have a2 : j * j / 4294967296 < 4294967296 := by omega
  have a3 : n * (j * j / 4294967296) ≤ n * 4294967295 := Nat.mul_le_mul_left _ (by omega)
  omega
theorem zx3 (a : Nat) : shr IntKind.u64 (a : Int) 32 = ((a / 4294967296 : Nat) : Int) := by
  have h1 : (2 : Int) ^ min (32 : Int).toNat IntKind.u64.bits = 4294967296 := by decide
  unfold shr
  rw [h1, Int.fdiv_eq_ediv_of_nonneg _ (by omega)]
  omega
theorem z8i (a : Nat) : (a : Int).tdiv 4294967296 = ((a / 4294967296 : Nat) : Int) := rfl
theorem zlb (a b : Nat) : ((a : Int) * (b : Int)) = ((a * b : Nat) : Int) := (Int.natCast_mul a b).symm
theorem z1x (n j : Int) (hb : n < 1 ∨ 2147483647 < n) : Zs Try.prog 34 [.v (.int .i64 n), .v (.int .u32 j)] [] fun v _ => v = .v (.int .i64 0) := by
  refine Zq (zwr 0) Try.func34 rfl ⟨by kernel_rfl, by show 2 ≤ _; decide, by kernel_rfl, by kernel_rfl⟩ rfl ?_; have hr : Try.f34.results.toList = [.tmp 4] := rfl
  rcases hb with hb | hb
  · repeat (first | simp only [c9_P, zmi, zs7, Nat.reduceBEq, reduceIte, Nat.reduceEqDiff, reduceCtorEq, ne_eq, if_true, if_false, exA, exA, tabs, exB, exD, Zl, Zp, Ze, Zi, Zn, AV.isAggV, AV.parts, AV.one, AV.solid, Zf, Zb, Zj, Zc, Zk, Zh, Zg, bndA, lenA, Zd, rowOf, Za, intsOf, Zo, Nat.reduceAdd, Nat.reduceSub, Nat.reduceMul, Nat.reduceLeDiff, Nat.reduceLT, Nat.reduceGT, Int.reduceToNat, Int.reduceLE, Int.reduceLT, Int.reduceEq, Int.reduceNe, Int.reduceAdd, Int.reduceSub, Int.reduceMul, Int.reduceNeg, ite_true, ite_false, dite_true, zha, zde, Qh, zn6, zn7, p5, zqz, p4, p3, p2, p1, Yk, Yl, Yj, Yg, Yh, Yf, Ym, n8, zoa, zn9, zoc, zob, zli, zlh, n7, n6, n5, Yp, Qe, zmn, zmm, hr, hb] | simp (maxSteps := 1000000) (disch := omega) only [exE, Int.toNat_natCast, Int.reduceToNat])
  · have h1 : ¬ n < 1 := by omega
    repeat (first | simp only [c9_P, zmi, zs7, Nat.reduceBEq, reduceIte, Nat.reduceEqDiff, reduceCtorEq, ne_eq, if_true, if_false, exA, exA, tabs, exB, exD, Zl, Zp, Ze, Zi, Zn, AV.isAggV, AV.parts, AV.one, AV.solid, Zf, Zb, Zj, Zc, Zk, Zh, Zg, bndA, lenA, Zd, rowOf, Za, intsOf, Zo, Nat.reduceAdd, Nat.reduceSub, Nat.reduceMul, Nat.reduceLeDiff, Nat.reduceLT, Nat.reduceGT, Int.reduceToNat, Int.reduceLE, Int.reduceLT, Int.reduceEq, Int.reduceNe, Int.reduceAdd, Int.reduceSub, Int.reduceMul, Int.reduceNeg, ite_true, ite_false, dite_true, zha, zde, Qh, zn6, zn7, p5, zqz, p4, p3, p2, p1, Yk, Yl, Yj, Yg, Yh, Yf, Ym, n8, zoa, zn9, zoc, zob, zli, zlh, n7, n6, n5, Yp, Qe, zmn, zmm, hr, hb, h1] | simp (maxSteps := 1000000) (disch := omega) only [exE, Int.toNat_natCast, Int.reduceToNat])
theorem z32 (n j : Nat) (h1 : 1 ≤ n) (h2 : n ≤ 2147483647) (hj : j < 4294967296) : Zs Try.prog 34 [.v (.int .i64 n), .v (.int .u32 j)] [] fun v _ => v = .v (.int .i64 (Z7 n j : Nat)) := by
  obtain ⟨f1, f2, f3, f4⟩ := zmp n j h1 h2 hj
  have g1 : ¬ (n : Int) < 1 := by omega
  have g2 : ¬ (2147483647 : Int) < n := by omega
  have w1 : IntKind.u64.wrap (j : Int) = j := zae _ (by omega)
  have w2 : IntKind.u64.wrap ((j * j : Nat) : Int) = ((j * j : Nat) : Int) := zae _ (by omega)
  have w3 : IntKind.u64.wrap (n : Int) = n := zae _ (by omega)
  have w4 : IntKind.u64.wrap ((n * (j * j / 4294967296) : Nat) : Int) = ((n * (j * j / 4294967296) : Nat) : Int) := zae _ (by omega)
  have w5 : IntKind.i64.wrap ((n * (j * j / 4294967296) / 4294967296 : Nat) : Int) = ((n * (j * j / 4294967296) / 4294967296 : Nat) : Int) := zj7 _ (by omega)
  have w6 : IntKind.i64.wrap ((n : Int) - 1) = ((n - 1 : Nat) : Int) := by rw [Zz _ (by omega)]; omega
  have w7 : IntKind.i64.wrap (((n - 1 : Nat) : Int) - ((n * (j * j / 4294967296) / 4294967296 : Nat) : Int)) = (Z7 n j : Nat) := by
    rw [Zz _ (by omega)]; unfold Z7; omega
  refine Zq (zwr 0) Try.func34 rfl ⟨by kernel_rfl, by show 2 ≤ _; decide, by kernel_rfl, by kernel_rfl⟩ rfl ?_; have hr : Try.f34.results.toList = [.tmp 4] := rfl
  simp only [c9_P, zmi, zs7, Nat.reduceBEq, Zy, Zw, reduceIte, Nat.reduceEqDiff, reduceCtorEq, ne_eq, if_true, if_false, exA, tabs, exB, exD, Zl, Zp, Ze, Zi, Zn, AV.isAggV, AV.parts, AV.one, AV.solid, Zf, Zb, Zj, Zc, Zk, Zh, Zg, bndA, lenA, Zd, rowOf, Za, intsOf, Zo, Nat.reduceAdd, Nat.reduceSub, Nat.reduceMul, Nat.reduceLeDiff, Nat.reduceLT, Nat.reduceGT, Int.reduceToNat, Int.reduceLE, Int.reduceLT, Int.reduceEq, Int.reduceNe, Int.reduceAdd, Int.reduceSub, Int.reduceMul, Int.reduceNeg, ite_true, ite_false, dite_true, hr, g1, g2, w1, w2, w3, w4, w5, w6, w7, zlb, zx3]
theorem zx4 (n j : Int) (hb : n < 1 ∨ 2147483647 < n) : Zs Try.prog 35 [.v (.int .i64 n), .v (.int .u32 j)] [] fun v _ => v = .v (.int .i64 0) := by
  refine Zq (zwr 0) Try.func35 rfl ⟨by kernel_rfl, by show 2 ≤ _; decide, by kernel_rfl, by kernel_rfl⟩ rfl ?_; have hr : Try.f35.results.toList = [.tmp 4] := rfl
  rcases hb with hb | hb
  · repeat (first | simp only [c9_P, zmi, zs7, Nat.reduceBEq, reduceIte, Nat.reduceEqDiff, reduceCtorEq, ne_eq, if_true, if_false, exA, exA, tabs, exB, exD, Zl, Zp, Ze, Zi, Zn, AV.isAggV, AV.parts, AV.one, AV.solid, Zf, Zb, Zj, Zc, Zk, Zh, Zg, bndA, lenA, Zd, rowOf, Za, intsOf, Zo, Nat.reduceAdd, Nat.reduceSub, Nat.reduceMul, Nat.reduceLeDiff, Nat.reduceLT, Nat.reduceGT, Int.reduceToNat, Int.reduceLE, Int.reduceLT, Int.reduceEq, Int.reduceNe, Int.reduceAdd, Int.reduceSub, Int.reduceMul, Int.reduceNeg, ite_true, ite_false, dite_true, zha, zde, Qh, zn6, zn7, p5, zqz, p4, p3, p2, p1, Yk, Yl, Yj, Yg, Yh, Yf, Ym, n8, zoa, zn9, zoc, zob, zli, zlh, n7, n6, n5, Yp, Qe, zmn, zmm, hr, hb] | simp (maxSteps := 1000000) (disch := omega) only [exE, Int.toNat_natCast, Int.reduceToNat])
  · have h1 : ¬ n < 1 := by omega
    repeat (first | simp only [c9_P, zmi, zs7, Nat.reduceBEq, reduceIte, Nat.reduceEqDiff, reduceCtorEq, ne_eq, if_true, if_false, exA, exA, tabs, exB, exD, Zl, Zp, Ze, Zi, Zn, AV.isAggV, AV.parts, AV.one, AV.solid, Zf, Zb, Zj, Zc, Zk, Zh, Zg, bndA, lenA, Zd, rowOf, Za, intsOf, Zo, Nat.reduceAdd, Nat.reduceSub, Nat.reduceMul, Nat.reduceLeDiff, Nat.reduceLT, Nat.reduceGT, Int.reduceToNat, Int.reduceLE, Int.reduceLT, Int.reduceEq, Int.reduceNe, Int.reduceAdd, Int.reduceSub, Int.reduceMul, Int.reduceNeg, ite_true, ite_false, dite_true, zha, zde, Qh, zn6, zn7, p5, zqz, p4, p3, p2, p1, Yk, Yl, Yj, Yg, Yh, Yf, Ym, n8, zoa, zn9, zoc, zob, zli, zlh, n7, n6, n5, Yp, Qe, zmn, zmm, hr, hb, h1] | simp (maxSteps := 1000000) (disch := omega) only [exE, Int.toNat_natCast, Int.reduceToNat])
theorem z2i (n j : Nat) (h1 : 1 ≤ n) (h2 : n ≤ 2147483647) (hj : j < 4294967296) : Zs Try.prog 35 [.v (.int .i64 n), .v (.int .u32 j)] [] fun v _ => v = .v (.int .i64 (Z7 n j : Nat)) := by
  obtain ⟨f1, f2, f3, f4⟩ := zmp n j h1 h2 hj
  have g1 : ¬ (n : Int) < 1 := by omega
  have g2 : ¬ (2147483647 : Int) < n := by omega
  have w1 : IntKind.u64.wrap (j : Int) = j := zae _ (by omega)
  have w2 : IntKind.u64.wrap ((j * j : Nat) : Int) = ((j * j : Nat) : Int) := zae _ (by omega)
  have w3 : IntKind.u64.wrap (n : Int) = n := zae _ (by omega)
  have w4 : IntKind.u64.wrap ((n * (j * j / 4294967296) : Nat) : Int) = ((n * (j * j / 4294967296) : Nat) : Int) := zae _ (by omega)
  have w5 : IntKind.i64.wrap ((n * (j * j / 4294967296) / 4294967296 : Nat) : Int) = ((n * (j * j / 4294967296) / 4294967296 : Nat) : Int) := zj7 _ (by omega)
  have w6 : IntKind.i64.wrap ((n : Int) - 1) = ((n - 1 : Nat) : Int) := by rw [Zz _ (by omega)]; omega
  have w7 : IntKind.i64.wrap (((n - 1 : Nat) : Int) - ((n * (j * j / 4294967296) / 4294967296 : Nat) : Int)) = (Z7 n j : Nat) := by
    rw [Zz _ (by omega)]; unfold Z7; omega
  have w8 : IntKind.u64.wrap ((j * j / 4294967296 : Nat) : Int) = ((j * j / 4294967296 : Nat) : Int) := zae _ (by omega)
  have w9 : IntKind.u64.wrap ((n * (j * j / 4294967296) / 4294967296 : Nat) : Int) = ((n * (j * j / 4294967296) / 4294967296 : Nat) : Int) := zae _ (by omega)
  refine Zq (zwr 0) Try.func35 rfl ⟨by kernel_rfl, by show 2 ≤ _; decide, by kernel_rfl, by kernel_rfl⟩ rfl ?_; have hr : Try.f35.results.toList = [.tmp 4] := rfl
  simp only [c9_P, zmi, zs7, Nat.reduceBEq, Zy, Zw, reduceIte, Nat.reduceEqDiff, reduceCtorEq, ne_eq, if_true, if_false, exA, tabs, exB, exD, Zl, Zp, Ze, Zi, Zn, AV.isAggV, AV.parts, AV.one, AV.solid, Zf, Zb, Zj, Zc, Zk, Zh, Zg, bndA, lenA, Zd, rowOf, Za, intsOf, Zo, Nat.reduceAdd, Nat.reduceSub, Nat.reduceMul, Nat.reduceLeDiff, Nat.reduceLT, Nat.reduceGT, Int.reduceToNat, Int.reduceLE, Int.reduceLT, Int.reduceEq, Int.reduceNe, Int.reduceAdd, Int.reduceSub, Int.reduceMul, Int.reduceNeg, ite_true, ite_false, dite_true, hr, g1, g2, w1, w2, w3, w4, w5, w6, w7, w8, w9, zlb, z8i]
def F34 : List AV → Option AV
  | [.v (.int .i64 n), .v (.int .u32 j)] => osel (decide (n < 1 ∨ 2147483647 < n)) (some (.v (.int .i64 0))) (Zu (0 ≤ j ∧ j < 4294967296) (some (.v (.int .i64 (Z7 n.toNat j.toNat : Nat)))))
  | _ => none
theorem ynr (n j : Int) : F34 [.v (.int .i64 n), .v (.int .u32 j)] = osel (decide (n < 1 ∨ 2147483647 < n)) (some (.v (.int .i64 0))) (Zu (0 ≤ j ∧ j < 4294967296) (some (.v (.int .i64 (Z7 n.toNat j.toNat : Nat))))) := rfl
noncomputable def p6 : FuncId → Option (List AV → Option AV) := Qb (Qb p5 34 F34) 35 F34
noncomputable def c10 (k : Nat) : Cfg := ⟨Try.prog, k, p6, [], n8, none, []⟩
theorem zd6 (k : Nat) : (c10 k).odd = [] := rfl
theorem zgv (k : Nat) : (c10 k).ro = [] := rfl
theorem zlv (k : Nat) : (c10 k).P = Try.prog := rfl
theorem ymv (k : Nat) : (c10 k).pure = p6 := rfl
theorem ymw (k : Nat) : (c10 k).news = n8 := rfl
theorem xc10 :
  (type_of% @Go.Proofs.Ytfnfmbikooeiaaa.zha) ∧
  (type_of% @Go.Proofs.Ytfnfmbikooeiaaa.zde) ∧
  (type_of% @Go.Proofs.Ytfnfmbikooeiaaa.Qh) ∧
  (type_of% @Go.Proofs.Ytfnfmbikooeiaaa.ymv) ∧
  (type_of% @Go.Proofs.Ytfnfmbikooeiaaa.ymw) ∧
  (type_of% @Go.Proofs.Ytfnfmbikooeiaaa.p6.eq_1) ∧
  (type_of% @Go.Proofs.Ytfnfmbikooeiaaa.ynr) ∧
  (type_of% @Go.Proofs.Ytfnfmbikooeiaaa.p5.eq_1) ∧
  (type_of% @Go.Proofs.Ytfnfmbikooeiaaa.zqz) ∧
  (type_of% @Go.Proofs.Ytfnfmbikooeiaaa.p4.eq_1) ∧
  (type_of% @Go.Proofs.Ytfnfmbikooeiaaa.p3.eq_1) ∧
  (type_of% @Go.Proofs.Ytfnfmbikooeiaaa.p2.eq_1) ∧
  (type_of% @Go.Proofs.Ytfnfmbikooeiaaa.p1.eq_1) ∧
  (type_of% @Go.Proofs.Ytfnfmbikooeiaaa.Yk) ∧
  (type_of% @Go.Proofs.Ytfnfmbikooeiaaa.Yl) ∧
  (type_of% @Go.Proofs.Ytfnfmbikooeiaaa.Yj) ∧
  (type_of% @Go.Proofs.Ytfnfmbikooeiaaa.Yg) ∧
  (type_of% @Go.Proofs.Ytfnfmbikooeiaaa.Yh) ∧
  (type_of% @Go.Proofs.Ytfnfmbikooeiaaa.Yf) ∧
  (type_of% @Go.Proofs.Ytfnfmbikooeiaaa.Ym) ∧
  (type_of% @Go.Proofs.Ytfnfmbikooeiaaa.n8.eq_1) ∧
  (type_of% @Go.Proofs.Ytfnfmbikooeiaaa.zoa) ∧
  (type_of% @Go.Proofs.Ytfnfmbikooeiaaa.zn9) ∧
  (type_of% @Go.Proofs.Ytfnfmbikooeiaaa.zoc) ∧
  (type_of% @Go.Proofs.Ytfnfmbikooeiaaa.zob) ∧
  (type_of% @Go.Proofs.Ytfnfmbikooeiaaa.zli) ∧
  (type_of% @Go.Proofs.Ytfnfmbikooeiaaa.zlh) ∧
  (type_of% @Go.Proofs.Ytfnfmbikooeiaaa.n7.eq_1) ∧
  (type_of% @Go.Proofs.Ytfnfmbikooeiaaa.n6.eq_1) ∧
  (type_of% @Go.Proofs.Ytfnfmbikooeiaaa.n5.eq_1) ∧
  (type_of% @Go.Proofs.Ytfnfmbikooeiaaa.Yp) ∧
  (type_of% @Go.Proofs.Ytfnfmbikooeiaaa.Qe) ∧
  (type_of% @Go.Proofs.Ytfnfmbikooeiaaa.zmn) ∧
  (type_of% @Go.Proofs.Ytfnfmbikooeiaaa.zmm) :=
  ⟨@Go.Proofs.Ytfnfmbikooeiaaa.zha, @Go.Proofs.Ytfnfmbikooeiaaa.zde, @Go.Proofs.Ytfnfmbikooeiaaa.Qh, @Go.Proofs.Ytfnfmbikooeiaaa.ymv, @Go.Proofs.Ytfnfmbikooeiaaa.ymw, @Go.Proofs.Ytfnfmbikooeiaaa.p6.eq_1, @Go.Proofs.Ytfnfmbikooeiaaa.ynr, @Go.Proofs.Ytfnfmbikooeiaaa.p5.eq_1, @Go.Proofs.Ytfnfmbikooeiaaa.zqz, @Go.Proofs.Ytfnfmbikooeiaaa.p4.eq_1, @Go.Proofs.Ytfnfmbikooeiaaa.p3.eq_1, @Go.Proofs.Ytfnfmbikooeiaaa.p2.eq_1, @Go.Proofs.Ytfnfmbikooeiaaa.p1.eq_1, @Go.Proofs.Ytfnfmbikooeiaaa.Yk, @Go.Proofs.Ytfnfmbikooeiaaa.Yl, @Go.Proofs.Ytfnfmbikooeiaaa.Yj, @Go.Proofs.Ytfnfmbikooeiaaa.Yg, @Go.Proofs.Ytfnfmbikooeiaaa.Yh, @Go.Proofs.Ytfnfmbikooeiaaa.Yf, @Go.Proofs.Ytfnfmbikooeiaaa.Ym, @Go.Proofs.Ytfnfmbikooeiaaa.n8.eq_1, @Go.Proofs.Ytfnfmbikooeiaaa.zoa, @Go.Proofs.Ytfnfmbikooeiaaa.zn9, @Go.Proofs.Ytfnfmbikooeiaaa.zoc, @Go.Proofs.Ytfnfmbikooeiaaa.zob, @Go.Proofs.Ytfnfmbikooeiaaa.zli, @Go.Proofs.Ytfnfmbikooeiaaa.zlh, @Go.Proofs.Ytfnfmbikooeiaaa.n7.eq_1, @Go.Proofs.Ytfnfmbikooeiaaa.n6.eq_1, @Go.Proofs.Ytfnfmbikooeiaaa.n5.eq_1, @Go.Proofs.Ytfnfmbikooeiaaa.Yp, @Go.Proofs.Ytfnfmbikooeiaaa.Qe, @Go.Proofs.Ytfnfmbikooeiaaa.zmn, @Go.Proofs.Ytfnfmbikooeiaaa.zmm⟩
theorem ztc {f : FuncId} {args : List AV} {v : AV} (hbad : ∀ n j : Int, (n < 1 ∨ 2147483647 < n) → Zs Try.prog f [.v (.int .i64 n), .v (.int .u32 j)] [] fun v _ => v = .v (.int .i64 0))
    (hok : ∀ n j : Nat, 1 ≤ n → n ≤ 2147483647 → j < 4294967296 → Zs Try.prog f [.v (.int .i64 n), .v (.int .u32 j)] [] fun v _ => v = .v (.int .i64 (Z7 n j : Nat)))
    (hF : F34 args = some v) : Zs Try.prog f args [] (fun v' _ => v' = v) ∧ ∃ n j r, args = [.v (.int .i64 n), .v (.int .u32 j)] ∧ v = .v (.int .i64 r) := by
  unfold F34 at hF
  split at hF
  · rename_i n j
    by_cases hb : n < 1 ∨ 2147483647 < n
    · rw [zcj (decide_eq_true hb)] at hF
      cases hF
      exact ⟨hbad n j hb, _, _, _, rfl, rfl⟩
    · rw [zck (decide_eq_false hb)] at hF
      obtain ⟨⟨j1, j2⟩, hF⟩ := Zt hF
      cases hF
      obtain ⟨n, rfl⟩ := Int.eq_ofNat_of_zero_le (show 0 ≤ n by omega)
      obtain ⟨j, rfl⟩ := Int.eq_ofNat_of_zero_le j1
      exact ⟨hok n j (by omega) (by omega) (by omega), _, _, _, rfl, rfl⟩
  · cases hF
theorem zme (k : Nat) : (c10 k).Good := by
  refine Cfg.Good.add (Cfg.Good.add (zwr k) ?_ k) ?_ k
  · intro args v hF h κ hκ
    obtain ⟨hc, n, j, r, rfl, rfl⟩ := ztc z1x z32 hF
    exact Yn hc (fun g => rfl) (fun g => rfl) h κ hκ
  · intro args v hF h κ hκ
    obtain ⟨hc, n, j, r, rfl, rfl⟩ := ztc zx4 z2i hF
    exact Yn hc (fun g => rfl) (fun g => rfl) h κ hκ
end Go.Proofs.Ytfnfmbikooeiaaa
namespace Go.Proofs.Ytfnfmbikooeiaaa
open Go.Ax
def lowU (x : Int) : Int := IntKind.u64.wrap ((BitVec.ofInt IntKind.u64.bits x &&& BitVec.ofInt IntKind.u64.bits 4294967295).toNat : Int)
theorem z50 (x : Int) : Zs Try.prog 82 [.v (.int .u64 x)] [] fun v _ => v = .v (.int .u64 (lowU x)) := by
  refine Zq (zme 0) Try.func82 rfl ⟨by kernel_rfl, by show 1 ≤ _; decide, by kernel_rfl, by kernel_rfl⟩ rfl ?_; have hr : Try.f82.results.toList = [.tmp 2] := rfl
  repeat (first | simp only [zlv, zd6, zgv, Nat.reduceBEq, reduceIte, Nat.reduceEqDiff, reduceCtorEq, ne_eq, if_true, if_false, exA, exA, tabs, exB, exD, Zl, Zp, Ze, Zi, Zn, AV.isAggV, AV.parts, AV.one, AV.solid, Zf, Zb, Zj, Zc, Zk, Zh, Zg, bndA, lenA, Zd, rowOf, Za, intsOf, Zo, Nat.reduceAdd, Nat.reduceSub, Nat.reduceMul, Nat.reduceLeDiff, Nat.reduceLT, Nat.reduceGT, Int.reduceToNat, Int.reduceLE, Int.reduceLT, Int.reduceEq, Int.reduceNe, Int.reduceAdd, Int.reduceSub, Int.reduceMul, Int.reduceNeg, ite_true, ite_false, dite_true, xc10, hr] | simp (maxSteps := 1000000) (disch := omega) only [exE, Int.toNat_natCast, Int.reduceToNat])
  rfl
def F82 : List AV → Option AV
  | [.v (.int .u64 x)] => some (.v (.int .u64 (lowU x)))
  | _ => none
theorem ynb (x : Int) : F82 [.v (.int .u64 x)] = some (.v (.int .u64 (lowU x))) := rfl
noncomputable def p7 : FuncId → Option (List AV → Option AV) := Qb p6 82 F82
noncomputable def c11 (k : Nat) : Cfg := ⟨Try.prog, k, p7, [], n8, none, []⟩
theorem Jp (k : Nat) : (c11 k).odd = [] := rfl
theorem zaz (k : Nat) : (c11 k).ro = [] := rfl
theorem zcx (k : Nat) : (c11 k).P = Try.prog := rfl
theorem ymt (k : Nat) : (c11 k).pure = p7 := rfl
theorem ymu (k : Nat) : (c11 k).news = n8 := rfl
theorem xc11 :
  (type_of% @Go.Proofs.Ytfnfmbikooeiaaa.ymt) ∧
  (type_of% @Go.Proofs.Ytfnfmbikooeiaaa.ymu) ∧
  (type_of% @Go.Proofs.Ytfnfmbikooeiaaa.p7.eq_1) ∧
  (type_of% @Go.Proofs.Ytfnfmbikooeiaaa.ynb) :=
  ⟨@Go.Proofs.Ytfnfmbikooeiaaa.ymt, @Go.Proofs.Ytfnfmbikooeiaaa.ymu, @Go.Proofs.Ytfnfmbikooeiaaa.p7.eq_1, @Go.Proofs.Ytfnfmbikooeiaaa.ynb⟩
theorem zfj (k : Nat) : (c11 k).Good := by
  refine Cfg.Good.add (zme k) ?_ k
  intro args v hF h κ hκ
  unfold F82 at hF
  split at hF
  · cases hF
    exact Yn (z50 _) (fun g => rfl) (fun g => rfl) h κ hκ
  · cases hF
def zlm (v : List Int) (x y : Nat) : List Int :=
  v.set x (IntKind.u64.wrap (v.getD x 0 + IntKind.u64.wrap (v.getD y 0 + shl .u64 (IntKind.u64.wrap (lowU (v.getD x 0) * lowU (v.getD y 0))) 1)))
def ze0 (v : List Int) (z x : Nat) (n : Int) : List Int := v.set z (rotL (xorU (v.getD z 0) (v.getD x 0)) n)
def zgy (v : List Int) (x y z : Nat) (n : Int) : List Int := ze0 (zlm v x y) z x n
theorem zib (m : Nat) (v : List Int) (x y z : Nat) (n : Int) (hx : x < m) (hy : y < m) (hz : z < m) :
    Zs Try.prog 81 [.ptr 0 0 x, .ptr 0 0 y, .ptr 0 0 z, .v (.int .i64 n)] [some [.arr m .u64 v]]
      fun r h => r = .tup [] ∧ h = [some [.arr m .u64 (zgy v x y z (IntKind.i64.wrap (0 - n)))]] := by
  have na : ∀ n : Nat, (0 : Int) ≤ n := fun n => Int.natCast_nonneg n
  refine Zq (zfj 1) Try.func81 rfl ⟨by kernel_rfl, by show 4 ≤ _; decide, by kernel_rfl, by kernel_rfl⟩ rfl ?_; have hr : Try.f81.results.toList = [] := rfl
  repeat (first | simp only [zcx, Jp, zaz, Nat.reduceBEq, reduceIte, Nat.reduceEqDiff, reduceCtorEq, ne_eq, if_true, if_false, exA, exA, tabs, exB, exD, Zl, Zp, Ze, Zi, Zn, AV.isAggV, AV.parts, AV.one, AV.solid, Zf, Zb, Zj, Zc, Zk, Zh, Zg, bndA, lenA, Zd, rowOf, Za, intsOf, Zo, Nat.reduceAdd, Nat.reduceSub, Nat.reduceMul, Nat.reduceLeDiff, Nat.reduceLT, Nat.reduceGT, Int.reduceToNat, Int.reduceLE, Int.reduceLT, Int.reduceEq, Int.reduceNe, Int.reduceAdd, Int.reduceSub, Int.reduceMul, Int.reduceNeg, ite_true, ite_false, dite_true, xc10, xc11, hr, na, hx, hy, hz] | simp (maxSteps := 1000000) (disch := omega) only [exE, Int.toNat_natCast, Int.reduceToNat])
  rfl
end Go.Proofs.Ytfnfmbikooeiaaa
namespace Go.Proofs.Ytfnfmbikooeiaaa
open Go.Ax
def zjb (v : List Int) (a b c d : Nat) : List Int := zgy (zgy (zgy (zgy v a b d (-32)) c d b (-24)) a b d (-16)) c d b (-63)
theorem z15 (m : Nat) (v : List Int) (a b c d : Nat) (ha : a < m) (hb : b < m) (hc : c < m) (hd : d < m) :
    Zs Try.prog 73 [.ptr 0 0 a, .ptr 0 0 b, .ptr 0 0 c, .ptr 0 0 d] [some [.arr m .u64 v]] fun r h => r = .tup [] ∧ h = [some [.arr m .u64 (zjb v a b c d)]] := by
  refine Zq (zfj 1) Try.func73 rfl ⟨by kernel_rfl, by show 4 ≤ _; decide, by kernel_rfl, by kernel_rfl⟩ rfl ?_; have hr : Try.f73.results.toList = [] := rfl
  repeat (first | simp only [zcx, Jp, zaz, Nat.reduceBEq, reduceIte, Nat.reduceEqDiff, reduceCtorEq, ne_eq, if_true, if_false, exA, exA, tabs, exB, exD, Zl, Zp, Ze, Zi, Zn, AV.isAggV, AV.parts, AV.one, AV.solid, Zf, Zb, Zj, Zc, Zk, Zh, Zg, bndA, lenA, Zd, rowOf, Za, intsOf, Zo, Nat.reduceAdd, Nat.reduceSub, Nat.reduceMul, Nat.reduceLeDiff, Nat.reduceLT, Nat.reduceGT, Int.reduceToNat, Int.reduceLE, Int.reduceLT, Int.reduceEq, Int.reduceNe, Int.reduceAdd, Int.reduceSub, Int.reduceMul, Int.reduceNeg, ite_true, ite_false, dite_true, xc10, xc11, hr] | simp (maxSteps := 1000000) (disch := omega) only [exE, Int.toNat_natCast, Int.reduceToNat])
  refine zar [0] (zib m v a b d 32 ha hb hd) rfl rfl (by decide) ?_
  rintro _ _ ⟨rfl, rfl⟩
  repeat (first | simp only [zcx, Jp, zaz, Nat.reduceBEq, reduceIte, Nat.reduceEqDiff, reduceCtorEq, ne_eq, if_true, if_false, exA, exA, tabs, exB, exD, Zl, Zp, Ze, Zi, Zn, AV.isAggV, AV.parts, AV.one, AV.solid, Zf, Zb, Zj, Zc, Zk, Zh, Zg, bndA, lenA, Zd, rowOf, Za, intsOf, Zo, Nat.reduceAdd, Nat.reduceSub, Nat.reduceMul, Nat.reduceLeDiff, Nat.reduceLT, Nat.reduceGT, Int.reduceToNat, Int.reduceLE, Int.reduceLT, Int.reduceEq, Int.reduceNe, Int.reduceAdd, Int.reduceSub, Int.reduceMul, Int.reduceNeg, ite_true, ite_false, dite_true, xc10, xc11, hr, Ya, renB, renL, AV.ren, Yb] | simp (maxSteps := 1000000) (disch := omega) only [exE, Int.toNat_natCast, Int.reduceToNat])
  refine zar [0] (zib m _ c d b 24 hc hd hb) rfl rfl (by decide) ?_
  rintro _ _ ⟨rfl, rfl⟩
  repeat (first | simp only [zcx, Jp, zaz, Nat.reduceBEq, reduceIte, Nat.reduceEqDiff, reduceCtorEq, ne_eq, if_true, if_false, exA, exA, tabs, exB, exD, Zl, Zp, Ze, Zi, Zn, AV.isAggV, AV.parts, AV.one, AV.solid, Zf, Zb, Zj, Zc, Zk, Zh, Zg, bndA, lenA, Zd, rowOf, Za, intsOf, Zo, Nat.reduceAdd, Nat.reduceSub, Nat.reduceMul, Nat.reduceLeDiff, Nat.reduceLT, Nat.reduceGT, Int.reduceToNat, Int.reduceLE, Int.reduceLT, Int.reduceEq, Int.reduceNe, Int.reduceAdd, Int.reduceSub, Int.reduceMul, Int.reduceNeg, ite_true, ite_false, dite_true, xc10, xc11, hr, Ya, renB, renL, AV.ren, Yb] | simp (maxSteps := 1000000) (disch := omega) only [exE, Int.toNat_natCast, Int.reduceToNat])
  refine zar [0] (zib m _ a b d 16 ha hb hd) rfl rfl (by decide) ?_
  rintro _ _ ⟨rfl, rfl⟩
  repeat (first | simp only [zcx, Jp, zaz, Nat.reduceBEq, reduceIte, Nat.reduceEqDiff, reduceCtorEq, ne_eq, if_true, if_false, exA, exA, tabs, exB, exD, Zl, Zp, Ze, Zi, Zn, AV.isAggV, AV.parts, AV.one, AV.solid, Zf, Zb, Zj, Zc, Zk, Zh, Zg, bndA, lenA, Zd, rowOf, Za, intsOf, Zo, Nat.reduceAdd, Nat.reduceSub, Nat.reduceMul, Nat.reduceLeDiff, Nat.reduceLT, Nat.reduceGT, Int.reduceToNat, Int.reduceLE, Int.reduceLT, Int.reduceEq, Int.reduceNe, Int.reduceAdd, Int.reduceSub, Int.reduceMul, Int.reduceNeg, ite_true, ite_false, dite_true, xc10, xc11, hr, Ya, renB, renL, AV.ren, Yb] | simp (maxSteps := 1000000) (disch := omega) only [exE, Int.toNat_natCast, Int.reduceToNat])
  refine zar [0] (zib m _ c d b 63 hc hd hb) rfl rfl (by decide) ?_
  rintro _ _ ⟨rfl, rfl⟩
  repeat (first | simp only [zcx, Jp, zaz, Nat.reduceBEq, reduceIte, Nat.reduceEqDiff, reduceCtorEq, ne_eq, if_true, if_false, exA, exA, tabs, exB, exD, Zl, Zp, Ze, Zi, Zn, AV.isAggV, AV.parts, AV.one, AV.solid, Zf, Zb, Zj, Zc, Zk, Zh, Zg, bndA, lenA, Zd, rowOf, Za, intsOf, Zo, Nat.reduceAdd, Nat.reduceSub, Nat.reduceMul, Nat.reduceLeDiff, Nat.reduceLT, Nat.reduceGT, Int.reduceToNat, Int.reduceLE, Int.reduceLT, Int.reduceEq, Int.reduceNe, Int.reduceAdd, Int.reduceSub, Int.reduceMul, Int.reduceNeg, ite_true, ite_false, dite_true, xc10, xc11, hr, Ya, renB, renL, AV.ren, Yb] | simp (maxSteps := 1000000) (disch := omega) only [exE, Int.toNat_natCast, Int.reduceToNat])
  rfl
end Go.Proofs.Ytfnfmbikooeiaaa
namespace Go.Proofs.Ytfnfmbikooeiaaa
open Go.Ax
theorem zmy : ∀ (ps : List AV) (i : Nat) (b c d : Nat), (∀ p ∈ ps, p.one = true) → i < ps.length → J3 ps i (.ptr b c d) = some (ps.set i (.ptr b c d))
  | [], i, b, c, d, _, h => by simp at h
  | p :: ps, i, b, c, d, hp, h => by
    have h1 := hp p (by simp)
    cases i with
    | zero => cases p <;> first | rfl | cases h1
    | succ i =>
      have ih := zmy ps i b c d (fun q hq => hp q (by simp [hq])) (by simpa using h)
      cases p <;> first | (simp only [J3, h1, ih, if_true, Option.map_some, List.set_cons_succ]; done) | cases h1
theorem zkr : ∀ (ps : List AV) (i : Nat) (v : AV), (∀ p ∈ ps, p.one = true) → ps[i]? = some v → Y2 ps i = some v
  | [], i, v, _, h => by simp at h
  | p :: ps, i, v, hp, h => by
    have h1 := hp p (by simp)
    cases i with
    | zero =>
      simp only [List.getElem?_cons_zero, Option.some.injEq] at h
      subst h
      cases p <;> first | rfl | cases h1
    | succ i =>
      have ih := zkr ps i v (fun q hq => hp q (by simp [hq])) (by simpa using h)
      cases p <;> first | (simp only [Y2, h1, ih, if_true]; done) | cases h1
def allK (z : List Int) (q : Nat → Nat) : Nat → List Int
  | 0 => z
  | i + 1 => zjb (allK z q i) (q (i % 4)) (q (4 + (i % 4 + i / 4) % 4)) (q (8 + (i % 4 + 2 * (i / 4)) % 4)) (q (12 + (i % 4 + 3 * (i / 4)) % 4))
def ze7 (b : Nat) (q : Nat → Nat) : List AV := (List.range 16).map fun j => .ptr b 0 (q j)
theorem zyb (b : Nat) (q : Nat → Nat) (j : Nat) (h : j < 16) : Y2 (ze7 b q) j = some (.ptr b 0 (q j)) := by
  refine zkr _ _ _ ?_ ?_
  · intro p hp
    obtain ⟨j, _, rfl⟩ := List.mem_map.1 hp
    rfl
  · simp [ze7, h]
theorem z2v (b : Nat) (q : Nat → Nat) (f : Nat → Nat) : renL f (ze7 b q) = ze7 (f b) q := rfl
theorem zqx (m : Nat) (z : List Int) (q : Nat → Nat) (hq : ∀ j, j < 16 → q j < m) :
    Zs Try.prog 60 [.ptr 0 0 0] [some (ze7 1 q), some [.arr m .u64 z]] fun r h => r = .tup [] ∧ h = [some (ze7 1 q), some [.arr m .u64 (allK z q 8)]] := by
  have hc := zyb 1 q
  refine Zq (zfj 2) Try.func60 rfl ⟨by kernel_rfl, by show 1 ≤ _; decide, by kernel_rfl, by kernel_rfl⟩ rfl ?_; have hr : Try.f60.results.toList = [] := rfl
  repeat (first | simp only [zcx, Jp, zaz, Nat.reduceBEq, reduceIte, Nat.reduceEqDiff, reduceCtorEq, ne_eq, if_true, if_false, exA, exA, tabs, exB, exD, Zl, Zp, Ze, Zi, Zn, AV.isAggV, AV.parts, AV.one, AV.solid, Zf, Zb, Zj, Zc, Zk, Zh, Zg, bndA, lenA, Zd, rowOf, Za, intsOf, Zo, Nat.reduceAdd, Nat.reduceSub, Nat.reduceMul, Nat.reduceLeDiff, Nat.reduceLT, Nat.reduceGT, Int.reduceToNat, Int.reduceLE, Int.reduceLT, Int.reduceEq, Int.reduceNe, Int.reduceAdd, Int.reduceSub, Int.reduceMul, Int.reduceNeg, ite_true, ite_false, dite_true, xc10, xc11, hr] | simp (maxSteps := 1000000) (disch := omega) only [exE, Int.toNat_natCast, Int.reduceToNat])
  refine Z3 (zfj 2) (fun t => ⟨envL [(0, .ptr 0 0 0), (4, .v (.int .i64 t))], [some (ze7 1 q), some [.arr m .u64 (allK z q (4 * t))]]⟩) 2 (by kernel_rfl) ?_ ?_ ?_
  · (refine Z1 ?_ ?_; (focus (first | with_reducible rfl | (simp only [allK, Nat.mul_zero] <;> with_reducible rfl))); simp only [exF, Nat.reduceEqDiff, if_true, if_false, reduceIte, Option.some.injEq, reduceCtorEq, Int.cast_ofNat_Int, allK, Nat.mul_zero])
  · intro t ht
    repeat (first | simp only [zcx, Jp, zaz, Nat.reduceBEq, reduceIte, Nat.reduceEqDiff, reduceCtorEq, ne_eq, if_true, if_false, exA, exA, tabs, exB, exD, Zl, Zp, Ze, Zi, Zn, AV.isAggV, AV.parts, AV.one, AV.solid, Zf, Zb, Zj, Zc, Zk, Zh, Zg, bndA, lenA, Zd, rowOf, Za, intsOf, Zo, Nat.reduceAdd, Nat.reduceSub, Nat.reduceMul, Nat.reduceLeDiff, Nat.reduceLT, Nat.reduceGT, Int.reduceToNat, Int.reduceLE, Int.reduceLT, Int.reduceEq, Int.reduceNe, Int.reduceAdd, Int.reduceSub, Int.reduceMul, Int.reduceNeg, ite_true, ite_false, dite_true, xc10, xc11, hr] | simp (maxSteps := 1000000) (disch := omega) only [exE, Int.toNat_natCast, Int.reduceToNat])
    refine Z3 (zfj 2) (fun k => ⟨envL [(0, .ptr 0 0 0), (2, .v (.int .i64 t)), (4, .v (.int .i64 t)), (7, .v (.int .i64 k))], [some (ze7 1 q), some [.arr m .u64 (allK z q (4 * t + k))]]⟩) 4 (by kernel_rfl) ?_ ?_ ?_
    · (refine Z1 ?_ ?_; (focus (first | with_reducible rfl | (simp only [Nat.add_zero] <;> with_reducible rfl))); simp only [exF, Nat.reduceEqDiff, if_true, if_false, reduceIte, Option.some.injEq, reduceCtorEq, Int.cast_ofNat_Int, Nat.add_zero])
    · intro k hk
      repeat (first | simp only [zcx, Jp, zaz, Nat.reduceBEq, reduceIte, Nat.reduceEqDiff, reduceCtorEq, ne_eq, if_true, if_false, exA, exA, tabs, exB, exD, Zl, Zp, Ze, Zi, Zn, AV.isAggV, AV.parts, AV.one, AV.solid, Zf, Zb, Zj, Zc, Zk, Zh, Zg, bndA, lenA, Zd, rowOf, Za, intsOf, Zo, Nat.reduceAdd, Nat.reduceSub, Nat.reduceMul, Nat.reduceLeDiff, Nat.reduceLT, Nat.reduceGT, Int.reduceToNat, Int.reduceLE, Int.reduceLT, Int.reduceEq, Int.reduceNe, Int.reduceAdd, Int.reduceSub, Int.reduceMul, Int.reduceNeg, ite_true, ite_false, dite_true, xc10, xc11, hr] | simp (maxSteps := 1000000) (disch := omega) only [exE, Int.toNat_natCast, Int.reduceToNat, hc])
      repeat (with_reducible refine And.intro (by first | omega | assumption) ?_)
      refine zar [1] (z15 m _ (q k) (q (4 + (k + t) % 4)) (q (8 + (k + 2 * t) % 4)) (q (12 + (k + 3 * t) % 4)) (hq _ (by omega)) (hq _ (by omega)) (hq _ (by omega)) (hq _ (by omega))) rfl rfl (by decide) ?_
      rintro _ _ ⟨rfl, rfl⟩
      repeat (first | simp only [zcx, Jp, zaz, Nat.reduceBEq, reduceIte, Nat.reduceEqDiff, reduceCtorEq, ne_eq, if_true, if_false, exA, exA, tabs, exB, exD, Zl, Zp, Ze, Zi, Zn, AV.isAggV, AV.parts, AV.one, AV.solid, Zf, Zb, Zj, Zc, Zk, Zh, Zg, bndA, lenA, Zd, rowOf, Za, intsOf, Zo, Nat.reduceAdd, Nat.reduceSub, Nat.reduceMul, Nat.reduceLeDiff, Nat.reduceLT, Nat.reduceGT, Int.reduceToNat, Int.reduceLE, Int.reduceLT, Int.reduceEq, Int.reduceNe, Int.reduceAdd, Int.reduceSub, Int.reduceMul, Int.reduceNeg, ite_true, ite_false, dite_true, xc10, xc11, hr, Ya, renB, renL, AV.ren, Yb, z2v] | simp (maxSteps := 1000000) (disch := omega) only [exE, Int.toNat_natCast, Int.reduceToNat])
      have e : allK z q (4 * t + (k + 1)) = zjb (allK z q (4 * t + k)) (q k) (q (4 + (k + t) % 4)) (q (8 + (k + 2 * t) % 4)) (q (12 + (k + 3 * t) % 4)) := by
        show allK z q ((4 * t + k) + 1) = _
        simp only [allK]
        rw [show (4 * t + k) % 4 = k by omega, show (4 * t + k) / 4 = t by omega]
      have e2 : ze7 (Yb [1] 2 0) q = ze7 1 q := rfl
      (refine Z1 ?_ ?_; (focus (first | with_reducible rfl | (simp only [e, e2] <;> with_reducible rfl))); simp only [exF, Nat.reduceEqDiff, if_true, if_false, reduceIte, Option.some.injEq, reduceCtorEq, Int.cast_ofNat_Int, e, e2])
    · repeat (first | simp only [zcx, Jp, zaz, Nat.reduceBEq, reduceIte, Nat.reduceEqDiff, reduceCtorEq, ne_eq, if_true, if_false, exA, exA, tabs, exB, exD, Zl, Zp, Ze, Zi, Zn, AV.isAggV, AV.parts, AV.one, AV.solid, Zf, Zb, Zj, Zc, Zk, Zh, Zg, bndA, lenA, Zd, rowOf, Za, intsOf, Zo, Nat.reduceAdd, Nat.reduceSub, Nat.reduceMul, Nat.reduceLeDiff, Nat.reduceLT, Nat.reduceGT, Int.reduceToNat, Int.reduceLE, Int.reduceLT, Int.reduceEq, Int.reduceNe, Int.reduceAdd, Int.reduceSub, Int.reduceMul, Int.reduceNeg, ite_true, ite_false, dite_true, xc10, xc11, hr] | simp (maxSteps := 1000000) (disch := omega) only [exE, Int.toNat_natCast, Int.reduceToNat])
      (refine Z1 ?_ ?_; (focus (first | with_reducible rfl | (simp only [Nat.mul_succ] <;> with_reducible rfl))); simp only [exF, Nat.reduceEqDiff, if_true, if_false, reduceIte, Option.some.injEq, reduceCtorEq, Int.cast_ofNat_Int, Nat.mul_succ])
  · repeat (first | simp only [zcx, Jp, zaz, Nat.reduceBEq, reduceIte, Nat.reduceEqDiff, reduceCtorEq, ne_eq, if_true, if_false, exA, exA, tabs, exB, exD, Zl, Zp, Ze, Zi, Zn, AV.isAggV, AV.parts, AV.one, AV.solid, Zf, Zb, Zj, Zc, Zk, Zh, Zg, bndA, lenA, Zd, rowOf, Za, intsOf, Zo, Nat.reduceAdd, Nat.reduceSub, Nat.reduceMul, Nat.reduceLeDiff, Nat.reduceLT, Nat.reduceGT, Int.reduceToNat, Int.reduceLE, Int.reduceLT, Int.reduceEq, Int.reduceNe, Int.reduceAdd, Int.reduceSub, Int.reduceMul, Int.reduceNeg, ite_true, ite_false, dite_true, xc10, xc11, hr] | simp (maxSteps := 1000000) (disch := omega) only [exE, Int.toNat_natCast, Int.reduceToNat])
end Go.Proofs.Ytfnfmbikooeiaaa
namespace Go.Proofs.Ytfnfmbikooeiaaa
open Go.Ax
def atK (f g : Nat → AV) (k : Nat) : List AV := (List.range 16).map fun j => if j < k then f j else g j
theorem zue {f g : Nat → AV} (hf : ∀ j, (f j).one = true) (hg : ∀ j, (g j).one = true) (k : Nat) (hk : k < 16) {b c d : Nat} (h : f k = .ptr b c d) : J3 (atK f g k) k (.ptr b c d) = some (atK f g (k + 1)) := by
  rw [zmy _ _ _ _ _ ?_ (by simp [atK, hk]), ← h]
  · congr 1
    apply List.ext_getElem
    · simp [atK]
    · intro i h1 h2
      simp only [atK, List.getElem_set, List.getElem_map, List.getElem_range]
      by_cases hik : k = i
      · subst hik; simp
      · rw [if_neg hik]
        by_cases hi : i < k
        · rw [if_pos hi, if_pos (by omega)]
        · rw [if_neg hi, if_neg (by omega)]
  · intro p hp
    obtain ⟨j, _, rfl⟩ := List.mem_map.1 hp
    split
    · exact hf j
    · exact hg j
theorem z17 (v : List Int) (a b c d : Nat) : (zjb v a b c d).length = v.length := by simp [zjb, zgy, zlm, ze0]
theorem zh5 (z : List Int) (q : Nat → Nat) : ∀ i, (allK z q i).length = z.length
  | 0 => rfl
  | i + 1 => by simp only [allK, z17]; exact zh5 z q i
def idP (j : Nat) : AV := .ptr 0 0 j
def nilP (j : Nat) : AV := .v (.pointer none)
theorem z3w (v : List Int) (hv : v.length = 16) : Zs Try.prog 42 [.arr 16 .u64 v] [] fun r _ => r = .arr 16 .u64 (allK v (fun j => j) 8) := by
  have ht : ∀ l : List Int, l.length = 16 → l.take 16 = l := fun l h => List.take_of_length_le (by omega)
  have hset : ∀ k, k < 16 → J3 (atK idP nilP k) k (.ptr 0 0 k) = some (atK idP nilP (k + 1)) := fun k hk => zue (fun _ => rfl) (fun _ => rfl) k hk rfl
  have e0 : [AV.v (.pointer none), .v (.pointer none), .v (.pointer none), .v (.pointer none), .v (.pointer none), .v (.pointer none), .v (.pointer none), .v (.pointer none), .v (.pointer none), .v (.pointer none), .v (.pointer none), .v (.pointer none), .v (.pointer none), .v (.pointer none), .v (.pointer none), .v (.pointer none)] = atK idP nilP 0 := rfl
  refine Zq (zfj 0) Try.func42 rfl ⟨by kernel_rfl, by show 1 ≤ _; decide, by kernel_rfl, by kernel_rfl⟩ rfl ?_; have hr : Try.f42.results.toList = [.cell 2 60] := rfl
  repeat (first | simp only [zcx, Jp, zaz, Nat.reduceBEq, reduceIte, Nat.reduceEqDiff, reduceCtorEq, ne_eq, if_true, if_false, exA, exA, tabs, exB, exD, Zl, Zp, Ze, Zi, Zn, AV.isAggV, AV.parts, AV.one, AV.solid, Zf, Zb, Zj, Zc, Zk, Zh, Zg, bndA, lenA, Zd, rowOf, Za, intsOf, Zo, Nat.reduceAdd, Nat.reduceSub, Nat.reduceMul, Nat.reduceLeDiff, Nat.reduceLT, Nat.reduceGT, Int.reduceToNat, Int.reduceLE, Int.reduceLT, Int.reduceEq, Int.reduceNe, Int.reduceAdd, Int.reduceSub, Int.reduceMul, Int.reduceNeg, ite_true, ite_false, dite_true, xc10, xc11, hr] | simp (maxSteps := 1000000) (disch := omega) only [exE, Int.toNat_natCast, Int.reduceToNat])
  refine Z3 (zfj 0) (fun i => ⟨envL [(1, .ptr 0 0 0), (2, .ptr 1 0 0), (3, .ptr 2 0 0), (5, .v (.int .i64 i))], [some [.arr 16 .u64 v], some [.arr 16 .u64 (List.replicate 16 0)], some (atK idP nilP i)]⟩) 16 (by kernel_rfl) ?_ ?_ ?_
  · (refine Z1 ?_ ?_; (focus (first | with_reducible rfl | (simp only [e0] <;> with_reducible rfl))); simp only [exF, Nat.reduceEqDiff, if_true, if_false, reduceIte, Option.some.injEq, reduceCtorEq, Int.cast_ofNat_Int, e0])
  · intro i hi
    repeat (first | simp only [zcx, Jp, zaz, Nat.reduceBEq, reduceIte, Nat.reduceEqDiff, reduceCtorEq, ne_eq, if_true, if_false, exA, exA, tabs, exB, exD, Zl, Zp, Ze, Zi, Zn, AV.isAggV, AV.parts, AV.one, AV.solid, Zf, Zb, Zj, Zc, Zk, Zh, Zg, bndA, lenA, Zd, rowOf, Za, intsOf, Zo, Nat.reduceAdd, Nat.reduceSub, Nat.reduceMul, Nat.reduceLeDiff, Nat.reduceLT, Nat.reduceGT, Int.reduceToNat, Int.reduceLE, Int.reduceLT, Int.reduceEq, Int.reduceNe, Int.reduceAdd, Int.reduceSub, Int.reduceMul, Int.reduceNeg, ite_true, ite_false, dite_true, xc10, xc11, hr] | simp (maxSteps := 1000000) (disch := omega) only [exE, Int.toNat_natCast, Int.reduceToNat, hset])
    repeat (with_reducible refine And.intro (by first | omega | assumption) ?_)
    (refine Z1 ?_ ?_; (focus (first | with_reducible rfl | (simp only [hset] <;> with_reducible rfl))); simp only [exF, Nat.reduceEqDiff, if_true, if_false, reduceIte, Option.some.injEq, reduceCtorEq, Int.cast_ofNat_Int, hset])
  · repeat (first | simp only [zcx, Jp, zaz, Nat.reduceBEq, reduceIte, Nat.reduceEqDiff, reduceCtorEq, ne_eq, if_true, if_false, exA, exA, tabs, exB, exD, Zl, Zp, Ze, Zi, Zn, AV.isAggV, AV.parts, AV.one, AV.solid, Zf, Zb, Zj, Zc, Zk, Zh, Zg, bndA, lenA, Zd, rowOf, Za, intsOf, Zo, Nat.reduceAdd, Nat.reduceSub, Nat.reduceMul, Nat.reduceLeDiff, Nat.reduceLT, Nat.reduceGT, Int.reduceToNat, Int.reduceLE, Int.reduceLT, Int.reduceEq, Int.reduceNe, Int.reduceAdd, Int.reduceSub, Int.reduceMul, Int.reduceNeg, ite_true, ite_false, dite_true, xc10, xc11, hr] | simp (maxSteps := 1000000) (disch := omega) only [exE, Int.toNat_natCast, Int.reduceToNat])
    refine zar [2, 0] (zqx 16 v (fun j => j) (fun j h => h)) rfl rfl (by decide) ?_
    rintro _ _ ⟨rfl, rfl⟩
    repeat (first | simp only [zcx, Jp, zaz, Nat.reduceBEq, reduceIte, Nat.reduceEqDiff, reduceCtorEq, ne_eq, if_true, if_false, exA, exA, tabs, exB, exD, Zl, Zp, Ze, Zi, Zn, AV.isAggV, AV.parts, AV.one, AV.solid, Zf, Zb, Zj, Zc, Zk, Zh, Zg, bndA, lenA, Zd, rowOf, Za, intsOf, Zo, Nat.reduceAdd, Nat.reduceSub, Nat.reduceMul, Nat.reduceLeDiff, Nat.reduceLT, Nat.reduceGT, Int.reduceToNat, Int.reduceLE, Int.reduceLT, Int.reduceEq, Int.reduceNe, Int.reduceAdd, Int.reduceSub, Int.reduceMul, Int.reduceNeg, ite_true, ite_false, dite_true, xc10, xc11, hr, Ya, renB, renL, AV.ren, Yb] | simp (maxSteps := 1000000) (disch := omega) only [exE, Int.toNat_natCast, Int.reduceToNat])
    rw [ht (allK v (fun j => j) 8) (by rw [zh5, hv]), ht (allK v (fun j => j) 8) (by rw [zh5, hv])]
end Go.Proofs.Ytfnfmbikooeiaaa
namespace Go.Proofs.Ytfnfmbikooeiaaa
open Go.Ax
def zk3 (x y : Int) : Int := IntKind.u64.wrap (IntKind.u64.wrap (x + y) + IntKind.u64.wrap (IntKind.u64.wrap (2 * x.tmod 4294967296) * y.tmod 4294967296))
theorem z2w (x y : Int) : Zs Try.prog 74 [.v (.int .u64 x), .v (.int .u64 y)] [] fun r _ => r = .v (.int .u64 (zk3 x y)) := by
  refine Zq (zfj 0) Try.func74 rfl ⟨by kernel_rfl, by show 2 ≤ _; decide, by kernel_rfl, by kernel_rfl⟩ rfl ?_; have hr : Try.f74.results.toList = [.tmp 4] := rfl
  repeat (first | simp only [zcx, Jp, zaz, Nat.reduceBEq, reduceIte, Nat.reduceEqDiff, reduceCtorEq, ne_eq, if_true, if_false, exA, exA, tabs, exB, exD, Zl, Zp, Ze, Zi, Zn, AV.isAggV, AV.parts, AV.one, AV.solid, Zf, Zb, Zj, Zc, Zk, Zh, Zg, bndA, lenA, Zd, rowOf, Za, intsOf, Zo, Nat.reduceAdd, Nat.reduceSub, Nat.reduceMul, Nat.reduceLeDiff, Nat.reduceLT, Nat.reduceGT, Int.reduceToNat, Int.reduceLE, Int.reduceLT, Int.reduceEq, Int.reduceNe, Int.reduceAdd, Int.reduceSub, Int.reduceMul, Int.reduceNeg, ite_true, ite_false, dite_true, xc10, xc11, hr] | simp (maxSteps := 1000000) (disch := omega) only [exE, Int.toNat_natCast, Int.reduceToNat])
  rfl
theorem zx5 (n x : Int) (h : 0 ≤ n ∧ 0 ≤ IntKind.i64.wrap (64 - n)) : Zs Try.prog 75 [.v (.int .i64 n), .v (.int .u64 x)] [] fun r _ => r = .v (.int .u64 (rotR n x)) := by
  refine Zq (zfj 0) Try.func75 rfl ⟨by kernel_rfl, by show 2 ≤ _; decide, by kernel_rfl, by kernel_rfl⟩ rfl ?_; have hr : Try.f75.results.toList = [.tmp 4] := rfl
  repeat (first | simp only [zcx, Jp, zaz, Nat.reduceBEq, reduceIte, Nat.reduceEqDiff, reduceCtorEq, ne_eq, if_true, if_false, exA, exA, tabs, exB, exD, Zl, Zp, Ze, Zi, Zn, AV.isAggV, AV.parts, AV.one, AV.solid, Zf, Zb, Zj, Zc, Zk, Zh, Zg, bndA, lenA, Zd, rowOf, Za, intsOf, Zo, Nat.reduceAdd, Nat.reduceSub, Nat.reduceMul, Nat.reduceLeDiff, Nat.reduceLT, Nat.reduceGT, Int.reduceToNat, Int.reduceLE, Int.reduceLT, Int.reduceEq, Int.reduceNe, Int.reduceAdd, Int.reduceSub, Int.reduceMul, Int.reduceNeg, ite_true, ite_false, dite_true, xc10, xc11, hr, h] | simp (maxSteps := 1000000) (disch := omega) only [exE, Int.toNat_natCast, Int.reduceToNat])
  rfl
def F74 : List AV → Option AV
  | [.v (.int .u64 x), .v (.int .u64 y)] => some (.v (.int .u64 (zk3 x y)))
  | _ => none
theorem yng (x y : Int) : F74 [.v (.int .u64 x), .v (.int .u64 y)] = some (.v (.int .u64 (zk3 x y))) := rfl
def F75 : List AV → Option AV
  | [.v (.int .i64 n), .v (.int .u64 x)] => Zu (0 ≤ n ∧ 0 ≤ IntKind.i64.wrap (64 - n)) (some (.v (.int .u64 (rotR n x))))
  | _ => none
theorem ynd (x : Int) : F75 [.v (.int .i64 32), .v (.int .u64 x)] = some (.v (.int .u64 (rotR 32 x))) := rfl
theorem yne (x : Int) : F75 [.v (.int .i64 24), .v (.int .u64 x)] = some (.v (.int .u64 (rotR 24 x))) := rfl
theorem ynf (x : Int) : F75 [.v (.int .i64 16), .v (.int .u64 x)] = some (.v (.int .u64 (rotR 16 x))) := rfl
theorem ync (x : Int) : F75 [.v (.int .i64 63), .v (.int .u64 x)] = some (.v (.int .u64 (rotR 63 x))) := rfl
noncomputable def p8 : FuncId → Option (List AV → Option AV) := Qb (Qb p7 74 F74) 75 F75
noncomputable def c12 (k : Nat) : Cfg := ⟨Try.prog, k, p8, [], n8, none, []⟩
theorem z9z (k : Nat) : (c12 k).odd = [] := rfl
theorem yda (k : Nat) : (c12 k).ro = [] := rfl
theorem yms (k : Nat) : (c12 k).P = Try.prog := rfl
theorem ymq (k : Nat) : (c12 k).pure = p8 := rfl
theorem ymr (k : Nat) : (c12 k).news = n8 := rfl
theorem xc12 :
  (type_of% @Go.Proofs.Ytfnfmbikooeiaaa.ymq) ∧
  (type_of% @Go.Proofs.Ytfnfmbikooeiaaa.ymr) ∧
  (type_of% @Go.Proofs.Ytfnfmbikooeiaaa.p8.eq_1) ∧
  (type_of% @Go.Proofs.Ytfnfmbikooeiaaa.yng) ∧
  (type_of% @Go.Proofs.Ytfnfmbikooeiaaa.ynd) ∧
  (type_of% @Go.Proofs.Ytfnfmbikooeiaaa.yne) ∧
  (type_of% @Go.Proofs.Ytfnfmbikooeiaaa.ynf) ∧
  (type_of% @Go.Proofs.Ytfnfmbikooeiaaa.ync) :=
  ⟨@Go.Proofs.Ytfnfmbikooeiaaa.ymq, @Go.Proofs.Ytfnfmbikooeiaaa.ymr, @Go.Proofs.Ytfnfmbikooeiaaa.p8.eq_1, @Go.Proofs.Ytfnfmbikooeiaaa.yng, @Go.Proofs.Ytfnfmbikooeiaaa.ynd, @Go.Proofs.Ytfnfmbikooeiaaa.yne, @Go.Proofs.Ytfnfmbikooeiaaa.ynf, @Go.Proofs.Ytfnfmbikooeiaaa.ync⟩
theorem z6n (k : Nat) : (c12 k).Good := by
  refine Cfg.Good.add (Cfg.Good.add (zfj k) ?_ k) ?_ k
  · intro args v hF h κ hκ
    unfold F74 at hF
    split at hF
    · cases hF
      exact Yn (z2w _ _) (fun g => rfl) (fun g => rfl) h κ hκ
    · cases hF
  · intro args v hF h κ hκ
    unfold F75 at hF
    split at hF
    · obtain ⟨h1, hF⟩ := Zt hF
      cases hF
      exact Yn (zx5 _ _ h1) (fun g => rfl) (fun g => rfl) h κ hκ
    · cases hF
def zgz (v : List Int) (a b : Nat) : List Int := v.set a (zk3 (v.getD a 0) (v.getD b 0))
def zct (v : List Int) (z x : Nat) (n : Int) : List Int := v.set z (rotR n (xorU (v.getD z 0) (v.getD x 0)))
theorem z5n (v : List Int) (a b : Nat) : v.set a (zk3 (v.getD a 0) (v.getD b 0)) = zgz v a b := rfl
theorem z4i (v : List Int) (z x : Nat) (n : Int) : v.set z (rotR n (xorU (v.getD z 0) (v.getD x 0))) = zct v z x n := rfl
theorem zr5 (v : List Int) (a b : Nat) : (zgz v a b).length = v.length := by simp [zgz]
theorem zrl (v : List Int) (z x : Nat) (n : Int) : (zct v z x n).length = v.length := by simp [zct]
def zai (v : List Int) (a b c d : Nat) : List Int :=
  zct (zgz (zct (zgz (zct (zgz (zct (zgz v a b) d a 32) c d) b c 24) a b) d a 16) c d) b c 63
theorem z3h (v : List Int) (a b c d : Nat) (hv : v.length = 16) (ha : a < 16) (hb : b < 16) (hc : c < 16) (hd : d < 16) :
    Zs Try.prog 61 [.arr 16 .u64 v, .v (.int .i64 a), .v (.int .i64 b), .v (.int .i64 c), .v (.int .i64 d)] [] fun r _ => r = .arr 16 .u64 (zai v a b c d) := by
  have na : ∀ n : Nat, (0 : Int) ≤ n := fun n => Int.natCast_nonneg n
  have ha' : (a : Int) < 16 := by omega
  have hb' : (b : Int) < 16 := by omega
  have hc' : (c : Int) < 16 := by omega
  have hd' : (d : Int) < 16 := by omega
  refine Zq (z6n 0) Try.func61 rfl ⟨by kernel_rfl, by show 5 ≤ _; decide, by kernel_rfl, by kernel_rfl⟩ rfl ?_; have hr : Try.f61.results.toList = [.cell 10 60] := rfl
  repeat (first | simp only [yms, z9z, yda, Nat.reduceBEq, reduceIte, Nat.reduceEqDiff, reduceCtorEq, ne_eq, if_true, if_false, exA, exA, tabs, exB, exD, Zl, Zp, Ze, Zi, Zn, AV.isAggV, AV.parts, AV.one, AV.solid, Zf, Zb, Zj, Zc, Zk, Zh, Zg, bndA, lenA, Zd, rowOf, Za, intsOf, Zo, Nat.reduceAdd, Nat.reduceSub, Nat.reduceMul, Nat.reduceLeDiff, Nat.reduceLT, Nat.reduceGT, Int.reduceToNat, Int.reduceLE, Int.reduceLT, Int.reduceEq, Int.reduceNe, Int.reduceAdd, Int.reduceSub, Int.reduceMul, Int.reduceNeg, ite_true, ite_false, dite_true, xc10, xc11, xc12, hr, na, ha, hb, hc, hd, ha', hb', hc', hd', z5n, z4i] | simp (maxSteps := 1000000) (disch := omega) only [exE, Int.toNat_natCast, Int.reduceToNat])
  have ht : ∀ l : List Int, l.length = 16 → l.take 16 = l := fun l h => List.take_of_length_le (by omega)
  have hl : (zai v a b c d).length = 16 := by simp only [zai, zr5, zrl, hv]
  show AV.arr 16 .u64 (List.take 16 (List.take 16 (zai v a b c d))) = _
  rw [ht (zai v a b c d) hl, ht (zai v a b c d) hl]
end Go.Proofs.Ytfnfmbikooeiaaa
namespace Go.Proofs.Ytfnfmbikooeiaaa
open Go.Ax
theorem zmf (v : List Int) (a b c d : Nat) : (zai v a b c d).length = v.length := by simp only [zai, zr5, zrl]
def F61 : List AV → Option AV
  | [.arr 16 .u64 v, .v (.int .i64 a), .v (.int .i64 b), .v (.int .i64 c), .v (.int .i64 d)] =>
    Zu (v.length = 16 ∧ (0 ≤ a ∧ a < 16) ∧ (0 ≤ b ∧ b < 16) ∧ (0 ≤ c ∧ c < 16) ∧ (0 ≤ d ∧ d < 16)) (some (.arr 16 .u64 (zai v a.toNat b.toNat c.toNat d.toNat)))
  | _ => none
theorem ynj (v : List Int) (a b c d : Int) : F61 [.arr 16 .u64 v, .v (.int .i64 a), .v (.int .i64 b), .v (.int .i64 c), .v (.int .i64 d)] =
    Zu (v.length = 16 ∧ (0 ≤ a ∧ a < 16) ∧ (0 ≤ b ∧ b < 16) ∧ (0 ≤ c ∧ c < 16) ∧ (0 ≤ d ∧ d < 16)) (some (.arr 16 .u64 (zai v a.toNat b.toNat c.toNat d.toNat))) := rfl
noncomputable def p9 : FuncId → Option (List AV → Option AV) := Qb p8 61 F61
noncomputable def c13 (k : Nat) : Cfg := ⟨Try.prog, k, p9, [], n8, none, []⟩
theorem z1g (k : Nat) : (c13 k).odd = [] := rfl
theorem z7g (k : Nat) : (c13 k).ro = [] := rfl
theorem ybp (k : Nat) : (c13 k).P = Try.prog := rfl
theorem ymo (k : Nat) : (c13 k).pure = p9 := rfl
theorem ymp (k : Nat) : (c13 k).news = n8 := rfl
theorem xc13 :
  (type_of% @Go.Proofs.Ytfnfmbikooeiaaa.ymo) ∧
  (type_of% @Go.Proofs.Ytfnfmbikooeiaaa.ymp) ∧
  (type_of% @Go.Proofs.Ytfnfmbikooeiaaa.p9.eq_1) ∧
  (type_of% @Go.Proofs.Ytfnfmbikooeiaaa.ynj) ∧
  (type_of% @Go.Proofs.Ytfnfmbikooeiaaa.zmf) :=
  ⟨@Go.Proofs.Ytfnfmbikooeiaaa.ymo, @Go.Proofs.Ytfnfmbikooeiaaa.ymp, @Go.Proofs.Ytfnfmbikooeiaaa.p9.eq_1, @Go.Proofs.Ytfnfmbikooeiaaa.ynj, @Go.Proofs.Ytfnfmbikooeiaaa.zmf⟩
theorem zyy (k : Nat) : (c13 k).Good := by
  refine Cfg.Good.add (z6n k) ?_ k
  intro args v hF h κ hκ
  unfold F61 at hF
  split at hF
  · rename_i v0 a b c d
    obtain ⟨⟨h0, ⟨a1, a2⟩, ⟨b1, b2⟩, ⟨c1, c2⟩, d1, d2⟩, h5⟩ := Zt hF
    cases h5
    obtain ⟨a, rfl⟩ := Int.eq_ofNat_of_zero_le a1
    obtain ⟨b, rfl⟩ := Int.eq_ofNat_of_zero_le b1
    obtain ⟨c, rfl⟩ := Int.eq_ofNat_of_zero_le c1
    obtain ⟨d, rfl⟩ := Int.eq_ofNat_of_zero_le d1
    exact Yn (z3h v0 a b c d h0 (by omega) (by omega) (by omega) (by omega)) (fun g => rfl) (fun g => rfl) h κ hκ
  · cases hF
def zce (v : List Int) : List Int :=
  zai (zai (zai (zai (zai (zai (zai (zai v 0 4 8 12) 1 5 9 13) 2 6 10 14) 3 7 11 15) 0 5 10 15) 1 6 11 12) 2 7 8 13) 3 4 9 14
theorem zya (v : List Int) (hv : v.length = 16) : Zs Try.prog 43 [.arr 16 .u64 v] [] fun r _ => r = .arr 16 .u64 (zce v) := by
  have ht : ∀ l : List Int, l.length = 16 → l.take 16 = l := fun l h => List.take_of_length_le (by omega)
  have hf : ∀ (l : List Int) a b c d, l.length = 16 → (zai l a b c d).take 16 = zai l a b c d := fun l a b c d h => ht _ (by rw [zmf, h])
  have hv2 : v.take 16 = v := ht v hv
  refine Zq (zyy 0) Try.func43 rfl ⟨by kernel_rfl, by show 1 ≤ _; decide, by kernel_rfl, by kernel_rfl⟩ rfl ?_; have hr : Try.f43.results.toList = [.cell 2 60] := rfl
  repeat (first | simp only [ybp, z1g, z7g, Nat.reduceBEq, reduceIte, Nat.reduceEqDiff, reduceCtorEq, ne_eq, if_true, if_false, exA, exA, tabs, exB, exD, Zl, Zp, Ze, Zi, Zn, AV.isAggV, AV.parts, AV.one, AV.solid, Zf, Zb, Zj, Zc, Zk, Zh, Zg, bndA, lenA, Zd, rowOf, Za, intsOf, Zo, Nat.reduceAdd, Nat.reduceSub, Nat.reduceMul, Nat.reduceLeDiff, Nat.reduceLT, Nat.reduceGT, Int.reduceToNat, Int.reduceLE, Int.reduceLT, Int.reduceEq, Int.reduceNe, Int.reduceAdd, Int.reduceSub, Int.reduceMul, Int.reduceNeg, ite_true, ite_false, dite_true, xc10, xc11, xc12, xc13, hr, hv, hv2] | simp (maxSteps := 1000000) (disch := omega) only [exE, Int.toNat_natCast, Int.reduceToNat])
  simp only [hf, zmf, hv]
  rfl
theorem z0o (x : Int) : lowU x = x % 4294967296 := by
  have h1 : (BitVec.ofInt 64 x &&& BitVec.ofInt 64 4294967295).toNat = (x % 4294967296).toNat := by
    have h2 : ((4294967295 : Int) % ((2 ^ 64 : Nat) : Int)).toNat = 2 ^ 32 - 1 := by decide
    rw [BitVec.toNat_and, BitVec.toNat_ofInt, BitVec.toNat_ofInt, h2, Nat.and_two_pow_sub_one_eq_mod]
    omega
  unfold lowU
  show IntKind.u64.wrap (((BitVec.ofInt 64 x &&& BitVec.ofInt 64 4294967295).toNat : Nat) : Int) = _
  rw [h1, zas]
  omega
theorem z3g (x y : Int) (hx : 0 ≤ x) (hy : 0 ≤ y) :
    IntKind.u64.wrap (x + IntKind.u64.wrap (y + shl .u64 (IntKind.u64.wrap (lowU x * lowU y)) 1)) = zk3 x y := by
  have h1 : (2 : Int) ^ min (1 : Int).toNat IntKind.u64.bits = 2 := by decide
  unfold zk3 shl
  rw [h1, z0o, z0o, Int.tmod_eq_emod_of_nonneg hx, Int.tmod_eq_emod_of_nonneg hy]
  simp only [zas]
  have ha : 0 ≤ x % 4294967296 ∧ x % 4294967296 < 4294967296 := by omega
  generalize x % 4294967296 = a at ha
  generalize y % 4294967296 = b
  have h2 : 2 * a % 18446744073709551616 = 2 * a := by omega
  rw [h2, Int.mul_assoc]
  generalize a * b = p
  omega
end Go.Proofs.Ytfnfmbikooeiaaa
namespace Go.Proofs.Ytfnfmbikooeiaaa
open Go.Ax
def Q3 (v : List Int) : Prop := ∀ i : Nat, 0 ≤ v.getD i 0
theorem Q3.set {v : List Int} (h : Q3 v) (i : Nat) {x : Int} (hx : 0 ≤ x) : Q3 (v.set i x) := by
  intro j
  have hj := h j
  rw [List.getD_eq_getElem?_getD] at hj ⊢
  rw [List.getElem?_set]
  split
  · split
    · simpa using hx
    · simp
  · exact hj
theorem zxv (x : Int) : 0 ≤ IntKind.u64.wrap x := by rw [zas]; omega
theorem zeo {v : List Int} (h : Q3 v) (a b : Nat) : Q3 (zgz v a b) := h.set a (zxv _)
theorem zef {v : List Int} (h : Q3 v) (z x : Nat) (n : Int) : Q3 (zct v z x n) := h.set z (zxv _)
theorem z6t {v : List Int} (h : Q3 v) (a b c d : Nat) : Q3 (zai v a b c d) :=
  zef (zeo (zef (zeo (zef (zeo (zef (zeo h _ _) _ _ _) _ _) _ _ _) _ _) _ _ _) _ _) _ _ _
theorem zll {v : List Int} (h : Q3 v) (x y : Nat) : zlm v x y = zgz v x y := by
  unfold zlm zgz
  rw [z3g _ _ (h x) (h y)]
theorem z4k (v : List Int) (z x : Nat) : ze0 v z x (-32) = zct v z x 32 := by
  have h : IntKind.i64.wrap (-32) = -32 := by decide
  have h2 := yax (xorU (v.getD z 0) (v.getD x 0))
  rw [h] at h2
  unfold ze0 zct; rw [h2]
theorem z4l (v : List Int) (z x : Nat) : ze0 v z x (-24) = zct v z x 24 := by
  have h : IntKind.i64.wrap (-24) = -24 := by decide
  have h2 := yay (xorU (v.getD z 0) (v.getD x 0))
  rw [h] at h2
  unfold ze0 zct; rw [h2]
theorem z4m (v : List Int) (z x : Nat) : ze0 v z x (-16) = zct v z x 16 := by
  have h : IntKind.i64.wrap (-16) = -16 := by decide
  have h2 := yaz (xorU (v.getD z 0) (v.getD x 0))
  rw [h] at h2
  unfold ze0 zct; rw [h2]
theorem z4j (v : List Int) (z x : Nat) : ze0 v z x (-63) = zct v z x 63 := by
  have h : IntKind.i64.wrap (-63) = -63 := by decide
  have h2 := yaw (xorU (v.getD z 0) (v.getD x 0))
  rw [h] at h2
  unfold ze0 zct; rw [h2]
theorem zuz {v : List Int} (h : Q3 v) (a b c d : Nat) : zjb v a b c d = zai v a b c d := by
  unfold zjb zgy zai
  rw [zll h, z4k]
  have h1 := zef (zeo h a b) d a 32
  rw [zll h1, z4l]
  have h2 := zef (zeo h1 c d) b c 24
  rw [zll h2, z4m]
  have h3 := zef (zeo h2 a b) d a 16
  rw [zll h3, z4j]
theorem zn8 {z : List Int} (h : Q3 z) (q : Nat → Nat) : ∀ i, Q3 (allK z q i)
  | 0 => h
  | i + 1 => by
    simp only [allK]
    rw [zuz (zn8 h q i)]
    exact z6t (zn8 h q i) _ _ _ _
theorem z4o {v : List Int} (h : Q3 v) : allK v (fun j => j) 8 = zce v := by
  have hs : ∀ i, allK v (fun j => j) (i + 1) = zai (allK v (fun j => j) i) (i % 4) (4 + (i % 4 + i / 4) % 4) (8 + (i % 4 + 2 * (i / 4)) % 4) (12 + (i % 4 + 3 * (i / 4)) % 4) := by
    intro i
    have := zuz (zn8 h (fun j => j) i) (i % 4) (4 + (i % 4 + i / 4) % 4) (8 + (i % 4 + 2 * (i / 4)) % 4) (12 + (i % 4 + 3 * (i / 4)) % 4)
    rw [← this]; rfl
  rw [hs 7, hs 6, hs 5, hs 4, hs 3, hs 2, hs 1, hs 0]
  rfl
end Go.Proofs.Ytfnfmbikooeiaaa
namespace Go.Proofs.Ytfnfmbikooeiaaa
open Go.Ax
def le4 (n : Int) : List Int := [IntKind.u8.wrap n, IntKind.u8.wrap (shr .i64 n 8), IntKind.u8.wrap (shr .i64 n 16), IntKind.u8.wrap (shr .i64 n 24)]
def b64 (all : List Int) : Nat → List Int
  | 0 => all
  | i + 1 => Qd 64 [] (b64 all i)
def zb8 (all : List Int) : Nat → List Int
  | 0 => []
  | i + 1 => zb8 all i ++ (b64 all (i + 1)).take 32
def Qm (n : Nat) (all : List Int) : List Int :=
  if n ≤ 64 then Qd n [] all else zb8 all ((n - 33) / 32) ++ Qd (n - 32 * ((n - 33) / 32)) [] (b64 all ((n - 33) / 32))
def vAt (n : Nat) (all : List Int) (i : Nat) : List Int := if i < (n - 33) / 32 then b64 all (i + 1) else Qd (n - 32 * ((n - 33) / 32)) [] (b64 all ((n - 33) / 32))
def vLen (n i : Nat) : Nat := if i < (n - 33) / 32 then 64 else n - 32 * ((n - 33) / 32)
theorem zz1 (n : Nat) (all : List Int) (i : Nat) : (vAt n all i).length = vLen n i := by
  unfold vAt vLen
  split
  · simp only [b64]; exact Qh _ _ _
  · exact Qh _ _ _
theorem z4h (n : Nat) (all : List Int) (i : Nat) (h : i < (n - 33) / 32) : vAt n all (i + 1) = Qd (vLen n (i + 1)) [] (vAt n all i) := by
  unfold vAt vLen
  rw [if_pos h]
  by_cases h2 : i + 1 < (n - 33) / 32
  · rw [if_pos h2, if_pos h2]; rfl
  · rw [if_neg h2, if_neg h2]
    have : (n - 33) / 32 = i + 1 := by omega
    rw [this]
theorem zc3 (all : List Int) (i : Nat) : (zb8 all i).length = 32 * i := by
  induction i with
  | zero => rfl
  | succ i ih => simp only [zb8, List.length_append, List.length_take, ih, b64, Qh]; omega
theorem z53 (n : Int) (ms : List (List Int)) (hb : n < 1 ∨ 65536 < n) :
    Zs Try.prog 31 [.v (.int .i64 n), .roL 1 (ms.map (AV.roI .u8))] [] fun v h' => v = .tup [.v (.slice none 0 0), .v (.int .i64 1)] ∧ h' = [] := by
  refine Zq (zme 0) Try.func31 rfl ⟨by kernel_rfl, by show 2 ≤ _; decide, by kernel_rfl, by kernel_rfl⟩ rfl ?_; have hr : Try.f31.results.toList = [.tmp 4, .tmp 5] := rfl
  rcases hb with hb | hb
  · repeat (first | simp only [zlv, zd6, zgv, Nat.reduceBEq, reduceIte, Nat.reduceEqDiff, reduceCtorEq, ne_eq, if_true, if_false, exA, exA, tabs, exB, exD, Zl, Zp, Ze, Zi, Zn, AV.isAggV, AV.parts, AV.one, AV.solid, Zf, Zb, Zj, Zc, Zk, Zh, Zg, bndA, lenA, Zd, rowOf, Za, intsOf, Zo, Nat.reduceAdd, Nat.reduceSub, Nat.reduceMul, Nat.reduceLeDiff, Nat.reduceLT, Nat.reduceGT, Int.reduceToNat, Int.reduceLE, Int.reduceLT, Int.reduceEq, Int.reduceNe, Int.reduceAdd, Int.reduceSub, Int.reduceMul, Int.reduceNeg, ite_true, ite_false, dite_true, xc10, hr, hb] | simp (maxSteps := 1000000) (disch := omega) only [exE, Int.toNat_natCast, Int.reduceToNat])
  · have h1 : ¬ n < 1 := by omega
    repeat (first | simp only [zlv, zd6, zgv, Nat.reduceBEq, reduceIte, Nat.reduceEqDiff, reduceCtorEq, ne_eq, if_true, if_false, exA, exA, tabs, exB, exD, Zl, Zp, Ze, Zi, Zn, AV.isAggV, AV.parts, AV.one, AV.solid, Zf, Zb, Zj, Zc, Zk, Zh, Zg, bndA, lenA, Zd, rowOf, Za, intsOf, Zo, Nat.reduceAdd, Nat.reduceSub, Nat.reduceMul, Nat.reduceLeDiff, Nat.reduceLT, Nat.reduceGT, Int.reduceToNat, Int.reduceLE, Int.reduceLT, Int.reduceEq, Int.reduceNe, Int.reduceAdd, Int.reduceSub, Int.reduceMul, Int.reduceNeg, ite_true, ite_false, dite_true, xc10, hr, hb, h1] | simp (maxSteps := 1000000) (disch := omega) only [exE, Int.toNat_natCast, Int.reduceToNat])
theorem zym (n : Nat) (ms : List (List Int)) (hn : 1 ≤ n ∧ n ≤ 64) (hb : ms.flatten.length ≤ 274877906944 ∧ ms.length ≤ 274877906944) :
    Zs Try.prog 31 [.v (.int .i64 n), .roL 1 (ms.map (AV.roI .u8))] [] fun v h' => v = .tup [.sl 0 0 1 0 n n, .v (.int .i64 0)] ∧ h' = [some [.arr n .u8 (Qm n (le4 n ++ ms.flatten))]] := by
  refine Zs.weak (C := c10 0) rfl (κ := fun v h' => v = .tup [.sl 3 0 1 0 n n, .v (.int .i64 0)] ∧ ∃ x y z, h' = [x, y, z, some [.arr n .u8 (Qm n (le4 n ++ ms.flatten))]]) ?_ ?_
  · have hL : Qm n (le4 n ++ ms.flatten) = Qd n [] (le4 n ++ ms.flatten) := by unfold Qm; rw [if_pos hn.2]
    rw [hL]
    refine Zq (zme 0) Try.func31 rfl ⟨by kernel_rfl, by show 2 ≤ _; decide, by kernel_rfl, by kernel_rfl⟩ rfl ?_; have hr : Try.f31.results.toList = [.tmp 4, .tmp 5] := rfl
    repeat (first | simp only [zlv, zd6, zgv, Nat.reduceBEq, reduceIte, Nat.reduceEqDiff, reduceCtorEq, ne_eq, if_true, if_false, exA, exA, tabs, exB, exD, Zl, Zp, Ze, Zi, Zn, AV.isAggV, AV.parts, AV.one, AV.solid, Zf, Zb, Zj, Zc, Zk, Zh, Zg, bndA, lenA, Zd, rowOf, Za, intsOf, Zo, Nat.reduceAdd, Nat.reduceSub, Nat.reduceMul, Nat.reduceLeDiff, Nat.reduceLT, Nat.reduceGT, Int.reduceToNat, Int.reduceLE, Int.reduceLT, Int.reduceEq, Int.reduceNe, Int.reduceAdd, Int.reduceSub, Int.reduceMul, Int.reduceNeg, ite_true, ite_false, dite_true, xc10, hr] | simp (maxSteps := 1000000) (disch := omega) only [exE, Int.toNat_natCast, Int.reduceToNat])
    repeat (with_reducible refine And.intro (by first | omega | assumption) ?_)
    intro c0 _
    have hso : (ms.map (AV.roI .u8)).all AV.solid = true := by simp [AV.solid, AV.one]
    have htk : List.take (1 + ms.length) (AV.sl 0 0 1 0 4 4 :: List.map (AV.roI .u8) ms) = AV.sl 0 0 1 0 4 4 :: List.map (AV.roI .u8) ms := List.take_of_length_le (by simp; omega)
    repeat (first | simp only [zlv, zd6, zgv, Nat.reduceBEq, reduceIte, Nat.reduceEqDiff, reduceCtorEq, ne_eq, if_true, if_false, exA, exA, tabs, exB, exD, Zl, Zp, Ze, Zi, Zn, AV.isAggV, AV.parts, AV.one, AV.solid, Zf, Zb, Zj, Zc, Zk, Zh, Zg, bndA, lenA, Zd, rowOf, Za, intsOf, Zo, Nat.reduceAdd, Nat.reduceSub, Nat.reduceMul, Nat.reduceLeDiff, Nat.reduceLT, Nat.reduceGT, Int.reduceToNat, Int.reduceLE, Int.reduceLT, Int.reduceEq, Int.reduceNe, Int.reduceAdd, Int.reduceSub, Int.reduceMul, Int.reduceNeg, ite_true, ite_false, dite_true, xc10, hr, hso, htk] | simp (maxSteps := 1000000) (disch := omega) only [exE, Int.toNat_natCast, Int.reduceToNat])
    repeat (with_reducible refine And.intro (by first | omega | assumption) ?_)
    exact ⟨_, _, _, rfl⟩
  · rintro v h' ⟨rfl, x, y, z, rfl⟩
    exact ⟨_, _, Z2 [3] (by decide) (by simp) (by rfl) rfl ⟨rfl, trivial⟩, rfl, rfl⟩
def outB (n : Nat) (all : List Int) (i : Nat) : List Int := if i = 0 then List.replicate (n + 32) 0 else zb8 all i
theorem zsh (n : Nat) (all : List Int) (i : Nat) : (outB n all i).take (32 * i) = zb8 all i := by
  unfold outB
  split
  · subst i; rfl
  · exact List.take_of_length_le (by rw [zc3]; omega)
theorem zvw (n : Nat) (all : List Int) (i : Nat) : 32 * i ≤ (outB n all i).length := by
  unfold outB
  split
  · subst i; simp
  · rw [zc3]; omega
theorem z52 (n : Nat) (ms : List (List Int)) (hn : 64 < n ∧ n ≤ 65536) (hb : ms.flatten.length ≤ 274877906944 ∧ ms.length ≤ 274877906944) :
    Zs Try.prog 31 [.v (.int .i64 n), .roL 1 (ms.map (AV.roI .u8))] [] fun v h' => ∃ c, n ≤ c ∧ v = .tup [.sl 0 0 1 0 n c, .v (.int .i64 0)] ∧ h' = [some [.arr n .u8 (Qm n (le4 n ++ ms.flatten))]] := by
  refine Zs.weak (C := c10 0) rfl (κ := fun v h' => ∃ c x y, n ≤ c ∧ v = .tup [.sl 2 0 1 0 n c, .v (.int .i64 0)] ∧ h' = [x, y, some [.arr n .u8 (Qm n (le4 n ++ ms.flatten))]]) ?_ ?_
  · have h64 : ¬ n ≤ 64 := by omega
    refine Zq (zme 0) Try.func31 rfl ⟨by kernel_rfl, by show 2 ≤ _; decide, by kernel_rfl, by kernel_rfl⟩ rfl ?_; have hr : Try.f31.results.toList = [.tmp 4, .tmp 5] := rfl
    repeat (first | simp only [zlv, zd6, zgv, Nat.reduceBEq, reduceIte, Nat.reduceEqDiff, reduceCtorEq, ne_eq, if_true, if_false, exA, exA, tabs, exB, exD, Zl, Zp, Ze, Zi, Zn, AV.isAggV, AV.parts, AV.one, AV.solid, Zf, Zb, Zj, Zc, Zk, Zh, Zg, bndA, lenA, Zd, rowOf, Za, intsOf, Zo, Nat.reduceAdd, Nat.reduceSub, Nat.reduceMul, Nat.reduceLeDiff, Nat.reduceLT, Nat.reduceGT, Int.reduceToNat, Int.reduceLE, Int.reduceLT, Int.reduceEq, Int.reduceNe, Int.reduceAdd, Int.reduceSub, Int.reduceMul, Int.reduceNeg, ite_true, ite_false, dite_true, xc10, hr] | simp (maxSteps := 1000000) (disch := omega) only [exE, Int.toNat_natCast, Int.reduceToNat])
    repeat (with_reducible refine And.intro (by first | omega | assumption) ?_)
    intro c0 _
    have hso : (ms.map (AV.roI .u8)).all AV.solid = true := by simp [AV.solid, AV.one]
    have htk : List.take (1 + ms.length) (AV.sl 0 0 1 0 4 4 :: List.map (AV.roI .u8) ms) = AV.sl 0 0 1 0 4 4 :: List.map (AV.roI .u8) ms := List.take_of_length_le (by simp; omega)
    repeat (first | simp only [zlv, zd6, zgv, Nat.reduceBEq, reduceIte, Nat.reduceEqDiff, reduceCtorEq, ne_eq, if_true, if_false, exA, exA, tabs, exB, exD, Zl, Zp, Ze, Zi, Zn, AV.isAggV, AV.parts, AV.one, AV.solid, Zf, Zb, Zj, Zc, Zk, Zh, Zg, bndA, lenA, Zd, rowOf, Za, intsOf, Zo, Nat.reduceAdd, Nat.reduceSub, Nat.reduceMul, Nat.reduceLeDiff, Nat.reduceLT, Nat.reduceGT, Int.reduceToNat, Int.reduceLE, Int.reduceLT, Int.reduceEq, Int.reduceNe, Int.reduceAdd, Int.reduceSub, Int.reduceMul, Int.reduceNeg, ite_true, ite_false, dite_true, xc10, hr, hso, htk] | simp (maxSteps := 1000000) (disch := omega) only [exE, Int.toNat_natCast, Int.reduceToNat])
    repeat (with_reducible refine And.intro (by first | omega | assumption) ?_)
    refine Jy (zme 0) (fun i c => ⟨envL [(0, .v (.int .i64 n)), (7, .sl 0 0 1 0 (32 * i) c), (8, .sl 1 0 1 0 (vLen n i) (vLen n i))],
      [some [.arr (outB n (le4 n ++ ms.flatten) i).length .u8 (outB n (le4 n ++ ms.flatten) i)], some [.arr (vLen n i) .u8 (vAt n (le4 n ++ ms.flatten) i)]]⟩) ((n - 33) / 32) (by kernel_rfl) ⟨n + 32, ?_⟩ ?_ ?_
    · have e0 : vLen n 0 = 64 := by unfold vLen; rw [if_pos (by omega)]
      have e1 : ∀ all, outB n all 0 = List.replicate (n + 32) 0 := fun all => rfl
      have e2 : ∀ all, vAt n all 0 = Qd 64 [] all := by intro all; unfold vAt; rw [if_pos (by omega)]; rfl
      rw [e0, e1, e2, List.length_replicate]
      (refine Z2 [3, 4] (by decide) (by simp) (by rfl) ?_ ?_; (focus (first | with_reducible rfl | (simp only [List.map_cons, List.map_nil, List.cons_append, List.nil_append, List.getElem?_cons_zero, List.getElem?_cons_succ, renB, renL, Option.map_some, Option.map_none, AV.ren, Z4, List.getD_cons_zero, List.getD_cons_succ, le4, List.cons_append, List.nil_append, Nat.mul_zero] <;> with_reducible rfl))); simp only [exF, List.map_cons, List.map_nil, List.length_cons, List.length_nil, Nat.reduceAdd, AV.ren, renL, Z4, Nat.reduceEqDiff, if_true, if_false, reduceIte, Option.some.injEq, reduceCtorEq, Int.cast_ofNat_Int, le4, List.cons_append, List.nil_append, Nat.mul_zero])
    · intro i c hi
      have v1 : vLen n i = 64 := by unfold vLen; rw [if_pos hi]
      have ho := zvw n (le4 n ++ ms.flatten) i
      have ht := zsh n (le4 n ++ ms.flatten) i
      have hvl := zz1 n (le4 n ++ ms.flatten) i
      rw [v1] at hvl
      have hmin : min 32 64 = 32 := rfl
      have hvb : 33 ≤ vLen n (i + 1) ∧ vLen n (i + 1) ≤ 64 := by unfold vLen; split <;> omega
      have hm : (if ((n - (32 * i + 32) : Nat) : Int) < 64 then ((n - (32 * i + 32) : Nat) : Int) else 64) = ((vLen n (i + 1) : Nat) : Int) := by unfold vLen; split <;> split <;> omega
      repeat (first | simp only [zlv, zd6, zgv, Nat.reduceBEq, reduceIte, Nat.reduceEqDiff, reduceCtorEq, ne_eq, if_true, if_false, exA, exA, tabs, exB, exD, Zl, Zp, Ze, Zi, Zn, AV.isAggV, AV.parts, AV.one, AV.solid, Zf, Zb, Zj, Zc, Zk, Zh, Zg, bndA, lenA, Zd, rowOf, Za, intsOf, Zo, Nat.reduceAdd, Nat.reduceSub, Nat.reduceMul, Nat.reduceLeDiff, Nat.reduceLT, Nat.reduceGT, Int.reduceToNat, Int.reduceLE, Int.reduceLT, Int.reduceEq, Int.reduceNe, Int.reduceAdd, Int.reduceSub, Int.reduceMul, Int.reduceNeg, ite_true, ite_false, dite_true, xc10, hr, v1, ht, hvl, hmin, hm] | simp (maxSteps := 1000000) (disch := omega) only [exE, Int.toNat_natCast, Int.reduceToNat])
      repeat (with_reducible refine And.intro (by first | omega | assumption) ?_)
      intro c1 _
      refine ⟨c1, ?_⟩
      have e1 : outB n (le4 n ++ ms.flatten) (i + 1) = zb8 (le4 n ++ ms.flatten) i ++ List.take 32 (vAt n (le4 n ++ ms.flatten) i) := by
        unfold outB vAt
        rw [if_neg (by omega), if_pos hi]
        rfl
      have e2 : (outB n (le4 n ++ ms.flatten) (i + 1)).length = 32 * i + 32 := by
        unfold outB
        rw [if_neg (by omega), zc3]; omega
      rw [e2, e1, z4h n _ i hi, show 32 * (i + 1) = 32 * i + 32 by omega]
      (refine Z2 [2, 4] (by decide) (by simp) (by rfl) ?_ ?_; (focus (first | with_reducible rfl | (simp only [List.map_cons, List.map_nil, List.cons_append, List.nil_append, List.getElem?_cons_zero, List.getElem?_cons_succ, renB, renL, Option.map_some, Option.map_none, AV.ren, Z4, List.getD_cons_zero, List.getD_cons_succ, e1] <;> with_reducible rfl))); simp only [exF, List.map_cons, List.map_nil, List.length_cons, List.length_nil, Nat.reduceAdd, AV.ren, renL, Z4, Nat.reduceEqDiff, if_true, if_false, reduceIte, Option.some.injEq, reduceCtorEq, Int.cast_ofNat_Int, e1])
    · intro c
      have vR : vLen n ((n - 33) / 32) = n - 32 * ((n - 33) / 32) := by unfold vLen; rw [if_neg (by omega)]
      have ho := zvw n (le4 n ++ ms.flatten) ((n - 33) / 32)
      have ht := zsh n (le4 n ++ ms.flatten) ((n - 33) / 32)
      have hvl := zz1 n (le4 n ++ ms.flatten) ((n - 33) / 32)
      rw [vR] at hvl
      have hvt : List.take (n - 32 * ((n - 33) / 32)) (vAt n (le4 n ++ ms.flatten) ((n - 33) / 32)) = vAt n (le4 n ++ ms.flatten) ((n - 33) / 32) := List.take_of_length_le (by omega)
      repeat (first | simp only [zlv, zd6, zgv, Nat.reduceBEq, reduceIte, Nat.reduceEqDiff, reduceCtorEq, ne_eq, if_true, if_false, exA, exA, tabs, exB, exD, Zl, Zp, Ze, Zi, Zn, AV.isAggV, AV.parts, AV.one, AV.solid, Zf, Zb, Zj, Zc, Zk, Zh, Zg, bndA, lenA, Zd, rowOf, Za, intsOf, Zo, Nat.reduceAdd, Nat.reduceSub, Nat.reduceMul, Nat.reduceLeDiff, Nat.reduceLT, Nat.reduceGT, Int.reduceToNat, Int.reduceLE, Int.reduceLT, Int.reduceEq, Int.reduceNe, Int.reduceAdd, Int.reduceSub, Int.reduceMul, Int.reduceNeg, ite_true, ite_false, dite_true, xc10, hr, vR, ht, hvl, hvt] | simp (maxSteps := 1000000) (disch := omega) only [exE, Int.toNat_natCast, Int.reduceToNat])
      repeat (with_reducible refine And.intro (by first | omega | assumption) ?_)
      intro c1 hc1
      have eN : 32 * ((n - 33) / 32) + (n - 32 * ((n - 33) / 32)) = n := by omega
      have eL : Qm n (le4 n ++ ms.flatten) = zb8 (le4 n ++ ms.flatten) ((n - 33) / 32) ++ vAt n (le4 n ++ ms.flatten) ((n - 33) / 32) := by
        unfold Qm vAt
        rw [if_neg h64, if_neg (by omega)]
      rw [eN, eL]
      exact ⟨_, _, _, by omega, rfl, rfl⟩
  · rintro v h' ⟨c, x, y, hc, rfl, rfl⟩
    exact ⟨_, _, Z2 [2] (by decide) (by simp) (by rfl) rfl ⟨rfl, trivial⟩, _, hc, rfl, rfl⟩
def N31 (h : List Blk) : List AV → Option Out
  | [.v (.int .i64 n), m] => (zkh h m).bind fun ms => osel (decide (n < 1 ∨ 65536 < n)) (some (.one (.tup [.v (.slice none 0 0), .v (.int .i64 1)]) h))
      (Zu (ms.flatten.length ≤ 274877906944 ∧ ms.length ≤ 274877906944) (some (.cap n.toNat fun c => (.tup [.sl h.length 0 1 0 n.toNat c, .v (.int .i64 0)], h ++ [some [.arr n.toNat .u8 (Qm n.toNat (le4 n ++ ms.flatten))]]))))
  | _ => none
theorem yna (h : List Blk) (n : Int) (m : AV) : N31 h [.v (.int .i64 n), m] = (zkh h m).bind fun ms => osel (decide (n < 1 ∨ 65536 < n)) (some (.one (.tup [.v (.slice none 0 0), .v (.int .i64 1)]) h))
      (Zu (ms.flatten.length ≤ 274877906944 ∧ ms.length ≤ 274877906944) (some (.cap n.toNat fun c => (.tup [.sl h.length 0 1 0 n.toNat c, .v (.int .i64 0)], h ++ [some [.arr n.toNat .u8 (Qm n.toNat (le4 n ++ ms.flatten))]])))) := rfl
theorem ycu {C : Cfg} (hP : C.P = Try.prog) (h : List Blk) (args : List AV) (out : Out) (hN : N31 h args = some out) : (out.all fun _ h' => ∃ ext, h' = h ++ ext) ∧ ∀ κ, out.all κ → Zs C.P 31 args h κ := by
  rw [hP]
  unfold N31 at hN
  split at hN
  · rename_i n m
    obtain ⟨ms, hm, hN⟩ := Option.bind_eq_some_iff.1 hN
    by_cases hb : n < 1 ∨ 65536 < n
    · rw [zcj (decide_eq_true hb)] at hN
      cases hN
      refine ⟨⟨[], by simp⟩, fun κ hκ => Ql (args := [.v (.int .i64 n), m]) (z53 n ms hb) (by rintro _ _ ⟨rfl, rfl⟩; exact ⟨rfl, rfl⟩) (fun g => rfl) ⟨Frz.same _, zh8 hm, trivial⟩ ?_ hκ⟩
      rintro _ _ ⟨rfl, rfl⟩
      exact ⟨rfl, by simp⟩
    · rw [zck (decide_eq_false hb)] at hN
      obtain ⟨h2, hN⟩ := Zt hN
      cases hN
      obtain ⟨n, rfl⟩ := Int.eq_ofNat_of_zero_le (show 0 ≤ n by omega)
      refine ⟨fun c _ => ⟨_, rfl⟩, fun κ hκ => Ql (args := [.v (.int .i64 n), m]) (args0 := [.v (.int .i64 n), .roL 1 (ms.map (AV.roI .u8))]) (R := fun v h' => ∃ c, n ≤ c ∧ v = .tup [.sl 0 0 1 0 n c, .v (.int .i64 0)] ∧ h' = [some [.arr n .u8 (Qm n (le4 n ++ ms.flatten))]]) ?_ (by rintro _ _ ⟨c, _, rfl, rfl⟩; exact ⟨rfl, rfl⟩) (fun g => rfl) ⟨Frz.same _, zh8 hm, trivial⟩ ?_ hκ⟩
      · by_cases h0 : n ≤ 64
        · refine (zym n ms (by omega) h2).mono ?_
          rintro _ _ ⟨rfl, rfl⟩
          exact ⟨_, Nat.le_refl _, rfl, rfl⟩
        · exact z52 n ms (by omega) h2
      · rintro _ _ ⟨c, hc, rfl, rfl⟩
        exact ⟨c, by simpa using hc, rfl⟩
  · cases hN
end Go.Proofs.Ytfnfmbikooeiaaa
namespace Go.Proofs.Ytfnfmbikooeiaaa
open Go.Ax
theorem zy0 (n : Int) : Zs Try.prog 58 [.v (.int .i64 n)] [] fun v h' => v = .sl 0 0 1 0 4 4 ∧ h' = [some [.arr 4 .u8 (le4 n)]] := by
  refine Zq (zyy 0) Try.func58 rfl ⟨by kernel_rfl, by show 1 ≤ _; decide, by kernel_rfl, by kernel_rfl⟩ rfl ?_; have hr : Try.f58.results.toList = [.tmp 2] := rfl
  repeat (first | simp only [ybp, z1g, z7g, Nat.reduceBEq, reduceIte, Nat.reduceEqDiff, reduceCtorEq, ne_eq, if_true, if_false, exA, exA, tabs, exB, exD, Zl, Zp, Ze, Zi, Zn, AV.isAggV, AV.parts, AV.one, AV.solid, Zf, Zb, Zj, Zc, Zk, Zh, Zg, bndA, lenA, Zd, rowOf, Za, intsOf, Zo, Nat.reduceAdd, Nat.reduceSub, Nat.reduceMul, Nat.reduceLeDiff, Nat.reduceLT, Nat.reduceGT, Int.reduceToNat, Int.reduceLE, Int.reduceLT, Int.reduceEq, Int.reduceNe, Int.reduceAdd, Int.reduceSub, Int.reduceMul, Int.reduceNeg, ite_true, ite_false, dite_true, xc10, xc11, xc12, xc13, hr] | simp (maxSteps := 1000000) (disch := omega) only [exE, Int.toNat_natCast, Int.reduceToNat])
  rfl
def N58 (h : List Blk) : List AV → Option Out
  | [.v (.int .i64 n)] => some (.one (.sl h.length 0 1 0 4 4) (h ++ [some [.arr 4 .u8 (le4 n)]]))
  | _ => none
theorem ym4 (h : List Blk) (n : Int) : N58 h [.v (.int .i64 n)] = some (.one (.sl h.length 0 1 0 4 4) (h ++ [some [.arr 4 .u8 (le4 n)]])) := rfl
noncomputable def n9 : FuncId → Option (List Blk → List AV → Option Out) := Qz (Qz n8 31 N31) 58 N58
noncomputable def c14 (k : Nat) : Cfg := ⟨Try.prog, k, p9, [], n9, none, []⟩
theorem zd5 (k : Nat) : (c14 k).odd = [] := rfl
theorem zgu (k : Nat) : (c14 k).ro = [] := rfl
theorem zlu (k : Nat) : (c14 k).P = Try.prog := rfl
theorem ymm (k : Nat) : (c14 k).pure = p9 := rfl
theorem ymn (k : Nat) : (c14 k).news = n9 := rfl
theorem xc14 :
  (type_of% @Go.Proofs.Ytfnfmbikooeiaaa.ymm) ∧
  (type_of% @Go.Proofs.Ytfnfmbikooeiaaa.ymn) ∧
  (type_of% @Go.Proofs.Ytfnfmbikooeiaaa.n9.eq_1) ∧
  (type_of% @Go.Proofs.Ytfnfmbikooeiaaa.yna) ∧
  (type_of% @Go.Proofs.Ytfnfmbikooeiaaa.ym4) :=
  ⟨@Go.Proofs.Ytfnfmbikooeiaaa.ymm, @Go.Proofs.Ytfnfmbikooeiaaa.ymn, @Go.Proofs.Ytfnfmbikooeiaaa.n9.eq_1, @Go.Proofs.Ytfnfmbikooeiaaa.yna, @Go.Proofs.Ytfnfmbikooeiaaa.ym4⟩
theorem zqb (k : Nat) : (c14 k).Good := by
  refine Cfg.Good.addN (Cfg.Good.addN (zyy k) ?_ k) ?_ k
  · intro h args out hN
    exact ycu rfl h args out hN
  · intro h args out hN
    unfold N58 at hN
    split at hN
    · rename_i n
      cases hN
      refine ⟨⟨_, rfl⟩, fun κ hκ => Ql (args := [.v (.int .i64 n)]) (zy0 n) (by rintro _ _ ⟨rfl, rfl⟩; exact ⟨rfl, rfl⟩) (fun g => rfl) ⟨Frz.same _, trivial⟩ ?_ hκ⟩
      rintro _ _ ⟨rfl, rfl⟩
      exact ⟨rfl, rfl⟩
    · cases hN
theorem z2s (n : Int) (b : List Int) (hb : n < 1 ∨ 65536 < n) :
    Zs Try.prog 32 [.v (.int .i64 n), .roI .u8 b] [] fun v h' => v = .tup [.v (.slice none 0 0), .v (.int .i64 1)] ∧ h' = [] := by
  refine Zq (zqb 0) Try.func32 rfl ⟨by kernel_rfl, by show 2 ≤ _; decide, by kernel_rfl, by kernel_rfl⟩ rfl ?_; have hr : Try.f32.results.toList = [.tmp 4, .tmp 5] := rfl
  rcases hb with hb | hb
  · repeat (first | simp only [zlu, zd5, zgu, Nat.reduceBEq, reduceIte, Nat.reduceEqDiff, reduceCtorEq, ne_eq, if_true, if_false, exA, exA, tabs, exB, exD, Zl, Zp, Ze, Zi, Zn, AV.isAggV, AV.parts, AV.one, AV.solid, Zf, Zb, Zj, Zc, Zk, Zh, Zg, bndA, lenA, Zd, rowOf, Za, intsOf, Zo, Nat.reduceAdd, Nat.reduceSub, Nat.reduceMul, Nat.reduceLeDiff, Nat.reduceLT, Nat.reduceGT, Int.reduceToNat, Int.reduceLE, Int.reduceLT, Int.reduceEq, Int.reduceNe, Int.reduceAdd, Int.reduceSub, Int.reduceMul, Int.reduceNeg, ite_true, ite_false, dite_true, xc10, xc11, xc12, xc13, xc14, hr, hb] | simp (maxSteps := 1000000) (disch := omega) only [exE, Int.toNat_natCast, Int.reduceToNat])
  · have h1 : ¬ n < 1 := by omega
    repeat (first | simp only [zlu, zd5, zgu, Nat.reduceBEq, reduceIte, Nat.reduceEqDiff, reduceCtorEq, ne_eq, if_true, if_false, exA, exA, tabs, exB, exD, Zl, Zp, Ze, Zi, Zn, AV.isAggV, AV.parts, AV.one, AV.solid, Zf, Zb, Zj, Zc, Zk, Zh, Zg, bndA, lenA, Zd, rowOf, Za, intsOf, Zo, Nat.reduceAdd, Nat.reduceSub, Nat.reduceMul, Nat.reduceLeDiff, Nat.reduceLT, Nat.reduceGT, Int.reduceToNat, Int.reduceLE, Int.reduceLT, Int.reduceEq, Int.reduceNe, Int.reduceAdd, Int.reduceSub, Int.reduceMul, Int.reduceNeg, ite_true, ite_false, dite_true, xc10, xc11, xc12, xc13, xc14, hr, hb, h1] | simp (maxSteps := 1000000) (disch := omega) only [exE, Int.toNat_natCast, Int.reduceToNat])
theorem zvf (n : Nat) (b : List Int) (hn : 1 ≤ n ∧ n ≤ 64) (hb : b.length ≤ 274877906944) :
    Zs Try.prog 32 [.v (.int .i64 n), .roI .u8 b] [] fun v h' => ∃ c, v = .tup [.sl 0 0 1 0 n c, .v (.int .i64 0)] ∧ h' = [some [.arr n .u8 (Qm n (le4 n ++ b))]] := by
  refine Zs.weak (C := c14 0) rfl (κ := fun v h' => ∃ c x y, v = .tup [.sl 2 0 1 0 n c, .v (.int .i64 0)] ∧ h' = [x, y, some [.arr n .u8 (Qm n (le4 n ++ b))]]) ?_ ?_
  · have hL : Qm n (le4 n ++ b) = Qd n [] (le4 n ++ b) := by unfold Qm; rw [if_pos hn.2]
    have h4 : (le4 n).length = 4 := rfl
    have ht4 : (le4 n).take 4 = le4 n := rfl
    have htb : List.take (4 + b.length) (le4 n ++ b) = le4 n ++ b := List.take_of_length_le (by simp [h4])
    rw [hL]
    refine Zq (zqb 0) Try.func32 rfl ⟨by kernel_rfl, by show 2 ≤ _; decide, by kernel_rfl, by kernel_rfl⟩ rfl ?_; have hr : Try.f32.results.toList = [.tmp 4, .tmp 5] := rfl
    repeat (first | simp only [zlu, zd5, zgu, Nat.reduceBEq, reduceIte, Nat.reduceEqDiff, reduceCtorEq, ne_eq, if_true, if_false, exA, exA, tabs, exB, exD, Zl, Zp, Ze, Zi, Zn, AV.isAggV, AV.parts, AV.one, AV.solid, Zf, Zb, Zj, Zc, Zk, Zh, Zg, bndA, lenA, Zd, rowOf, Za, intsOf, Zo, Nat.reduceAdd, Nat.reduceSub, Nat.reduceMul, Nat.reduceLeDiff, Nat.reduceLT, Nat.reduceGT, Int.reduceToNat, Int.reduceLE, Int.reduceLT, Int.reduceEq, Int.reduceNe, Int.reduceAdd, Int.reduceSub, Int.reduceMul, Int.reduceNeg, ite_true, ite_false, dite_true, xc10, xc11, xc12, xc13, xc14, hr, h4, ht4, htb] | simp (maxSteps := 1000000) (disch := omega) only [exE, Int.toNat_natCast, Int.reduceToNat])
    repeat (with_reducible refine And.intro (by first | omega | assumption) ?_)
    intro c0 _
    repeat (first | simp only [zlu, zd5, zgu, Nat.reduceBEq, reduceIte, Nat.reduceEqDiff, reduceCtorEq, ne_eq, if_true, if_false, exA, exA, tabs, exB, exD, Zl, Zp, Ze, Zi, Zn, AV.isAggV, AV.parts, AV.one, AV.solid, Zf, Zb, Zj, Zc, Zk, Zh, Zg, bndA, lenA, Zd, rowOf, Za, intsOf, Zo, Nat.reduceAdd, Nat.reduceSub, Nat.reduceMul, Nat.reduceLeDiff, Nat.reduceLT, Nat.reduceGT, Int.reduceToNat, Int.reduceLE, Int.reduceLT, Int.reduceEq, Int.reduceNe, Int.reduceAdd, Int.reduceSub, Int.reduceMul, Int.reduceNeg, ite_true, ite_false, dite_true, xc10, xc11, xc12, xc13, xc14, hr, h4, ht4, htb] | simp (maxSteps := 1000000) (disch := omega) only [exE, Int.toNat_natCast, Int.reduceToNat])
    repeat (with_reducible refine And.intro (by first | omega | assumption) ?_)
    intro c1 _
    exact ⟨_, _, _, rfl, rfl⟩
  · rintro v h' ⟨c, x, y, rfl, rfl⟩
    exact ⟨_, _, Z2 [2] (by decide) (by simp) (by rfl) rfl ⟨rfl, trivial⟩, _, rfl, rfl⟩
end Go.Proofs.Ytfnfmbikooeiaaa
namespace Go.Proofs.Ytfnfmbikooeiaaa
open Go.Ax
theorem z2r (n : Nat) (b : List Int) (hn : 64 < n ∧ n ≤ 65536) (hb : b.length ≤ 274877906944) :
    Zs Try.prog 32 [.v (.int .i64 n), .roI .u8 b] [] fun v h' => ∃ c, v = .tup [.sl 0 0 1 0 n c, .v (.int .i64 0)] ∧ h' = [some [.arr n .u8 (Qm n (le4 n ++ b))]] := by
  refine Zs.weak (C := c14 0) rfl (κ := fun v h' => ∃ c x y z, v = .tup [.sl 3 0 1 0 n c, .v (.int .i64 0)] ∧ h' = [x, y, z, some [.arr n .u8 (Qm n (le4 n ++ b))]]) ?_ ?_
  · have h64 : ¬ n ≤ 64 := by omega
    have h4 : (le4 n).length = 4 := rfl
    have ht4 : (le4 n).take 4 = le4 n := rfl
    have hR : (n + 31) / 32 - 2 = (n - 33) / 32 := by omega
    refine Zq (zqb 0) Try.func32 rfl ⟨by kernel_rfl, by show 2 ≤ _; decide, by kernel_rfl, by kernel_rfl⟩ rfl ?_; have hr : Try.f32.results.toList = [.tmp 4, .tmp 5] := rfl
    repeat (first | simp only [zlu, zd5, zgu, Nat.reduceBEq, reduceIte, Nat.reduceEqDiff, reduceCtorEq, ne_eq, if_true, if_false, exA, exA, tabs, exB, exD, Zl, Zp, Ze, Zi, Zn, AV.isAggV, AV.parts, AV.one, AV.solid, Zf, Zb, Zj, Zc, Zk, Zh, Zg, bndA, lenA, Zd, rowOf, Za, intsOf, Zo, Nat.reduceAdd, Nat.reduceSub, Nat.reduceMul, Nat.reduceLeDiff, Nat.reduceLT, Nat.reduceGT, Int.reduceToNat, Int.reduceLE, Int.reduceLT, Int.reduceEq, Int.reduceNe, Int.reduceAdd, Int.reduceSub, Int.reduceMul, Int.reduceNeg, ite_true, ite_false, dite_true, xc10, xc11, xc12, xc13, xc14, hr, h4, ht4, hR] | simp (maxSteps := 1000000) (disch := omega) only [exE, Int.toNat_natCast, Int.reduceToNat])
    repeat (with_reducible refine And.intro (by first | omega | assumption) ?_)
    intro c0 _
    repeat (first | simp only [zlu, zd5, zgu, Nat.reduceBEq, reduceIte, Nat.reduceEqDiff, reduceCtorEq, ne_eq, if_true, if_false, exA, exA, tabs, exB, exD, Zl, Zp, Ze, Zi, Zn, AV.isAggV, AV.parts, AV.one, AV.solid, Zf, Zb, Zj, Zc, Zk, Zh, Zg, bndA, lenA, Zd, rowOf, Za, intsOf, Zo, Nat.reduceAdd, Nat.reduceSub, Nat.reduceMul, Nat.reduceLeDiff, Nat.reduceLT, Nat.reduceGT, Int.reduceToNat, Int.reduceLE, Int.reduceLT, Int.reduceEq, Int.reduceNe, Int.reduceAdd, Int.reduceSub, Int.reduceMul, Int.reduceNeg, ite_true, ite_false, dite_true, xc10, xc11, xc12, xc13, xc14, hr, h4, ht4, hR] | simp (maxSteps := 1000000) (disch := omega) only [exE, Int.toNat_natCast, Int.reduceToNat])
    repeat (with_reducible refine And.intro (by first | omega | assumption) ?_)
    refine Jy (zqb 0) (α := Nat × Nat) (fun i c => ⟨envL [(0, .v (.int .i64 n)), (7, .v (.int .i64 ((n - 33) / 32 : Nat))), (8, .sl 0 0 1 0 (32 * i) c.1), (9, .sl 1 0 1 0 (b64 (le4 n ++ b) i).length c.2), (10, .v (.int .i64 i))],
      [some [.arr (32 * i) .u8 (zb8 (le4 n ++ b) i)], some [.arr (b64 (le4 n ++ b) i).length .u8 (b64 (le4 n ++ b) i)]]⟩) ((n - 33) / 32) (by kernel_rfl) ⟨(0, c0), ?_⟩ ?_ ?_
    · refine Weak.trans (zbs 8 .u8 rfl (fun j => get_put _ _ _ _)) ?_
      have e0 : (b64 (le4 n ++ b) 0).length = 4 + b.length := by simp [b64, h4]
      rw [e0]
      (refine Z2 [2, 1] (by decide) (by simp) (by rfl) ?_ ?_; (focus (first | with_reducible rfl | (simp only [List.map_cons, List.map_nil, List.cons_append, List.nil_append, List.getElem?_cons_zero, List.getElem?_cons_succ, renB, renL, Option.map_some, Option.map_none, AV.ren, Z4, List.getD_cons_zero, List.getD_cons_succ, b64, zb8, Nat.mul_zero] <;> with_reducible rfl))); simp only [exF, List.map_cons, List.map_nil, List.length_cons, List.length_nil, Nat.reduceAdd, AV.ren, renL, Z4, Nat.reduceEqDiff, if_true, if_false, reduceIte, Option.some.injEq, reduceCtorEq, Int.cast_ofNat_Int, b64, zb8, Nat.mul_zero])
    · rintro i ⟨c1, c2⟩ hi
      have hbl : (b64 (le4 n ++ b) i).length ≤ 549755813888 := by cases i <;> simp [b64, Qh, h4] <;> omega
      have hol := zc3 (le4 n ++ b) i
      have hot : (zb8 (le4 n ++ b) i).take (32 * i) = zb8 (le4 n ++ b) i := List.take_of_length_le (by omega)
      have hmin : min 32 64 = 32 := rfl
      repeat (first | simp only [zlu, zd5, zgu, Nat.reduceBEq, reduceIte, Nat.reduceEqDiff, reduceCtorEq, ne_eq, if_true, if_false, exA, exA, tabs, exB, exD, Zl, Zp, Ze, Zi, Zn, AV.isAggV, AV.parts, AV.one, AV.solid, Zf, Zb, Zj, Zc, Zk, Zh, Zg, bndA, lenA, Zd, rowOf, Za, intsOf, Zo, Nat.reduceAdd, Nat.reduceSub, Nat.reduceMul, Nat.reduceLeDiff, Nat.reduceLT, Nat.reduceGT, Int.reduceToNat, Int.reduceLE, Int.reduceLT, Int.reduceEq, Int.reduceNe, Int.reduceAdd, Int.reduceSub, Int.reduceMul, Int.reduceNeg, ite_true, ite_false, dite_true, xc10, xc11, xc12, xc13, xc14, hr, hol, hot, hmin] | simp (maxSteps := 1000000) (disch := omega) only [exE, Int.toNat_natCast, Int.reduceToNat])
      repeat (with_reducible refine And.intro (by first | omega | assumption) ?_)
      intro c3 hc3
      refine ⟨by omega, ?_⟩
      intro c4 _
      refine ⟨(c4, c3), ?_⟩
      have e1 : (b64 (le4 n ++ b) (i + 1)).length = 64 := by simp [b64, Qh]
      rw [e1, show 32 * (i + 1) = 32 * i + 32 by omega]
      (refine Z2 [3, 2] (by decide) (by simp) (by rfl) ?_ ?_; (focus (first | with_reducible rfl | (simp only [List.map_cons, List.map_nil, List.cons_append, List.nil_append, List.getElem?_cons_zero, List.getElem?_cons_succ, renB, renL, Option.map_some, Option.map_none, AV.ren, Z4, List.getD_cons_zero, List.getD_cons_succ, b64, zb8] <;> with_reducible rfl))); simp only [exF, List.map_cons, List.map_nil, List.length_cons, List.length_nil, Nat.reduceAdd, AV.ren, renL, Z4, Nat.reduceEqDiff, if_true, if_false, reduceIte, Option.some.injEq, reduceCtorEq, Int.cast_ofNat_Int, b64, zb8])
    · rintro ⟨c1, c2⟩
      have hbl : (b64 (le4 n ++ b) ((n - 33) / 32)).length ≤ 549755813888 := by
        generalize (n - 33) / 32 = i
        cases i <;> simp [b64, Qh, h4] <;> omega
      have hol := zc3 (le4 n ++ b) ((n - 33) / 32)
      have hot : (zb8 (le4 n ++ b) ((n - 33) / 32)).take (32 * ((n - 33) / 32)) = zb8 (le4 n ++ b) ((n - 33) / 32) := List.take_of_length_le (by omega)
      have eN : 32 * ((n - 33) / 32) + (n - 32 * ((n - 33) / 32)) = n := by omega
      have eL : Qm n (le4 n ++ b) = zb8 (le4 n ++ b) ((n - 33) / 32) ++ Qd (n - 32 * ((n - 33) / 32)) [] (b64 (le4 n ++ b) ((n - 33) / 32)) := by
        unfold Qm
        rw [if_neg h64]
      repeat (first | simp only [zlu, zd5, zgu, Nat.reduceBEq, reduceIte, Nat.reduceEqDiff, reduceCtorEq, ne_eq, if_true, if_false, exA, exA, tabs, exB, exD, Zl, Zp, Ze, Zi, Zn, AV.isAggV, AV.parts, AV.one, AV.solid, Zf, Zb, Zj, Zc, Zk, Zh, Zg, bndA, lenA, Zd, rowOf, Za, intsOf, Zo, Nat.reduceAdd, Nat.reduceSub, Nat.reduceMul, Nat.reduceLeDiff, Nat.reduceLT, Nat.reduceGT, Int.reduceToNat, Int.reduceLE, Int.reduceLT, Int.reduceEq, Int.reduceNe, Int.reduceAdd, Int.reduceSub, Int.reduceMul, Int.reduceNeg, ite_true, ite_false, dite_true, xc10, xc11, xc12, xc13, xc14, hr, hol, hot] | simp (maxSteps := 1000000) (disch := omega) only [exE, Int.toNat_natCast, Int.reduceToNat])
      repeat (with_reducible refine And.intro (by first | omega | assumption) ?_)
      intro c3 hc3
      repeat (first | simp only [zlu, zd5, zgu, Nat.reduceBEq, reduceIte, Nat.reduceEqDiff, reduceCtorEq, ne_eq, if_true, if_false, exA, exA, tabs, exB, exD, Zl, Zp, Ze, Zi, Zn, AV.isAggV, AV.parts, AV.one, AV.solid, Zf, Zb, Zj, Zc, Zk, Zh, Zg, bndA, lenA, Zd, rowOf, Za, intsOf, Zo, Nat.reduceAdd, Nat.reduceSub, Nat.reduceMul, Nat.reduceLeDiff, Nat.reduceLT, Nat.reduceGT, Int.reduceToNat, Int.reduceLE, Int.reduceLT, Int.reduceEq, Int.reduceNe, Int.reduceAdd, Int.reduceSub, Int.reduceMul, Int.reduceNeg, ite_true, ite_false, dite_true, xc10, xc11, xc12, xc13, xc14, hr, hol, hot] | simp (maxSteps := 1000000) (disch := omega) only [exE, Int.toNat_natCast, Int.reduceToNat])
      repeat (with_reducible refine And.intro (by first | omega | assumption) ?_)
      intro c4 _
      rw [eN, eL]
      exact ⟨_, _, _, _, rfl, rfl⟩
  · rintro v h' ⟨c, x, y, z, rfl, rfl⟩
    exact ⟨_, _, Z2 [3] (by decide) (by simp) (by rfl) rfl ⟨rfl, trivial⟩, _, rfl, rfl⟩
end Go.Proofs.Ytfnfmbikooeiaaa
namespace Go.Proofs.Ytfnfmbikooeiaaa
open Go.Ax
def N32 (h : List Blk) : List AV → Option Out
  | [.v (.int .i64 n), m] => (u8Of h m).bind fun b => osel (decide (n < 1 ∨ 65536 < n)) (some (.one (.tup [.v (.slice none 0 0), .v (.int .i64 1)]) h))
      (Zu (b.length ≤ 274877906944) (some (.cap 0 fun c => (.tup [.sl h.length 0 1 0 n.toNat c, .v (.int .i64 0)], h ++ [some [.arr n.toNat .u8 (Qm n.toNat (le4 n ++ b))]]))))
  | _ => none
theorem ym9 (h : List Blk) (n : Int) (m : AV) : N32 h [.v (.int .i64 n), m] = (u8Of h m).bind fun b => osel (decide (n < 1 ∨ 65536 < n)) (some (.one (.tup [.v (.slice none 0 0), .v (.int .i64 1)]) h))
      (Zu (b.length ≤ 274877906944) (some (.cap 0 fun c => (.tup [.sl h.length 0 1 0 n.toNat c, .v (.int .i64 0)], h ++ [some [.arr n.toNat .u8 (Qm n.toNat (le4 n ++ b))]])))) := rfl
noncomputable def n10 : FuncId → Option (List Blk → List AV → Option Out) := Qz n9 32 N32
noncomputable def c15 (k : Nat) : Cfg := ⟨Try.prog, k, p9, [], n10, none, []⟩
theorem Y5 (k : Nat) : (c15 k).odd = [] := rfl
theorem Qr (k : Nat) : (c15 k).ro = [] := rfl
theorem Jm (k : Nat) : (c15 k).P = Try.prog := rfl
theorem ymk (k : Nat) : (c15 k).pure = p9 := rfl
theorem yml (k : Nat) : (c15 k).news = n10 := rfl
theorem xc15 :
  (type_of% @Go.Proofs.Ytfnfmbikooeiaaa.ymk) ∧
  (type_of% @Go.Proofs.Ytfnfmbikooeiaaa.yml) ∧
  (type_of% @Go.Proofs.Ytfnfmbikooeiaaa.n10.eq_1) ∧
  (type_of% @Go.Proofs.Ytfnfmbikooeiaaa.ym9) :=
  ⟨@Go.Proofs.Ytfnfmbikooeiaaa.ymk, @Go.Proofs.Ytfnfmbikooeiaaa.yml, @Go.Proofs.Ytfnfmbikooeiaaa.n10.eq_1, @Go.Proofs.Ytfnfmbikooeiaaa.ym9⟩
theorem J5 (k : Nat) : (c15 k).Good := by
  refine Cfg.Good.addN (zqb k) ?_ k
  intro h args out hN
  unfold N32 at hN
  split at hN
  · rename_i n m
    obtain ⟨b, hm, hN⟩ := Option.bind_eq_some_iff.1 hN
    by_cases hb : n < 1 ∨ 65536 < n
    · rw [zcj (decide_eq_true hb)] at hN
      cases hN
      refine ⟨⟨[], by simp⟩, fun κ hκ => Ql (args := [.v (.int .i64 n), m]) (z2s n b hb) (by rintro _ _ ⟨rfl, rfl⟩; exact ⟨rfl, rfl⟩) (fun g => rfl) ⟨Frz.same _, Qv hm, trivial⟩ ?_ hκ⟩
      rintro _ _ ⟨rfl, rfl⟩
      exact ⟨rfl, by simp⟩
    · rw [zck (decide_eq_false hb)] at hN
      obtain ⟨h2, hN⟩ := Zt hN
      cases hN
      obtain ⟨n, rfl⟩ := Int.eq_ofNat_of_zero_le (show 0 ≤ n by omega)
      refine ⟨fun c _ => ⟨_, rfl⟩, fun κ hκ => Ql (args := [.v (.int .i64 n), m]) (args0 := [.v (.int .i64 n), .roI .u8 b]) (R := fun v h' => ∃ c, v = .tup [.sl 0 0 1 0 n c, .v (.int .i64 0)] ∧ h' = [some [.arr n .u8 (Qm n (le4 n ++ b))]]) ?_ (by rintro _ _ ⟨c, rfl, rfl⟩; exact ⟨rfl, rfl⟩) (fun g => rfl) ⟨Frz.same _, Qv hm, trivial⟩ ?_ hκ⟩
      · by_cases h0 : n ≤ 64
        · exact zvf n b (by omega) h2
        · exact z2r n b (by omega) h2
      · rintro _ _ ⟨c, rfl, rfl⟩
        exact ⟨c, Nat.zero_le _, rfl⟩
  · cases hN
end Go.Proofs.Ytfnfmbikooeiaaa
namespace Go.Proofs.Ytfnfmbikooeiaaa
open Go.Ax
theorem zow (v : List Int) : (zce v).length = v.length := by simp only [zce, zmf]
def F42 : List AV → Option AV
  | [.arr 16 .u64 v] => Zu (v.length = 16) (some (.arr 16 .u64 (allK v (fun j => j) 8)))
  | _ => none
theorem yno (v : List Int) : F42 [.arr 16 .u64 v] = Zu (v.length = 16) (some (.arr 16 .u64 (allK v (fun j => j) 8))) := rfl
def F43 : List AV → Option AV
  | [.arr 16 .u64 v] => Zu (v.length = 16) (some (.arr 16 .u64 (zce v)))
  | _ => none
theorem ynn (v : List Int) : F43 [.arr 16 .u64 v] = Zu (v.length = 16) (some (.arr 16 .u64 (zce v))) := rfl
noncomputable def p10 : FuncId → Option (List AV → Option AV) := Qb (Qb p9 42 F42) 43 F43
noncomputable def c16 (k : Nat) : Cfg := ⟨Try.prog, k, p10, [], n10, none, []⟩
theorem J1 (k : Nat) : (c16 k).odd = [] := rfl
theorem zba (k : Nat) : (c16 k).ro = [] := rfl
theorem zdp (k : Nat) : (c16 k).P = Try.prog := rfl
theorem ymi (k : Nat) : (c16 k).pure = p10 := rfl
theorem ymj (k : Nat) : (c16 k).news = n10 := rfl
theorem xc16 :
  (type_of% @Go.Proofs.Ytfnfmbikooeiaaa.ymi) ∧
  (type_of% @Go.Proofs.Ytfnfmbikooeiaaa.ymj) ∧
  (type_of% @Go.Proofs.Ytfnfmbikooeiaaa.p10.eq_1) ∧
  (type_of% @Go.Proofs.Ytfnfmbikooeiaaa.yno) ∧
  (type_of% @Go.Proofs.Ytfnfmbikooeiaaa.ynn) :=
  ⟨@Go.Proofs.Ytfnfmbikooeiaaa.ymi, @Go.Proofs.Ytfnfmbikooeiaaa.ymj, @Go.Proofs.Ytfnfmbikooeiaaa.p10.eq_1, @Go.Proofs.Ytfnfmbikooeiaaa.yno, @Go.Proofs.Ytfnfmbikooeiaaa.ynn⟩
theorem zfi (k : Nat) : (c16 k).Good := by
  refine Cfg.Good.add (Cfg.Good.add (J5 k) ?_ k) ?_ k
  · intro args v hF h κ hκ
    unfold F42 at hF
    split at hF
    · obtain ⟨h1, hF⟩ := Zt hF
      cases hF
      exact Yn (z3w _ h1) (fun g => rfl) (fun g => rfl) h κ hκ
    · cases hF
  · intro args v hF h κ hκ
    unfold F43 at hF
    split at hF
    · obtain ⟨h1, hF⟩ := Zt hF
      cases hF
      exact Yn (zya _ h1) (fun g => rfl) (fun g => rfl) h κ hκ
    · cases hF
end Go.Proofs.Ytfnfmbikooeiaaa
namespace Go.Proofs.Ytfnfmbikooeiaaa
open Go.Ax
def zgx (p : List Int) (j : Nat) (c : Int) (k : Nat) : List Int := p.set j (orU (p.getD j 0) (shl .u64 (IntKind.u64.wrap c) ((8 * k : Nat) : Int)))
theorem zra (p : List Int) (j : Nat) (c : Int) (k : Nat) : (zgx p j c k).length = p.length := by simp [zgx]
def Qw (b : List Int) : Nat → List Int
  | 0 => List.replicate 128 0
  | i + 1 => zgx (Qw b i) (i / 8) (b.getD i 0) (i % 8)
theorem Jg (b : List Int) : ∀ i, (Qw b i).length = 128
  | 0 => by simp [Qw]
  | i + 1 => by simp only [Qw, zra]; exact Jg b i
theorem zdx {l : List Int} (h : l.length = 128) : l.take 128 = l := List.take_of_length_le (by omega)
theorem z2l (b : List Int) (hb : b.length ≠ 1024) :
    Zs Try.prog 38 [.roI .u8 b] [] fun v _ => v = .tup [.arr 128 .u64 (List.replicate 128 0), .v (.int .i64 1)] := by
  have h1 : ((b.length : Int) != 1024) = true := by simp; omega
  refine Zq (J5 0) Try.func38 rfl ⟨by kernel_rfl, by show 1 ≤ _; decide, by kernel_rfl, by kernel_rfl⟩ rfl ?_; have hr : Try.f38.results.toList = [.cell 2 53, .tmp 3] := rfl
  repeat (first | simp only [Jm, Y5, Qr, Nat.reduceBEq, reduceIte, Nat.reduceEqDiff, reduceCtorEq, ne_eq, if_true, if_false, exA, exA, tabs, exB, exD, Zl, Zp, Ze, Zi, Zn, AV.isAggV, AV.parts, AV.one, AV.solid, Zf, Zb, Zj, Zc, Zk, Zh, Zg, bndA, lenA, Zd, rowOf, Za, intsOf, Zo, Nat.reduceAdd, Nat.reduceSub, Nat.reduceMul, Nat.reduceLeDiff, Nat.reduceLT, Nat.reduceGT, Int.reduceToNat, Int.reduceLE, Int.reduceLT, Int.reduceEq, Int.reduceNe, Int.reduceAdd, Int.reduceSub, Int.reduceMul, Int.reduceNeg, ite_true, ite_false, dite_true, xc10, xc11, xc12, xc13, xc14, xc15, Zm, hr, h1] | simp (maxSteps := 1000000) (disch := omega) only [exE, Int.toNat_natCast, Int.reduceToNat])
  rfl
theorem zx7 (b : List Int) (hb : b.length = 1024) :
    Zs Try.prog 38 [.roI .u8 b] [] fun v _ => v = .tup [.arr 128 .u64 (Qw b 1024), .v (.int .i64 0)] := by
  have na : ∀ n : Nat, (0 : Int) ≤ n := fun n => Int.natCast_nonneg n
  refine Zq (J5 0) Try.func38 rfl ⟨by kernel_rfl, by show 1 ≤ _; decide, by kernel_rfl, by kernel_rfl⟩ rfl ?_; have hr : Try.f38.results.toList = [.cell 2 53, .tmp 3] := rfl
  repeat (first | simp only [Jm, Y5, Qr, Nat.reduceBEq, reduceIte, Nat.reduceEqDiff, reduceCtorEq, ne_eq, if_true, if_false, exA, exA, tabs, exB, exD, Zl, Zp, Ze, Zi, Zn, AV.isAggV, AV.parts, AV.one, AV.solid, Zf, Zb, Zj, Zc, Zk, Zh, Zg, bndA, lenA, Zd, rowOf, Za, intsOf, Zo, Nat.reduceAdd, Nat.reduceSub, Nat.reduceMul, Nat.reduceLeDiff, Nat.reduceLT, Nat.reduceGT, Int.reduceToNat, Int.reduceLE, Int.reduceLT, Int.reduceEq, Int.reduceNe, Int.reduceAdd, Int.reduceSub, Int.reduceMul, Int.reduceNeg, ite_true, ite_false, dite_true, xc10, xc11, xc12, xc13, xc14, xc15, Zm, hr, hb] | simp (maxSteps := 1000000) (disch := omega) only [exE, Int.toNat_natCast, Int.reduceToNat])
  refine Z3 (J5 0) (fun i => ⟨envL [(0, .roI .u8 b), (2, .ptr 0 0 0), (4, .ptr 1 0 0), (5, .v (.int .i64 i))], [some [.arr 128 .u64 (List.replicate 128 0)], some [.arr 128 .u64 (Qw b i)]]⟩) 1024 (by kernel_rfl) ?_ ?_ ?_
  · (refine Z1 ?_ ?_; (focus (first | with_reducible rfl | (simp only [Qw] <;> with_reducible rfl))); simp only [exF, Nat.reduceEqDiff, if_true, if_false, reduceIte, Option.some.injEq, reduceCtorEq, Int.cast_ofNat_Int, Qw])
  · intro i hi
    repeat (first | simp only [Jm, Y5, Qr, Nat.reduceBEq, reduceIte, Nat.reduceEqDiff, reduceCtorEq, ne_eq, if_true, if_false, exA, exA, tabs, exB, exD, Zl, Zp, Ze, Zi, Zn, AV.isAggV, AV.parts, AV.one, AV.solid, Zf, Zb, Zj, Zc, Zk, Zh, Zg, bndA, lenA, Zd, rowOf, Za, intsOf, Zo, Nat.reduceAdd, Nat.reduceSub, Nat.reduceMul, Nat.reduceLeDiff, Nat.reduceLT, Nat.reduceGT, Int.reduceToNat, Int.reduceLE, Int.reduceLT, Int.reduceEq, Int.reduceNe, Int.reduceAdd, Int.reduceSub, Int.reduceMul, Int.reduceNeg, ite_true, ite_false, dite_true, xc10, xc11, xc12, xc13, xc14, xc15, Zm, hr, hb, na] | simp (maxSteps := 1000000) (disch := omega) only [exE, Int.toNat_natCast, Int.reduceToNat])
    repeat (with_reducible refine And.intro (by first | omega | assumption) ?_)
    (refine Z1 ?_ ?_; (focus (first | with_reducible rfl | (simp only [Qw, zgx] <;> with_reducible rfl))); simp only [exF, Nat.reduceEqDiff, if_true, if_false, reduceIte, Option.some.injEq, reduceCtorEq, Int.cast_ofNat_Int, Qw, zgx])
  · repeat (first | simp only [Jm, Y5, Qr, Nat.reduceBEq, reduceIte, Nat.reduceEqDiff, reduceCtorEq, ne_eq, if_true, if_false, exA, exA, tabs, exB, exD, Zl, Zp, Ze, Zi, Zn, AV.isAggV, AV.parts, AV.one, AV.solid, Zf, Zb, Zj, Zc, Zk, Zh, Zg, bndA, lenA, Zd, rowOf, Za, intsOf, Zo, Nat.reduceAdd, Nat.reduceSub, Nat.reduceMul, Nat.reduceLeDiff, Nat.reduceLT, Nat.reduceGT, Int.reduceToNat, Int.reduceLE, Int.reduceLT, Int.reduceEq, Int.reduceNe, Int.reduceAdd, Int.reduceSub, Int.reduceMul, Int.reduceNeg, ite_true, ite_false, dite_true, xc10, xc11, xc12, xc13, xc14, xc15, Zm, hr, hb, na] | simp (maxSteps := 1000000) (disch := omega) only [exE, Int.toNat_natCast, Int.reduceToNat])
    rw [zdx (Jg b 1024), zdx (Jg b 1024)]
def byteAt (p : List Int) (i : Nat) : Int := IntKind.u8.wrap (shr .u64 (p.getD (i / 8) 0) ((8 * (i % 8) : Nat) : Int))
def Ju (p : List Int) (n : Nat) : List Int := (List.range n).map (byteAt p)
theorem zey (p : List Int) (n : Nat) : (Ju p n).length = n := by simp [Ju]
theorem zw6 (p : List Int) : Ju p 0 = [] := rfl
theorem znk (p : List Int) (n : Nat) : Ju p (n + 1) = Ju p n ++ [byteAt p n] := by unfold Ju; rw [zen]
theorem znj (p : List Int) (n : Nat) : (Ju p n).take n = Ju p n := List.take_of_length_le (by rw [zey]; omega)
theorem zvl (p : List Int) (hp : p.length = 128) :
    Zs Try.prog 39 [.arr 128 .u64 p] [] fun v h' => ∃ c, v = .sl 0 0 1 0 1024 c ∧ h' = [some [.arr 1024 .u8 (Ju p 1024)]] := by
  refine Zs.weak (C := c15 0) rfl (κ := fun v h' => ∃ c x, v = .sl 1 0 1 0 1024 c ∧ h' = [x, some [.arr 1024 .u8 (Ju p 1024)]]) ?_ ?_
  · have na : ∀ n : Nat, (0 : Int) ≤ n := fun n => Int.natCast_nonneg n
    refine Zq (J5 0) Try.func39 rfl ⟨by kernel_rfl, by show 1 ≤ _; decide, by kernel_rfl, by kernel_rfl⟩ rfl ?_; have hr : Try.f39.results.toList = [.tmp 2] := rfl
    repeat (first | simp only [Jm, Y5, Qr, Nat.reduceBEq, reduceIte, Nat.reduceEqDiff, reduceCtorEq, ne_eq, if_true, if_false, exA, exA, tabs, exB, exD, Zl, Zp, Ze, Zi, Zn, AV.isAggV, AV.parts, AV.one, AV.solid, Zf, Zb, Zj, Zc, Zk, Zh, Zg, bndA, lenA, Zd, rowOf, Za, intsOf, Zo, Nat.reduceAdd, Nat.reduceSub, Nat.reduceMul, Nat.reduceLeDiff, Nat.reduceLT, Nat.reduceGT, Int.reduceToNat, Int.reduceLE, Int.reduceLT, Int.reduceEq, Int.reduceNe, Int.reduceAdd, Int.reduceSub, Int.reduceMul, Int.reduceNeg, ite_true, ite_false, dite_true, xc10, xc11, xc12, xc13, xc14, xc15, Zm, hr] | simp (maxSteps := 1000000) (disch := omega) only [exE, Int.toNat_natCast, Int.reduceToNat])
    refine Jy (J5 0) (fun i c => ⟨envL [(1, .ptr 0 0 0), (3, .sl 1 0 1 0 i c), (4, .v (.int .i64 i))], [some [.arr 128 .u64 p], some [.arr i .u8 (Ju p i)]]⟩) 1024 (by kernel_rfl) ⟨0, ?_⟩ ?_ ?_
    · refine Weak.trans (zbs 3 .u8 rfl (fun j => get_put _ _ _ _)) ?_
      (refine Z2 [0, 1] (by decide) (by simp) (by rfl) ?_ ?_; (focus (first | with_reducible rfl | (simp only [List.map_cons, List.map_nil, List.cons_append, List.nil_append, List.getElem?_cons_zero, List.getElem?_cons_succ, renB, renL, Option.map_some, Option.map_none, AV.ren, Z4, List.getD_cons_zero, List.getD_cons_succ, zw6] <;> with_reducible rfl))); simp only [exF, List.map_cons, List.map_nil, List.length_cons, List.length_nil, Nat.reduceAdd, AV.ren, renL, Z4, Nat.reduceEqDiff, if_true, if_false, reduceIte, Option.some.injEq, reduceCtorEq, Int.cast_ofNat_Int, zw6])
    · intro i c hi
      have h1 := znj p i
      repeat (first | simp only [Jm, Y5, Qr, Nat.reduceBEq, reduceIte, Nat.reduceEqDiff, reduceCtorEq, ne_eq, if_true, if_false, exA, exA, tabs, exB, exD, Zl, Zp, Ze, Zi, Zn, AV.isAggV, AV.parts, AV.one, AV.solid, Zf, Zb, Zj, Zc, Zk, Zh, Zg, bndA, lenA, Zd, rowOf, Za, intsOf, Zo, Nat.reduceAdd, Nat.reduceSub, Nat.reduceMul, Nat.reduceLeDiff, Nat.reduceLT, Nat.reduceGT, Int.reduceToNat, Int.reduceLE, Int.reduceLT, Int.reduceEq, Int.reduceNe, Int.reduceAdd, Int.reduceSub, Int.reduceMul, Int.reduceNeg, ite_true, ite_false, dite_true, xc10, xc11, xc12, xc13, xc14, xc15, Zm, hr, na, h1] | simp (maxSteps := 1000000) (disch := omega) only [exE, Int.toNat_natCast, Int.reduceToNat])
      repeat (with_reducible refine And.intro (by first | omega | assumption) ?_)
      intro c1 _
      refine ⟨c1, ?_⟩
      rw [znk]
      (refine Z2 [0, 3] (by decide) (by simp) (by rfl) ?_ ?_; (focus (first | with_reducible rfl | (simp only [List.map_cons, List.map_nil, List.cons_append, List.nil_append, List.getElem?_cons_zero, List.getElem?_cons_succ, renB, renL, Option.map_some, Option.map_none, AV.ren, Z4, List.getD_cons_zero, List.getD_cons_succ, byteAt] <;> with_reducible rfl))); simp only [exF, List.map_cons, List.map_nil, List.length_cons, List.length_nil, Nat.reduceAdd, AV.ren, renL, Z4, Nat.reduceEqDiff, if_true, if_false, reduceIte, Option.some.injEq, reduceCtorEq, Int.cast_ofNat_Int, byteAt])
    · intro c
      repeat (first | simp only [Jm, Y5, Qr, Nat.reduceBEq, reduceIte, Nat.reduceEqDiff, reduceCtorEq, ne_eq, if_true, if_false, exA, exA, tabs, exB, exD, Zl, Zp, Ze, Zi, Zn, AV.isAggV, AV.parts, AV.one, AV.solid, Zf, Zb, Zj, Zc, Zk, Zh, Zg, bndA, lenA, Zd, rowOf, Za, intsOf, Zo, Nat.reduceAdd, Nat.reduceSub, Nat.reduceMul, Nat.reduceLeDiff, Nat.reduceLT, Nat.reduceGT, Int.reduceToNat, Int.reduceLE, Int.reduceLT, Int.reduceEq, Int.reduceNe, Int.reduceAdd, Int.reduceSub, Int.reduceMul, Int.reduceNeg, ite_true, ite_false, dite_true, xc10, xc11, xc12, xc13, xc14, xc15, Zm, hr, na] | simp (maxSteps := 1000000) (disch := omega) only [exE, Int.toNat_natCast, Int.reduceToNat])
      exact ⟨_, _, rfl, rfl⟩
  · rintro v h' ⟨c, x, rfl, rfl⟩
    exact ⟨_, _, Z2 [1] (by decide) (by simp) (by rfl) rfl ⟨rfl, trivial⟩, _, rfl, rfl⟩
end Go.Proofs.Ytfnfmbikooeiaaa
namespace Go.Proofs.Ytfnfmbikooeiaaa
open Go.Ax
def outP (p : List Int) (i : Nat) : List Int := if i = 0 then List.replicate 1024 0 else Ju p i
theorem z21 (p : List Int) (i : Nat) : (outP p i).take i = Ju p i := by
  unfold outP
  split
  · subst i; rfl
  · exact znj p i
theorem z5r (p : List Int) (i : Nat) : i ≤ (outP p i).length := by
  unfold outP
  split
  · subst i; simp
  · rw [zey]; omega
theorem z22 (p : List Int) (i : Nat) : outP p (i + 1) = Ju p i ++ [byteAt p i] := by unfold outP; rw [if_neg (by omega), znk]
theorem zwa (p : List Int) (hp : p.length = 128) :
    Zs Try.prog 36 [.arr 128 .u64 p] [] fun v h' => ∃ c, v = .sl 0 0 1 0 1024 c ∧ h' = [some [.arr 1024 .u8 (Ju p 1024)]] := by
  refine Zs.weak (C := c15 0) rfl (κ := fun v h' => ∃ c, v = .sl 0 0 1 0 1024 c ∧ h' = [some [.arr (outP p 1024).length .u8 (outP p 1024)]]) ?_ ?_
  · have na : ∀ n : Nat, (0 : Int) ≤ n := fun n => Int.natCast_nonneg n
    have hpt : p.take 128 = p := List.take_of_length_le (by omega)
    refine Zq (J5 0) Try.func36 rfl ⟨by kernel_rfl, by show 1 ≤ _; decide, by kernel_rfl, by kernel_rfl⟩ rfl ?_; have hr : Try.f36.results.toList = [.tmp 2] := rfl
    repeat (first | simp only [Jm, Y5, Qr, Nat.reduceBEq, reduceIte, Nat.reduceEqDiff, reduceCtorEq, ne_eq, if_true, if_false, exA, exA, tabs, exB, exD, Zl, Zp, Ze, Zi, Zn, AV.isAggV, AV.parts, AV.one, AV.solid, Zf, Zb, Zj, Zc, Zk, Zh, Zg, bndA, lenA, Zd, rowOf, Za, intsOf, Zo, Nat.reduceAdd, Nat.reduceSub, Nat.reduceMul, Nat.reduceLeDiff, Nat.reduceLT, Nat.reduceGT, Int.reduceToNat, Int.reduceLE, Int.reduceLT, Int.reduceEq, Int.reduceNe, Int.reduceAdd, Int.reduceSub, Int.reduceMul, Int.reduceNeg, ite_true, ite_false, dite_true, xc10, xc11, xc12, xc13, xc14, xc15, Zm, hr, hpt] | simp (maxSteps := 1000000) (disch := omega) only [exE, Int.toNat_natCast, Int.reduceToNat])
    refine Jy (J5 0) (fun j c => ⟨envL [(3, .sl 0 0 1 0 (8 * j) c), (8, .arr 128 .u64 p), (9, .v (.int .i64 j))], [some [.arr (outP p (8 * j)).length .u8 (outP p (8 * j))]]⟩) 128 (by kernel_rfl) ⟨1024, ?_⟩ ?_ ?_
    · have e0 : outP p 0 = List.replicate 1024 0 := rfl
      rw [Nat.mul_zero, e0, List.length_replicate]
      (refine Z2 [1] (by decide) (by simp) (by rfl) ?_ ?_; (focus (first | with_reducible rfl | (simp only [List.map_cons, List.map_nil, List.cons_append, List.nil_append, List.getElem?_cons_zero, List.getElem?_cons_succ, renB, renL, Option.map_some, Option.map_none, AV.ren, Z4, List.getD_cons_zero, List.getD_cons_succ, e0] <;> with_reducible rfl))); simp only [exF, List.map_cons, List.map_nil, List.length_cons, List.length_nil, Nat.reduceAdd, AV.ren, renL, Z4, Nat.reduceEqDiff, if_true, if_false, reduceIte, Option.some.injEq, reduceCtorEq, Int.cast_ofNat_Int, e0])
    · intro j c hj
      repeat (first | simp only [Jm, Y5, Qr, Nat.reduceBEq, reduceIte, Nat.reduceEqDiff, reduceCtorEq, ne_eq, if_true, if_false, exA, exA, tabs, exB, exD, Zl, Zp, Ze, Zi, Zn, AV.isAggV, AV.parts, AV.one, AV.solid, Zf, Zb, Zj, Zc, Zk, Zh, Zg, bndA, lenA, Zd, rowOf, Za, intsOf, Zo, Nat.reduceAdd, Nat.reduceSub, Nat.reduceMul, Nat.reduceLeDiff, Nat.reduceLT, Nat.reduceGT, Int.reduceToNat, Int.reduceLE, Int.reduceLT, Int.reduceEq, Int.reduceNe, Int.reduceAdd, Int.reduceSub, Int.reduceMul, Int.reduceNeg, ite_true, ite_false, dite_true, xc10, xc11, xc12, xc13, xc14, xc15, Zm, hr, na] | simp (maxSteps := 1000000) (disch := omega) only [exE, Int.toNat_natCast, Int.reduceToNat])
      repeat (with_reducible refine And.intro (by first | omega | assumption) ?_)
      refine Jy (J5 0) (fun k c => ⟨envL [(3, .sl 0 0 1 0 (8 * j + k) c), (5, .v (.int .u64 (p.getD j 0))), (8, .arr 128 .u64 p), (9, .v (.int .i64 j)), (12, .v (.int .i64 k))], [some [.arr (outP p (8 * j + k)).length .u8 (outP p (8 * j + k))]]⟩) 8 (by kernel_rfl) ⟨c, ?_⟩ ?_ ?_
      · rw [Nat.add_zero]
        (refine Z2 [0] (by decide) (by simp) (by rfl) ?_ ?_; (focus (first | with_reducible rfl | (simp only [List.map_cons, List.map_nil, List.cons_append, List.nil_append, List.getElem?_cons_zero, List.getElem?_cons_succ, renB, renL, Option.map_some, Option.map_none, AV.ren, Z4, List.getD_cons_zero, List.getD_cons_succ, Nat.add_zero] <;> with_reducible rfl))); simp only [exF, List.map_cons, List.map_nil, List.length_cons, List.length_nil, Nat.reduceAdd, AV.ren, renL, Z4, Nat.reduceEqDiff, if_true, if_false, reduceIte, Option.some.injEq, reduceCtorEq, Int.cast_ofNat_Int, Nat.add_zero])
      · intro k c1 hk
        have h1 := z21 p (8 * j + k)
        have h2 := z5r p (8 * j + k)
        repeat (first | simp only [Jm, Y5, Qr, Nat.reduceBEq, reduceIte, Nat.reduceEqDiff, reduceCtorEq, ne_eq, if_true, if_false, exA, exA, tabs, exB, exD, Zl, Zp, Ze, Zi, Zn, AV.isAggV, AV.parts, AV.one, AV.solid, Zf, Zb, Zj, Zc, Zk, Zh, Zg, bndA, lenA, Zd, rowOf, Za, intsOf, Zo, Nat.reduceAdd, Nat.reduceSub, Nat.reduceMul, Nat.reduceLeDiff, Nat.reduceLT, Nat.reduceGT, Int.reduceToNat, Int.reduceLE, Int.reduceLT, Int.reduceEq, Int.reduceNe, Int.reduceAdd, Int.reduceSub, Int.reduceMul, Int.reduceNeg, ite_true, ite_false, dite_true, xc10, xc11, xc12, xc13, xc14, xc15, Zm, hr, na, h1] | simp (maxSteps := 1000000) (disch := omega) only [exE, Int.toNat_natCast, Int.reduceToNat])
        repeat (with_reducible refine And.intro (by first | omega | assumption) ?_)
        intro c2 _
        refine ⟨c2, ?_⟩
        have h3 : outP p (8 * j + (k + 1)) = Ju p (8 * j + k) ++ [byteAt p (8 * j + k)] := z22 p (8 * j + k)
        have h4 : byteAt p (8 * j + k) = IntKind.u8.wrap (shr .u64 (p.getD j 0) ((8 * k : Nat) : Int)) := by
          unfold byteAt
          rw [show (8 * j + k) / 8 = j by omega, show (8 * j + k) % 8 = k by omega]
        have h5 : (outP p (8 * j + (k + 1))).length = 8 * j + k + 1 := by rw [h3]; simp [zey]
        rw [h5, h3, h4, show 8 * j + (k + 1) = 8 * j + k + 1 by omega]
        (refine Z2 [2] (by decide) (by simp) (by rfl) ?_ ?_; (focus (first | with_reducible rfl | (simp only [List.map_cons, List.map_nil, List.cons_append, List.nil_append, List.getElem?_cons_zero, List.getElem?_cons_succ, renB, renL, Option.map_some, Option.map_none, AV.ren, Z4, List.getD_cons_zero, List.getD_cons_succ, h3] <;> with_reducible rfl))); simp only [exF, List.map_cons, List.map_nil, List.length_cons, List.length_nil, Nat.reduceAdd, AV.ren, renL, Z4, Nat.reduceEqDiff, if_true, if_false, reduceIte, Option.some.injEq, reduceCtorEq, Int.cast_ofNat_Int, h3])
      · intro c1
        repeat (first | simp only [Jm, Y5, Qr, Nat.reduceBEq, reduceIte, Nat.reduceEqDiff, reduceCtorEq, ne_eq, if_true, if_false, exA, exA, tabs, exB, exD, Zl, Zp, Ze, Zi, Zn, AV.isAggV, AV.parts, AV.one, AV.solid, Zf, Zb, Zj, Zc, Zk, Zh, Zg, bndA, lenA, Zd, rowOf, Za, intsOf, Zo, Nat.reduceAdd, Nat.reduceSub, Nat.reduceMul, Nat.reduceLeDiff, Nat.reduceLT, Nat.reduceGT, Int.reduceToNat, Int.reduceLE, Int.reduceLT, Int.reduceEq, Int.reduceNe, Int.reduceAdd, Int.reduceSub, Int.reduceMul, Int.reduceNeg, ite_true, ite_false, dite_true, xc10, xc11, xc12, xc13, xc14, xc15, Zm, hr, na] | simp (maxSteps := 1000000) (disch := omega) only [exE, Int.toNat_natCast, Int.reduceToNat])
        refine ⟨c1, ?_⟩
        rw [show 8 * (j + 1) = 8 * j + 8 by omega]
        (refine Z2 [0] (by decide) (by simp) (by rfl) ?_ ?_; (focus (first | with_reducible rfl | (simp only [List.map_cons, List.map_nil, List.cons_append, List.nil_append, List.getElem?_cons_zero, List.getElem?_cons_succ, renB, renL, Option.map_some, Option.map_none, AV.ren, Z4, List.getD_cons_zero, List.getD_cons_succ, Nat.add_zero] <;> with_reducible rfl))); simp only [exF, List.map_cons, List.map_nil, List.length_cons, List.length_nil, Nat.reduceAdd, AV.ren, renL, Z4, Nat.reduceEqDiff, if_true, if_false, reduceIte, Option.some.injEq, reduceCtorEq, Int.cast_ofNat_Int, Nat.add_zero])
    · intro c
      repeat (first | simp only [Jm, Y5, Qr, Nat.reduceBEq, reduceIte, Nat.reduceEqDiff, reduceCtorEq, ne_eq, if_true, if_false, exA, exA, tabs, exB, exD, Zl, Zp, Ze, Zi, Zn, AV.isAggV, AV.parts, AV.one, AV.solid, Zf, Zb, Zj, Zc, Zk, Zh, Zg, bndA, lenA, Zd, rowOf, Za, intsOf, Zo, Nat.reduceAdd, Nat.reduceSub, Nat.reduceMul, Nat.reduceLeDiff, Nat.reduceLT, Nat.reduceGT, Int.reduceToNat, Int.reduceLE, Int.reduceLT, Int.reduceEq, Int.reduceNe, Int.reduceAdd, Int.reduceSub, Int.reduceMul, Int.reduceNeg, ite_true, ite_false, dite_true, xc10, xc11, xc12, xc13, xc14, xc15, Zm, hr, na] | simp (maxSteps := 1000000) (disch := omega) only [exE, Int.toNat_natCast, Int.reduceToNat])
      exact ⟨_, rfl⟩
  · rintro v h' ⟨c, rfl, rfl⟩
    refine ⟨_, _, Weak.refl _ _, c, rfl, ?_⟩
    have : outP p 1024 = Ju p 1024 := rfl
    rw [this, zey]
end Go.Proofs.Ytfnfmbikooeiaaa
namespace Go.Proofs.Ytfnfmbikooeiaaa
open Go.RowKit Go.Shelf
attribute [local go_sem] Oper.semAt_some
set_option maxRecDepth 100000 in
set_option maxHeartbeats 2000000 in
theorem z65 (b off cap bs os bn on : Nat) (J : Nat → World → Prop) (l : Nat) (hcap : 1024 ≤ cap)
    (hBs : ∀ i W, J i W → W.cell? ⟨bs, os, none⟩ = some (.slice (some ⟨b, off, none⟩) 1024 cap) ∧ W.cell? ⟨bn, on, none⟩ = some (.int .i64 8))
    (hJd : ∀ i W, J i W → J i W.drew)
    (hY : ∀ i, i < 128 → ∀ W, J i W → YieldAt Fence.wide 0 Try.prog l #[.slice (some ⟨b, off + 8 * i, none⟩) 8 8] W fun e W' => e = .returned (.bool true) ∧ J (i + 1) W')
    (W : World) (h0 : J 0 W) :
    CallsIn Fence.wide 0 Try.prog 72 #[.func (.yield l) #[] #[], .pointer (some ⟨bs, os, none⟩), .pointer (some ⟨bn, on, none⟩)] W fun e W' => (∃ v, e = .returned v) ∧ J 128 W' := by
  refine callsIn_of_wp Try.func72 rfl trivial ?_ rfl
  simp only [Try.ntmps72, List.size_toArray, List.length_cons, List.length_nil, Nat.reduceAdd, Nat.reduceSub, Array.replicate_succ, Array.replicate_zero, List.push_toArray, List.append_toArray, List.nil_append, List.cons_append]
  gi_wp2
  gi_loopw [4] (fun i wr => ∃ k : Nat, k ≤ 128 ∧ i = .int .i64 ((8 * k : Nat) : Int) ∧ J k wr)
    (fun i _ => 1024 - (intOf i).toNat)
  case atStart => exact ⟨0, by omega, rfl, h0⟩
  case round =>
    obtain ⟨k, hk, rfl, hJs⟩ := hrel
    obtain ⟨hc1, hc2⟩ := hBs k wr hJs
    by_cases hlt : k < 128
    · have hJ2 := hJd k wr hJs
      obtain ⟨fn, tmps, assign, body, hy, hR⟩ := hY k hlt wr.drew hJ2
      gi_wp2
      have hmo : Try.prog.follows .mixedOrders = true := by kernel_rfl
      gi_region
      gi_wp2
      refine ⟨rfl, hR.mono ?_⟩
      rintro e W3 ⟨rfl, hJ3⟩
      obtain ⟨hd1, hd2⟩ := hBs (k + 1) W3 hJ3
      gi_wp2
      go_roundw
      case rel => exact ⟨k + 1, by omega, by simp; omega, hJ3⟩
      case measure => simp [intOf]; omega
    · obtain rfl : k = 128 := by omega
      gi_wp2
      go_end0
      exact ⟨⟨_, rfl⟩, hJs⟩
end Go.Proofs.Ytfnfmbikooeiaaa
namespace Go.Proofs.Ytfnfmbikooeiaaa
open Go.Ax
def chunks (l : List Int) : List (List AV) := (List.range 128).map fun i => [.roI .u8 ((l.drop (8 * i)).take 8)]
theorem zc8 (l : List Int) : (chunks l).length = 128 := by simp [chunks]
theorem zix (l : List Int) (i : Nat) (h : i < 128) : (chunks l).getD i [] = [.roI .u8 ((l.drop (8 * i)).take 8)] := by
  simp [chunks, List.getD_eq_getElem?_getD, h]
theorem zzd (l : List Int) (i : Nat) (f : Nat → Nat) : renL f ((chunks l).getD i []) = (chunks l).getD i [] := by
  rcases Nat.lt_or_ge i 128 with h | h
  · rw [zix l i h]; rfl
  · rw [List.getD_eq_getElem?_getD, List.getElem?_eq_none (by rw [zc8]; exact h)]; rfl
theorem z3o (l : List Int) (hl : l.length = 1024) : SeqA Try.prog 72 [.rop (.roI .u8 l), .rop (.v (.int .i64 8))] (chunks l) := by
  refine ⟨by kernel_rfl, ?_⟩
  intro X w lb hv
  simp only [Z9, AV.relV, AV.rel, roAt] at hv
  obtain ⟨v1, _, hlb, ⟨a1, vs1, hv1, hs1, hx1, hr1, hc1⟩, v2, _, rfl, ⟨a2, vs2, hv2, hs2, hx2, hr2, hc2⟩, rfl⟩ := hv
  rcases hr1 with ⟨a, cap, rfl, hs, hx, hc, hcap⟩ | ⟨h0, _⟩
  rotate_left
  · omega
  obtain ⟨rfl, _⟩ := hr2
  have hv1 : v1 = .pointer (some a1) := by simpa using hv1
  have hv2 : v2 = .pointer (some a2) := by simpa using hv2
  subst hv1 hv2
  obtain ⟨b, off, s⟩ := a
  obtain ⟨bs, os, s1⟩ := a1
  obtain ⟨bn, on, s2⟩ := a2
  simp only at hs hs1 hs2
  subst hs hs1 hs2
  obtain rfl : lb = #[.pointer (some ⟨bs, os, none⟩), .pointer (some ⟨bn, on, none⟩)] := Array.toList_inj.1 (by rw [hlb])
  refine ⟨fun i => #[.slice (some ⟨b, off + 8 * i, none⟩) 8 8], ?_, ?_⟩
  · intro i hi
    rw [zc8] at hi
    rw [zix l i hi]
    have h1 := zo1 (ρ := []) (lo := 8 * i) (hi := 8 * i + 8) (m := 8 * i + 8) rfl hx hc (by omega) (by omega) (by omega)
    rw [if_neg (by omega), Nat.add_sub_cancel_left] at h1
    simp only [Z9]
    refine ⟨_, _, rfl, ?_, rfl⟩
    have he : (⟨b, off, none⟩ : Addr).add (8 * i * 1) = ⟨b, off + 8 * i, none⟩ := by rw [addr_add, Nat.mul_one]
    rw [he] at h1
    exact h1
  · intro lp J W hJ hJd hY h0
    rw [zc8] at hY ⊢
    rw [hl] at hc1 hcap
    refine z65 b off cap bs os bn on J lp hcap ?_ hJd hY W h0
    intro i W' hj
    have k := hJ i W' hj
    have e1 := (k.cells _ _ hc1 hx1).1.cell rfl 0 _ rfl
    have e2 := (k.cells _ _ hc2 hx2).1.cell rfl 0 _ rfl
    rw [addr_add] at e1 e2
    exact ⟨e1, e2⟩
end Go.Proofs.Ytfnfmbikooeiaaa
namespace Go.Proofs.Ytfnfmbikooeiaaa
open Go.Ax
noncomputable def c15r (k l : Nat) : Cfg := (c15 0).inRd k l
theorem zqn (k l : Nat) : (c15r k l).odd = [] := rfl
theorem zub (k l : Nat) : (c15r k l).ro = [] := rfl
theorem zzg (k l : Nat) : (c15r k l).P = Try.prog := rfl
theorem ydp (k l : Nat) : (c15r k l).pure = p9 := rfl
theorem ydq (k l : Nat) : (c15r k l).news = n10 := rfl
theorem z3y :
  (type_of% @Go.Proofs.Ytfnfmbikooeiaaa.ydp) ∧
  (type_of% @Go.Proofs.Ytfnfmbikooeiaaa.ydq) :=
  ⟨@Go.Proofs.Ytfnfmbikooeiaaa.ydp, @Go.Proofs.Ytfnfmbikooeiaaa.ydq⟩
theorem z9k (k l : Nat) : (c15r k l).Good := J5 0
theorem z9s (b : List Int) : Zs Try.prog 59 [.roI .u8 b, .v (.int .i64 8)] [] fun v h' => v = .fn (.func 72) [] [.ptr 0 0 0, .ptr 1 0 0] ∧ h' = [some [.roI .u8 b], some [.v (.int .i64 8)]] := by
  refine Zq (J5 0) Try.func59 rfl ⟨by kernel_rfl, by show 2 ≤ _; decide, by kernel_rfl, by kernel_rfl⟩ rfl ?_; have hr : Try.f59.results.toList = [.tmp 4] := rfl
  repeat (first | simp only [Jm, Y5, Qr, Nat.reduceBEq, reduceIte, Nat.reduceEqDiff, reduceCtorEq, ne_eq, if_true, if_false, exA, exA, tabs, exB, exD, Zl, Zp, Ze, Zi, Zn, AV.isAggV, AV.parts, AV.one, AV.solid, Zf, Zb, Zj, Zc, Zk, Zh, Zg, bndA, lenA, Zd, rowOf, Za, intsOf, Zo, Nat.reduceAdd, Nat.reduceSub, Nat.reduceMul, Nat.reduceLeDiff, Nat.reduceLT, Nat.reduceGT, Int.reduceToNat, Int.reduceLE, Int.reduceLT, Int.reduceEq, Int.reduceNe, Int.reduceAdd, Int.reduceSub, Int.reduceMul, Int.reduceNeg, ite_true, ite_false, dite_true, xc10, xc11, xc12, xc13, xc14, xc15, Zm, hr] | simp (maxSteps := 1000000) (disch := omega) only [exE, Int.toNat_natCast, Int.reduceToNat])
def zb6 (b p : List Int) (j : Nat) : Nat → List Int
  | 0 => p
  | k + 1 => zgx (zb6 b p j k) j (b.getD (8 * j + k) 0) k
theorem zj3 (b p : List Int) (j : Nat) : ∀ k, (zb6 b p j k).length = p.length
  | 0 => rfl
  | k + 1 => by simp only [zb6, zra]; exact zj3 b p j k
theorem zgr (b : List Int) (j : Nat) : ∀ k, k ≤ 8 → zb6 b (Qw b (8 * j)) j k = Qw b (8 * j + k)
  | 0, _ => rfl
  | k + 1, h => by
    have e1 : (8 * j + k) / 8 = j := by omega
    have e2 : (8 * j + k) % 8 = k := by omega
    have e3 : 8 * j + (k + 1) = (8 * j + k) + 1 := by omega
    rw [e3]
    simp only [zb6, Qw, e1, e2, zgr b j k (by omega)]
theorem z25 (b : List Int) (hb : b.length ≠ 1024) :
    Zs Try.prog 37 [.roI .u8 b] [] fun v _ => v = .tup [.arr 128 .u64 (List.replicate 128 0), .v (.int .i64 1)] := by
  have h1 : ((b.length : Int) != 1024) = true := by simp; omega
  refine Zq (J5 0) Try.func37 rfl ⟨by kernel_rfl, by show 1 ≤ _; decide, by kernel_rfl, by kernel_rfl⟩ rfl ?_; have hr : Try.f37.results.toList = [.cell 2 53, .tmp 3] := rfl
  repeat (first | simp only [Jm, Y5, Qr, Nat.reduceBEq, reduceIte, Nat.reduceEqDiff, reduceCtorEq, ne_eq, if_true, if_false, exA, exA, tabs, exB, exD, Zl, Zp, Ze, Zi, Zn, AV.isAggV, AV.parts, AV.one, AV.solid, Zf, Zb, Zj, Zc, Zk, Zh, Zg, bndA, lenA, Zd, rowOf, Za, intsOf, Zo, Nat.reduceAdd, Nat.reduceSub, Nat.reduceMul, Nat.reduceLeDiff, Nat.reduceLT, Nat.reduceGT, Int.reduceToNat, Int.reduceLE, Int.reduceLT, Int.reduceEq, Int.reduceNe, Int.reduceAdd, Int.reduceSub, Int.reduceMul, Int.reduceNeg, ite_true, ite_false, dite_true, xc10, xc11, xc12, xc13, xc14, xc15, Zm, hr, h1] | simp (maxSteps := 1000000) (disch := omega) only [exE, Int.toNat_natCast, Int.reduceToNat])
  rfl
theorem zyk (b : List Int) (hb : b.length = 1024) :
    Zs Try.prog 37 [.roI .u8 b] [] fun v _ => v = .tup [.arr 128 .u64 (Qw b 1024), .v (.int .i64 0)] := by
  have na : ∀ n : Nat, (0 : Int) ≤ n := fun n => Int.natCast_nonneg n
  refine Zq (J5 0) Try.func37 rfl ⟨by kernel_rfl, by show 1 ≤ _; decide, by kernel_rfl, by kernel_rfl⟩ rfl ?_; have hr : Try.f37.results.toList = [.cell 2 53, .tmp 3] := rfl
  repeat (first | simp only [Jm, Y5, Qr, Nat.reduceBEq, reduceIte, Nat.reduceEqDiff, reduceCtorEq, ne_eq, if_true, if_false, exA, exA, tabs, exB, exD, Zl, Zp, Ze, Zi, Zn, AV.isAggV, AV.parts, AV.one, AV.solid, Zf, Zb, Zj, Zc, Zk, Zh, Zg, bndA, lenA, Zd, rowOf, Za, intsOf, Zo, Nat.reduceAdd, Nat.reduceSub, Nat.reduceMul, Nat.reduceLeDiff, Nat.reduceLT, Nat.reduceGT, Int.reduceToNat, Int.reduceLE, Int.reduceLT, Int.reduceEq, Int.reduceNe, Int.reduceAdd, Int.reduceSub, Int.reduceMul, Int.reduceNeg, ite_true, ite_false, dite_true, xc10, xc11, xc12, xc13, xc14, xc15, Zm, hr, hb] | simp (maxSteps := 1000000) (disch := omega) only [exE, Int.toNat_natCast, Int.reduceToNat])
  refine zar [] (z9s b) rfl rfl (by decide) ?_
  rintro _ _ ⟨rfl, rfl⟩
  repeat (first | simp only [Jm, Y5, Qr, Nat.reduceBEq, reduceIte, Nat.reduceEqDiff, reduceCtorEq, ne_eq, if_true, if_false, exA, exA, tabs, exB, exD, Zl, Zp, Ze, Zi, Zn, AV.isAggV, AV.parts, AV.one, AV.solid, Zf, Zb, Zj, Zc, Zk, Zh, Zg, bndA, lenA, Zd, rowOf, Za, intsOf, Zo, Nat.reduceAdd, Nat.reduceSub, Nat.reduceMul, Nat.reduceLeDiff, Nat.reduceLT, Nat.reduceGT, Int.reduceToNat, Int.reduceLE, Int.reduceLT, Int.reduceEq, Int.reduceNe, Int.reduceAdd, Int.reduceSub, Int.reduceMul, Int.reduceNeg, ite_true, ite_false, dite_true, xc10, xc11, xc12, xc13, xc14, xc15, Zm, hr, hb, Ya, renB, renL, AV.ren, Yb] | simp (maxSteps := 1000000) (disch := omega) only [exE, Int.toNat_natCast, Int.reduceToNat])
  refine z2u (J5 0) [3, 4] (fun i => [some [.arr 128 .u64 (List.replicate 128 0)], some [.arr 128 .u64 (Qw b (8 * i))], some [.v (.int .i64 i)], none, none])
    (z3o b hb) rfl ?_ ?_ ?_ (fun f => rfl) (zzd b) ?_ rfl ⟨by kernel_rfl, by kernel_rfl⟩ ?_ ?_
  · intro x hx
    simp only [List.mem_cons, List.not_mem_nil, or_false] at hx
    rcases hx with rfl | rfl <;> exact ⟨_, rfl⟩
  · exact ⟨Frz.ptr (by simp) rfl (fun f => rfl), Frz.ptr (by simp) rfl (fun f => rfl), trivial⟩
  · rfl
  · intro i hi
    rw [zc8] at hi
    rw [zix b i hi]; rfl
  · intro i hi l
    rw [zc8] at hi
    rw [zix b i hi]
    simp only [zpc]
    show run (c15r 5 l) _ [] _ _
    have hcl : ((b.drop (8 * i)).take 8).length = 8 := by simp; omega
    repeat (first | simp only [zzg, zqn, zub, Nat.reduceBEq, reduceIte, Nat.reduceEqDiff, reduceCtorEq, ne_eq, if_true, if_false, exA, exA, tabs, exB, exD, Zl, Zp, Ze, Zi, Zn, AV.isAggV, AV.parts, AV.one, AV.solid, Zf, Zb, Zj, Zc, Zk, Zh, Zg, bndA, lenA, Zd, rowOf, Za, intsOf, Zo, Nat.reduceAdd, Nat.reduceSub, Nat.reduceMul, Nat.reduceLeDiff, Nat.reduceLT, Nat.reduceGT, Int.reduceToNat, Int.reduceLE, Int.reduceLT, Int.reduceEq, Int.reduceNe, Int.reduceAdd, Int.reduceSub, Int.reduceMul, Int.reduceNeg, ite_true, ite_false, dite_true, xc10, xc11, xc12, xc13, xc14, xc15, z3y, Zm, hr, hcl, zpc] | simp (maxSteps := 1000000) (disch := omega) only [exE, Int.toNat_natCast, Int.reduceToNat])
    have hgc : ∀ k, k < 8 → ((b.drop (8 * i)).take 8).getD k 0 = b.getD (8 * i + k) 0 := by
      intro k hk
      simp only [List.getD_eq_getElem?_getD]
      rw [List.getElem?_take_of_lt hk, List.getElem?_drop]
    have hpl := Jg b (8 * i)
    refine Z3 (z9k 5 l) (fun k => ⟨envL [(4, .ptr 1 0 0), (5, .ptr 2 0 0), (16, .roI .u8 ((b.drop (8 * i)).take 8)), (17, .v (.int .i64 8)), (18, .v (.int .i64 k))],
      [some [.arr 128 .u64 (List.replicate 128 0)], some [.arr 128 .u64 (zb6 b (Qw b (8 * i)) i k)], some [.v (.int .i64 i)], none, none]⟩) 8 (by kernel_rfl) ?_ ?_ ?_
    · (refine Z1 ?_ ?_; (focus (first | with_reducible rfl | (simp only [zb6] <;> with_reducible rfl))); simp only [exF, Nat.reduceEqDiff, if_true, if_false, reduceIte, Option.some.injEq, reduceCtorEq, Int.cast_ofNat_Int, zb6])
    · intro k hk
      repeat (first | simp only [zzg, zqn, zub, Nat.reduceBEq, reduceIte, Nat.reduceEqDiff, reduceCtorEq, ne_eq, if_true, if_false, exA, exA, tabs, exB, exD, Zl, Zp, Ze, Zi, Zn, AV.isAggV, AV.parts, AV.one, AV.solid, Zf, Zb, Zj, Zc, Zk, Zh, Zg, bndA, lenA, Zd, rowOf, Za, intsOf, Zo, Nat.reduceAdd, Nat.reduceSub, Nat.reduceMul, Nat.reduceLeDiff, Nat.reduceLT, Nat.reduceGT, Int.reduceToNat, Int.reduceLE, Int.reduceLT, Int.reduceEq, Int.reduceNe, Int.reduceAdd, Int.reduceSub, Int.reduceMul, Int.reduceNeg, ite_true, ite_false, dite_true, xc10, xc11, xc12, xc13, xc14, xc15, z3y, Zm, hr, hcl, na, hgc k hk] | simp (maxSteps := 1000000) (disch := omega) only [exE, Int.toNat_natCast, Int.reduceToNat])
      repeat (with_reducible refine And.intro (by first | omega | assumption) ?_)
      (refine Z1 ?_ ?_; (focus (first | with_reducible rfl | (simp only [zb6, zgx, hgc k hk] <;> with_reducible rfl))); simp only [exF, Nat.reduceEqDiff, if_true, if_false, reduceIte, Option.some.injEq, reduceCtorEq, Int.cast_ofNat_Int, zb6, zgx, hgc k hk])
    · have he : zb6 b (Qw b (8 * i)) i 8 = Qw b (8 * (i + 1)) := zgr b i 8 (by omega)
      repeat (first | simp only [zzg, zqn, zub, Nat.reduceBEq, reduceIte, Nat.reduceEqDiff, reduceCtorEq, ne_eq, if_true, if_false, exA, exA, tabs, exB, exD, Zl, Zp, Ze, Zi, Zn, AV.isAggV, AV.parts, AV.one, AV.solid, Zf, Zb, Zj, Zc, Zk, Zh, Zg, bndA, lenA, Zd, rowOf, Za, intsOf, Zo, Nat.reduceAdd, Nat.reduceSub, Nat.reduceMul, Nat.reduceLeDiff, Nat.reduceLT, Nat.reduceGT, Int.reduceToNat, Int.reduceLE, Int.reduceLT, Int.reduceEq, Int.reduceNe, Int.reduceAdd, Int.reduceSub, Int.reduceMul, Int.reduceNeg, ite_true, ite_false, dite_true, xc10, xc11, xc12, xc13, xc14, xc15, z3y, Zm, hr, hcl, na, he] | simp (maxSteps := 1000000) (disch := omega) only [exE, Int.toNat_natCast, Int.reduceToNat])
      exact Z1 rfl trivial
  · rw [zc8]
    repeat (first | simp only [Jm, Y5, Qr, Nat.reduceBEq, reduceIte, Nat.reduceEqDiff, reduceCtorEq, ne_eq, if_true, if_false, exA, exA, tabs, exB, exD, Zl, Zp, Ze, Zi, Zn, AV.isAggV, AV.parts, AV.one, AV.solid, Zf, Zb, Zj, Zc, Zk, Zh, Zg, bndA, lenA, Zd, rowOf, Za, intsOf, Zo, Nat.reduceAdd, Nat.reduceSub, Nat.reduceMul, Nat.reduceLeDiff, Nat.reduceLT, Nat.reduceGT, Int.reduceToNat, Int.reduceLE, Int.reduceLT, Int.reduceEq, Int.reduceNe, Int.reduceAdd, Int.reduceSub, Int.reduceMul, Int.reduceNeg, ite_true, ite_false, dite_true, xc10, xc11, xc12, xc13, xc14, xc15, Zm, hr, hb] | simp (maxSteps := 1000000) (disch := omega) only [exE, Int.toNat_natCast, Int.reduceToNat])
    rw [zdx (Jg b _), zdx (Jg b _)]
end Go.Proofs.Ytfnfmbikooeiaaa
namespace Go.Proofs.Ytfnfmbikooeiaaa
open Go.Ax
def xorK (x y : List Int) : Nat → List Int
  | 0 => x
  | i + 1 => (xorK x y i).set i (xorU ((xorK x y i).getD i 0) (y.getD i 0))
theorem Qu (x y : List Int) : ∀ i, (xorK x y i).length = x.length
  | 0 => rfl
  | i + 1 => by simp only [xorK, List.length_set]; exact Qu x y i
def rowQ (i j : Nat) : Nat := 16 * i + j
def colQ (i j : Nat) : Nat := 16 * (j / 2) + 2 * i + j % 2
def Jx (Q : Nat → Nat → Nat) (z : List Int) : Nat → List Int
  | 0 => z
  | i + 1 => allK (Jx Q z i) (Q i) 8
theorem zat (Q : Nat → Nat → Nat) (z : List Int) : ∀ i, (Jx Q z i).length = z.length
  | 0 => rfl
  | i + 1 => by simp only [Jx, zh5]; exact zat Q z i
def zpk (r : List Int) : List Int := xorK (Jx colQ (Jx rowQ r 8) 8) r 128
def Ys (x y : List Int) : List Int := zpk (xorK x y 128)
theorem zao (x y : List Int) : (Ys x y).length = x.length := by simp only [Ys, zpk, Qu, zat]
def oldR : Nat → Nat → AV
  | 0, _ => .v (.pointer none)
  | i + 1, j => .ptr 3 0 (rowQ i j)
def oldC : Nat → Nat → AV
  | 0, j => .ptr 3 0 (rowQ 7 j)
  | i + 1, j => .ptr 3 0 (colQ i j)
theorem zv1 : ∀ i j, (oldR i j).one = true
  | 0, _ => rfl
  | i + 1, j => rfl
theorem zv2 : ∀ i j, (oldC i j).one = true
  | 0, _ => rfl
  | i + 1, j => rfl
theorem zv6 (x y : List Int) (hx : x.length = 128) (hy : y.length = 128) :
    Zs Try.prog 40 [.arr 128 .u64 x, .arr 128 .u64 y] [] fun v _ => v = .arr 128 .u64 (Ys x y) := by
  have na : ∀ n : Nat, (0 : Int) ≤ n := fun n => Int.natCast_nonneg n
  have n0 : ((0 : Nat) : Int) = 0 := rfl
  have n1 : ((1 : Nat) : Int) = 1 := rfl
  refine Zq (J5 0) Try.func40 rfl ⟨by kernel_rfl, by show 2 ≤ _; decide, by kernel_rfl, by kernel_rfl⟩ rfl ?_; have hr : Try.f40.results.toList = [.cell 4 53] := rfl
  repeat (first | simp only [Jm, Y5, Qr, Nat.reduceBEq, reduceIte, Nat.reduceEqDiff, reduceCtorEq, ne_eq, if_true, if_false, exA, exA, tabs, exB, exD, Zl, Zp, Ze, Zi, Zn, AV.isAggV, AV.parts, AV.one, AV.solid, Zf, Zb, Zj, Zc, Zk, Zh, Zg, bndA, lenA, Zd, rowOf, Za, intsOf, Zo, Nat.reduceAdd, Nat.reduceSub, Nat.reduceMul, Nat.reduceLeDiff, Nat.reduceLT, Nat.reduceGT, Int.reduceToNat, Int.reduceLE, Int.reduceLT, Int.reduceEq, Int.reduceNe, Int.reduceAdd, Int.reduceSub, Int.reduceMul, Int.reduceNeg, ite_true, ite_false, dite_true, xc10, xc11, xc12, xc13, xc14, xc15, Zm, hr] | simp (maxSteps := 1000000) (disch := omega) only [exE, Int.toNat_natCast, Int.reduceToNat])
  refine Z3 (J5 0) (fun i => ⟨envL [(2, .ptr 0 0 0), (3, .ptr 1 0 0), (4, .ptr 2 0 0), (13, .v (.int .i64 i))], [some [.arr 128 .u64 (xorK x y i)], some [.arr 128 .u64 y], some [.arr 128 .u64 (List.replicate 128 0)]]⟩) 128 (by kernel_rfl) ?_ ?_ ?_
  · (refine Z1 ?_ ?_; (focus (first | with_reducible rfl | (simp only [xorK] <;> with_reducible rfl))); simp only [exF, Nat.reduceEqDiff, if_true, if_false, reduceIte, Option.some.injEq, reduceCtorEq, Int.cast_ofNat_Int, xorK])
  · intro i hi
    repeat (first | simp only [Jm, Y5, Qr, Nat.reduceBEq, reduceIte, Nat.reduceEqDiff, reduceCtorEq, ne_eq, if_true, if_false, exA, exA, tabs, exB, exD, Zl, Zp, Ze, Zi, Zn, AV.isAggV, AV.parts, AV.one, AV.solid, Zf, Zb, Zj, Zc, Zk, Zh, Zg, bndA, lenA, Zd, rowOf, Za, intsOf, Zo, Nat.reduceAdd, Nat.reduceSub, Nat.reduceMul, Nat.reduceLeDiff, Nat.reduceLT, Nat.reduceGT, Int.reduceToNat, Int.reduceLE, Int.reduceLT, Int.reduceEq, Int.reduceNe, Int.reduceAdd, Int.reduceSub, Int.reduceMul, Int.reduceNeg, ite_true, ite_false, dite_true, xc10, xc11, xc12, xc13, xc14, xc15, Zm, hr, na] | simp (maxSteps := 1000000) (disch := omega) only [exE, Int.toNat_natCast, Int.reduceToNat])
    repeat (with_reducible refine And.intro (by first | omega | assumption) ?_)
    (refine Z1 ?_ ?_; (focus (first | with_reducible rfl | (simp only [xorK] <;> with_reducible rfl))); simp only [exF, Nat.reduceEqDiff, if_true, if_false, reduceIte, Option.some.injEq, reduceCtorEq, Int.cast_ofNat_Int, xorK])
  have h1l : (xorK x y 128).length = 128 := by rw [Qu, hx]
  have h1t : (xorK x y 128).take 128 = xorK x y 128 := zdx h1l
  repeat (first | simp only [Jm, Y5, Qr, Nat.reduceBEq, reduceIte, Nat.reduceEqDiff, reduceCtorEq, ne_eq, if_true, if_false, exA, exA, tabs, exB, exD, Zl, Zp, Ze, Zi, Zn, AV.isAggV, AV.parts, AV.one, AV.solid, Zf, Zb, Zj, Zc, Zk, Zh, Zg, bndA, lenA, Zd, rowOf, Za, intsOf, Zo, Nat.reduceAdd, Nat.reduceSub, Nat.reduceMul, Nat.reduceLeDiff, Nat.reduceLT, Nat.reduceGT, Int.reduceToNat, Int.reduceLE, Int.reduceLT, Int.reduceEq, Int.reduceNe, Int.reduceAdd, Int.reduceSub, Int.reduceMul, Int.reduceNeg, ite_true, ite_false, dite_true, xc10, xc11, xc12, xc13, xc14, xc15, Zm, hr, na, h1t] | simp (maxSteps := 1000000) (disch := omega) only [exE, Int.toNat_natCast, Int.reduceToNat])
  unfold Ys
  generalize xorK x y 128 = r at h1l h1t ⊢
  have rl : r.length = 128 := h1l
  have hset : ∀ i, ∀ k, k < 16 → J3 (atK (oldR (i + 1)) (oldR i) k) k (.ptr 3 0 (rowQ i k)) = some (atK (oldR (i + 1)) (oldR i) (k + 1)) := fun i k hk => zue (zv1 (i + 1)) (zv1 i) k hk rfl
  refine Z3 (J5 0) (fun i => ⟨envL [(2, .ptr 0 0 0), (4, .ptr 2 0 0), (6, .ptr 3 0 0), (7, .ptr 4 0 0), (26, .v (.int .i64 i))], [some [.arr 128 .u64 r], some [.arr 128 .u64 y], some [.arr 128 .u64 (List.replicate 128 0)], some [.arr 128 .u64 (Jx rowQ r i)], some (atK (oldR i) (oldR i) 0)]⟩) 8 (by kernel_rfl) ?_ ?_ ?_
  · have e : [AV.v (.pointer none), .v (.pointer none), .v (.pointer none), .v (.pointer none), .v (.pointer none), .v (.pointer none), .v (.pointer none), .v (.pointer none), .v (.pointer none), .v (.pointer none), .v (.pointer none), .v (.pointer none), .v (.pointer none), .v (.pointer none), .v (.pointer none), .v (.pointer none)] = atK (oldR 0) (oldR 0) 0 := rfl
    (refine Z1 ?_ ?_; (focus (first | with_reducible rfl | (simp only [Jx, n0, e] <;> with_reducible rfl))); simp only [exF, Nat.reduceEqDiff, if_true, if_false, reduceIte, Option.some.injEq, reduceCtorEq, Int.cast_ofNat_Int, Jx, n0, e])
  · intro i hi
    have hz := zat rowQ r i
    rw [rl] at hz
    repeat (first | simp only [Jm, Y5, Qr, Nat.reduceBEq, reduceIte, Nat.reduceEqDiff, reduceCtorEq, ne_eq, if_true, if_false, exA, exA, tabs, exB, exD, Zl, Zp, Ze, Zi, Zn, AV.isAggV, AV.parts, AV.one, AV.solid, Zf, Zb, Zj, Zc, Zk, Zh, Zg, bndA, lenA, Zd, rowOf, Za, intsOf, Zo, Nat.reduceAdd, Nat.reduceSub, Nat.reduceMul, Nat.reduceLeDiff, Nat.reduceLT, Nat.reduceGT, Int.reduceToNat, Int.reduceLE, Int.reduceLT, Int.reduceEq, Int.reduceNe, Int.reduceAdd, Int.reduceSub, Int.reduceMul, Int.reduceNeg, ite_true, ite_false, dite_true, xc10, xc11, xc12, xc13, xc14, xc15, Zm, hr, na] | simp (maxSteps := 1000000) (disch := omega) only [exE, Int.toNat_natCast, Int.reduceToNat])
    refine Z3 (J5 0) (fun k => ⟨envL [(2, .ptr 0 0 0), (4, .ptr 2 0 0), (6, .ptr 3 0 0), (7, .ptr 4 0 0), (8, .v (.int .i64 i)), (26, .v (.int .i64 i)), (29, .v (.int .i64 k))], [some [.arr 128 .u64 r], some [.arr 128 .u64 y], some [.arr 128 .u64 (List.replicate 128 0)], some [.arr 128 .u64 (Jx rowQ r i)], some (atK (oldR (i + 1)) (oldR i) k)]⟩) 16 (by kernel_rfl) ?_ ?_ ?_
    · have e : atK (oldR i) (oldR i) 0 = atK (oldR (i + 1)) (oldR i) 0 := rfl
      (refine Z1 ?_ ?_; (focus (first | with_reducible rfl | (simp only [e, n0] <;> with_reducible rfl))); simp only [exF, Nat.reduceEqDiff, if_true, if_false, reduceIte, Option.some.injEq, reduceCtorEq, Int.cast_ofNat_Int, e, n0])
    · intro k hk
      have hs := hset i k hk
      unfold rowQ at hs
      repeat (first | simp only [Jm, Y5, Qr, Nat.reduceBEq, reduceIte, Nat.reduceEqDiff, reduceCtorEq, ne_eq, if_true, if_false, exA, exA, tabs, exB, exD, Zl, Zp, Ze, Zi, Zn, AV.isAggV, AV.parts, AV.one, AV.solid, Zf, Zb, Zj, Zc, Zk, Zh, Zg, bndA, lenA, Zd, rowOf, Za, intsOf, Zo, Nat.reduceAdd, Nat.reduceSub, Nat.reduceMul, Nat.reduceLeDiff, Nat.reduceLT, Nat.reduceGT, Int.reduceToNat, Int.reduceLE, Int.reduceLT, Int.reduceEq, Int.reduceNe, Int.reduceAdd, Int.reduceSub, Int.reduceMul, Int.reduceNeg, ite_true, ite_false, dite_true, xc10, xc11, xc12, xc13, xc14, xc15, Zm, hr, na] | simp (maxSteps := 1000000) (disch := omega) only [exE, Int.toNat_natCast, Int.reduceToNat, hs])
      repeat (with_reducible refine And.intro (by first | omega | assumption) ?_)
      (refine Z1 ?_ ?_; (focus (first | with_reducible rfl | (simp only [hs] <;> with_reducible rfl))); simp only [exF, Nat.reduceEqDiff, if_true, if_false, reduceIte, Option.some.injEq, reduceCtorEq, Int.cast_ofNat_Int, hs])
    · have e16 : atK (oldR (i + 1)) (oldR i) 16 = ze7 3 (rowQ i) := rfl
      repeat (first | simp only [Jm, Y5, Qr, Nat.reduceBEq, reduceIte, Nat.reduceEqDiff, reduceCtorEq, ne_eq, if_true, if_false, exA, exA, tabs, exB, exD, Zl, Zp, Ze, Zi, Zn, AV.isAggV, AV.parts, AV.one, AV.solid, Zf, Zb, Zj, Zc, Zk, Zh, Zg, bndA, lenA, Zd, rowOf, Za, intsOf, Zo, Nat.reduceAdd, Nat.reduceSub, Nat.reduceMul, Nat.reduceLeDiff, Nat.reduceLT, Nat.reduceGT, Int.reduceToNat, Int.reduceLE, Int.reduceLT, Int.reduceEq, Int.reduceNe, Int.reduceAdd, Int.reduceSub, Int.reduceMul, Int.reduceNeg, ite_true, ite_false, dite_true, xc10, xc11, xc12, xc13, xc14, xc15, Zm, hr, na, e16] | simp (maxSteps := 1000000) (disch := omega) only [exE, Int.toNat_natCast, Int.reduceToNat])
      refine zar [4, 3] (zqx 128 (Jx rowQ r i) (rowQ i) (by intro j hj; unfold rowQ; omega)) rfl rfl (by decide) ?_
      rintro _ _ ⟨rfl, rfl⟩
      repeat (first | simp only [Jm, Y5, Qr, Nat.reduceBEq, reduceIte, Nat.reduceEqDiff, reduceCtorEq, ne_eq, if_true, if_false, exA, exA, tabs, exB, exD, Zl, Zp, Ze, Zi, Zn, AV.isAggV, AV.parts, AV.one, AV.solid, Zf, Zb, Zj, Zc, Zk, Zh, Zg, bndA, lenA, Zd, rowOf, Za, intsOf, Zo, Nat.reduceAdd, Nat.reduceSub, Nat.reduceMul, Nat.reduceLeDiff, Nat.reduceLT, Nat.reduceGT, Int.reduceToNat, Int.reduceLE, Int.reduceLT, Int.reduceEq, Int.reduceNe, Int.reduceAdd, Int.reduceSub, Int.reduceMul, Int.reduceNeg, ite_true, ite_false, dite_true, xc10, xc11, xc12, xc13, xc14, xc15, Zm, hr, na, Ya, renB, renL, AV.ren, Yb] | simp (maxSteps := 1000000) (disch := omega) only [exE, Int.toNat_natCast, Int.reduceToNat])
      have e : renL (Yb [4, 3] 5) (ze7 1 (rowQ i)) = atK (oldR (i + 1)) (oldR (i + 1)) 0 := rfl
      (refine Z1 ?_ ?_; (focus (first | with_reducible rfl | (simp only [Jx, e] <;> with_reducible rfl))); simp only [exF, Nat.reduceEqDiff, if_true, if_false, reduceIte, Option.some.injEq, reduceCtorEq, Int.cast_ofNat_Int, Jx, e])
  have h2l : (Jx rowQ r 8).length = 128 := by rw [zat, rl]
  repeat (first | simp only [Jm, Y5, Qr, Nat.reduceBEq, reduceIte, Nat.reduceEqDiff, reduceCtorEq, ne_eq, if_true, if_false, exA, exA, tabs, exB, exD, Zl, Zp, Ze, Zi, Zn, AV.isAggV, AV.parts, AV.one, AV.solid, Zf, Zb, Zj, Zc, Zk, Zh, Zg, bndA, lenA, Zd, rowOf, Za, intsOf, Zo, Nat.reduceAdd, Nat.reduceSub, Nat.reduceMul, Nat.reduceLeDiff, Nat.reduceLT, Nat.reduceGT, Int.reduceToNat, Int.reduceLE, Int.reduceLT, Int.reduceEq, Int.reduceNe, Int.reduceAdd, Int.reduceSub, Int.reduceMul, Int.reduceNeg, ite_true, ite_false, dite_true, xc10, xc11, xc12, xc13, xc14, xc15, Zm, hr, na] | simp (maxSteps := 1000000) (disch := omega) only [exE, Int.toNat_natCast, Int.reduceToNat])
  have hR : zpk r = xorK (Jx colQ (Jx rowQ r 8) 8) r 128 := rfl
  rw [hR]
  generalize Jx rowQ r 8 = z at h2l ⊢
  have zl : z.length = 128 := h2l
  have hset : ∀ i, ∀ k, k < 16 → J3 (atK (oldC (i + 1)) (oldC i) k) k (.ptr 3 0 (colQ i k)) = some (atK (oldC (i + 1)) (oldC i) (k + 1)) := fun i k hk => zue (zv2 (i + 1)) (zv2 i) k hk rfl
  refine Z3 (J5 0) (fun i => ⟨envL [(2, .ptr 0 0 0), (4, .ptr 2 0 0), (6, .ptr 3 0 0), (7, .ptr 4 0 0), (42, .v (.int .i64 i))], [some [.arr 128 .u64 r], some [.arr 128 .u64 y], some [.arr 128 .u64 (List.replicate 128 0)], some [.arr 128 .u64 (Jx colQ z i)], some (atK (oldC i) (oldC i) 0)]⟩) 8 (by kernel_rfl) ?_ ?_ ?_
  · have e : atK (oldR 8) (oldR 8) 0 = atK (oldC 0) (oldC 0) 0 := rfl
    (refine Z1 ?_ ?_; (focus (first | with_reducible rfl | (simp only [Jx, n0, e] <;> with_reducible rfl))); simp only [exF, Nat.reduceEqDiff, if_true, if_false, reduceIte, Option.some.injEq, reduceCtorEq, Int.cast_ofNat_Int, Jx, n0, e])
  · intro i hi
    have hz := zat colQ z i
    rw [zl] at hz
    repeat (first | simp only [Jm, Y5, Qr, Nat.reduceBEq, reduceIte, Nat.reduceEqDiff, reduceCtorEq, ne_eq, if_true, if_false, exA, exA, tabs, exB, exD, Zl, Zp, Ze, Zi, Zn, AV.isAggV, AV.parts, AV.one, AV.solid, Zf, Zb, Zj, Zc, Zk, Zh, Zg, bndA, lenA, Zd, rowOf, Za, intsOf, Zo, Nat.reduceAdd, Nat.reduceSub, Nat.reduceMul, Nat.reduceLeDiff, Nat.reduceLT, Nat.reduceGT, Int.reduceToNat, Int.reduceLE, Int.reduceLT, Int.reduceEq, Int.reduceNe, Int.reduceAdd, Int.reduceSub, Int.reduceMul, Int.reduceNeg, ite_true, ite_false, dite_true, xc10, xc11, xc12, xc13, xc14, xc15, Zm, hr, na] | simp (maxSteps := 1000000) (disch := omega) only [exE, Int.toNat_natCast, Int.reduceToNat])
    refine Z3 (J5 0) (fun k => ⟨envL [(2, .ptr 0 0 0), (4, .ptr 2 0 0), (6, .ptr 3 0 0), (7, .ptr 4 0 0), (10, .v (.int .i64 i)), (42, .v (.int .i64 i)), (45, .v (.int .i64 k))], [some [.arr 128 .u64 r], some [.arr 128 .u64 y], some [.arr 128 .u64 (List.replicate 128 0)], some [.arr 128 .u64 (Jx colQ z i)], some (atK (oldC (i + 1)) (oldC i) k)]⟩) 16 (by kernel_rfl) ?_ ?_ ?_
    · have e : atK (oldC i) (oldC i) 0 = atK (oldC (i + 1)) (oldC i) 0 := rfl
      (refine Z1 ?_ ?_; (focus (first | with_reducible rfl | (simp only [e, n0] <;> with_reducible rfl))); simp only [exF, Nat.reduceEqDiff, if_true, if_false, reduceIte, Option.some.injEq, reduceCtorEq, Int.cast_ofNat_Int, e, n0])
    · intro k hk
      have hs := hset i k hk
      unfold colQ at hs
      repeat (first | simp only [Jm, Y5, Qr, Nat.reduceBEq, reduceIte, Nat.reduceEqDiff, reduceCtorEq, ne_eq, if_true, if_false, exA, exA, tabs, exB, exD, Zl, Zp, Ze, Zi, Zn, AV.isAggV, AV.parts, AV.one, AV.solid, Zf, Zb, Zj, Zc, Zk, Zh, Zg, bndA, lenA, Zd, rowOf, Za, intsOf, Zo, Nat.reduceAdd, Nat.reduceSub, Nat.reduceMul, Nat.reduceLeDiff, Nat.reduceLT, Nat.reduceGT, Int.reduceToNat, Int.reduceLE, Int.reduceLT, Int.reduceEq, Int.reduceNe, Int.reduceAdd, Int.reduceSub, Int.reduceMul, Int.reduceNeg, ite_true, ite_false, dite_true, xc10, xc11, xc12, xc13, xc14, xc15, Zm, hr, na] | simp (maxSteps := 1000000) (disch := omega) only [exE, Int.toNat_natCast, Int.reduceToNat, hs])
      repeat (with_reducible refine And.intro (by first | omega | assumption) ?_)
      (refine Z1 ?_ ?_; (focus (first | with_reducible rfl | (simp only [hs] <;> with_reducible rfl))); simp only [exF, Nat.reduceEqDiff, if_true, if_false, reduceIte, Option.some.injEq, reduceCtorEq, Int.cast_ofNat_Int, hs])
    · have e16 : atK (oldC (i + 1)) (oldC i) 16 = ze7 3 (colQ i) := rfl
      repeat (first | simp only [Jm, Y5, Qr, Nat.reduceBEq, reduceIte, Nat.reduceEqDiff, reduceCtorEq, ne_eq, if_true, if_false, exA, exA, tabs, exB, exD, Zl, Zp, Ze, Zi, Zn, AV.isAggV, AV.parts, AV.one, AV.solid, Zf, Zb, Zj, Zc, Zk, Zh, Zg, bndA, lenA, Zd, rowOf, Za, intsOf, Zo, Nat.reduceAdd, Nat.reduceSub, Nat.reduceMul, Nat.reduceLeDiff, Nat.reduceLT, Nat.reduceGT, Int.reduceToNat, Int.reduceLE, Int.reduceLT, Int.reduceEq, Int.reduceNe, Int.reduceAdd, Int.reduceSub, Int.reduceMul, Int.reduceNeg, ite_true, ite_false, dite_true, xc10, xc11, xc12, xc13, xc14, xc15, Zm, hr, na, e16] | simp (maxSteps := 1000000) (disch := omega) only [exE, Int.toNat_natCast, Int.reduceToNat])
      refine zar [4, 3] (zqx 128 (Jx colQ z i) (colQ i) (by intro j hj; unfold colQ; omega)) rfl rfl (by decide) ?_
      rintro _ _ ⟨rfl, rfl⟩
      repeat (first | simp only [Jm, Y5, Qr, Nat.reduceBEq, reduceIte, Nat.reduceEqDiff, reduceCtorEq, ne_eq, if_true, if_false, exA, exA, tabs, exB, exD, Zl, Zp, Ze, Zi, Zn, AV.isAggV, AV.parts, AV.one, AV.solid, Zf, Zb, Zj, Zc, Zk, Zh, Zg, bndA, lenA, Zd, rowOf, Za, intsOf, Zo, Nat.reduceAdd, Nat.reduceSub, Nat.reduceMul, Nat.reduceLeDiff, Nat.reduceLT, Nat.reduceGT, Int.reduceToNat, Int.reduceLE, Int.reduceLT, Int.reduceEq, Int.reduceNe, Int.reduceAdd, Int.reduceSub, Int.reduceMul, Int.reduceNeg, ite_true, ite_false, dite_true, xc10, xc11, xc12, xc13, xc14, xc15, Zm, hr, na, Ya, renB, renL, AV.ren, Yb] | simp (maxSteps := 1000000) (disch := omega) only [exE, Int.toNat_natCast, Int.reduceToNat])
      have e : renL (Yb [4, 3] 5) (ze7 1 (colQ i)) = atK (oldC (i + 1)) (oldC (i + 1)) 0 := rfl
      (refine Z1 ?_ ?_; (focus (first | with_reducible rfl | (simp only [Jx, e] <;> with_reducible rfl))); simp only [exF, Nat.reduceEqDiff, if_true, if_false, reduceIte, Option.some.injEq, reduceCtorEq, Int.cast_ofNat_Int, Jx, e])
  have h3l : (Jx colQ z 8).length = 128 := by rw [zat, zl]
  repeat (first | simp only [Jm, Y5, Qr, Nat.reduceBEq, reduceIte, Nat.reduceEqDiff, reduceCtorEq, ne_eq, if_true, if_false, exA, exA, tabs, exB, exD, Zl, Zp, Ze, Zi, Zn, AV.isAggV, AV.parts, AV.one, AV.solid, Zf, Zb, Zj, Zc, Zk, Zh, Zg, bndA, lenA, Zd, rowOf, Za, intsOf, Zo, Nat.reduceAdd, Nat.reduceSub, Nat.reduceMul, Nat.reduceLeDiff, Nat.reduceLT, Nat.reduceGT, Int.reduceToNat, Int.reduceLE, Int.reduceLT, Int.reduceEq, Int.reduceNe, Int.reduceAdd, Int.reduceSub, Int.reduceMul, Int.reduceNeg, ite_true, ite_false, dite_true, xc10, xc11, xc12, xc13, xc14, xc15, Zm, hr, na] | simp (maxSteps := 1000000) (disch := omega) only [exE, Int.toNat_natCast, Int.reduceToNat])
  generalize Jx colQ z 8 = u at h3l ⊢
  refine Z3 (J5 0) (fun i => ⟨envL [(2, .ptr 0 0 0), (4, .ptr 2 0 0), (6, .ptr 3 0 0), (63, .v (.int .i64 i))], [some [.arr 128 .u64 r], some [.arr 128 .u64 y], some [.arr 128 .u64 (List.replicate 128 0)], some [.arr 128 .u64 (xorK u r i)], some (atK (oldC 8) (oldC 8) 0)]⟩) 128 (by kernel_rfl) ?_ ?_ ?_
  · (refine Z1 ?_ ?_; (focus (first | with_reducible rfl | (simp only [xorK, n0] <;> with_reducible rfl))); simp only [exF, Nat.reduceEqDiff, if_true, if_false, reduceIte, Option.some.injEq, reduceCtorEq, Int.cast_ofNat_Int, xorK, n0])
  · intro i hi
    repeat (first | simp only [Jm, Y5, Qr, Nat.reduceBEq, reduceIte, Nat.reduceEqDiff, reduceCtorEq, ne_eq, if_true, if_false, exA, exA, tabs, exB, exD, Zl, Zp, Ze, Zi, Zn, AV.isAggV, AV.parts, AV.one, AV.solid, Zf, Zb, Zj, Zc, Zk, Zh, Zg, bndA, lenA, Zd, rowOf, Za, intsOf, Zo, Nat.reduceAdd, Nat.reduceSub, Nat.reduceMul, Nat.reduceLeDiff, Nat.reduceLT, Nat.reduceGT, Int.reduceToNat, Int.reduceLE, Int.reduceLT, Int.reduceEq, Int.reduceNe, Int.reduceAdd, Int.reduceSub, Int.reduceMul, Int.reduceNeg, ite_true, ite_false, dite_true, xc10, xc11, xc12, xc13, xc14, xc15, Zm, hr, na] | simp (maxSteps := 1000000) (disch := omega) only [exE, Int.toNat_natCast, Int.reduceToNat])
    repeat (with_reducible refine And.intro (by first | omega | assumption) ?_)
    (refine Z1 ?_ ?_; (focus (first | with_reducible rfl | (simp only [xorK] <;> with_reducible rfl))); simp only [exF, Nat.reduceEqDiff, if_true, if_false, reduceIte, Option.some.injEq, reduceCtorEq, Int.cast_ofNat_Int, xorK])
  have h4l : (xorK u r 128).length = 128 := by rw [Qu, h3l]
  have h4t := zdx h4l
  repeat (first | simp only [Jm, Y5, Qr, Nat.reduceBEq, reduceIte, Nat.reduceEqDiff, reduceCtorEq, ne_eq, if_true, if_false, exA, exA, tabs, exB, exD, Zl, Zp, Ze, Zi, Zn, AV.isAggV, AV.parts, AV.one, AV.solid, Zf, Zb, Zj, Zc, Zk, Zh, Zg, bndA, lenA, Zd, rowOf, Za, intsOf, Zo, Nat.reduceAdd, Nat.reduceSub, Nat.reduceMul, Nat.reduceLeDiff, Nat.reduceLT, Nat.reduceGT, Int.reduceToNat, Int.reduceLE, Int.reduceLT, Int.reduceEq, Int.reduceNe, Int.reduceAdd, Int.reduceSub, Int.reduceMul, Int.reduceNeg, ite_true, ite_false, dite_true, xc10, xc11, xc12, xc13, xc14, xc15, Zm, hr, na, h4t] | simp (maxSteps := 1000000) (disch := omega) only [exE, Int.toNat_natCast, Int.reduceToNat])
end Go.Proofs.Ytfnfmbikooeiaaa
namespace Go.Proofs.Ytfnfmbikooeiaaa
open Go.Ax
def rxK (x y : List Int) : Nat → List Int
  | 0 => List.replicate 128 0
  | i + 1 => (rxK x y i).set i (xorU (x.getD i 0) (y.getD i 0))
theorem zko (x y : List Int) : ∀ i, (rxK x y i).length = 128
  | 0 => by simp [rxK]
  | i + 1 => by simp only [rxK, List.length_set]; exact zko x y i
def zah (z : List Int) (q : Nat → Nat) : Nat → List Int
  | 0 => List.replicate 16 0
  | k + 1 => (zah z q k).set k (z.getD (q k) 0)
theorem zaw (z : List Int) (q : Nat → Nat) : ∀ i, (zah z q i).length = 16
  | 0 => by simp [zah]
  | i + 1 => by simp only [zah, List.length_set]; exact zaw z q i
def Jj (z v : List Int) (q : Nat → Nat) : Nat → List Int
  | 0 => z
  | k + 1 => (Jj z v q k).set (q k) (v.getD k 0)
theorem zc0 (z v : List Int) (q : Nat → Nat) : ∀ i, (Jj z v q i).length = z.length
  | 0 => rfl
  | i + 1 => by simp only [Jj, List.length_set]; exact zc0 z v q i
def rstK (Q : Nat → Nat → Nat) (z : List Int) : Nat → List Int
  | 0 => z
  | i + 1 => Jj (rstK Q z i) (zce (zah (rstK Q z i) (Q i) 16)) (Q i) 16
theorem zbt (Q : Nat → Nat → Nat) (z : List Int) : ∀ i, (rstK Q z i).length = z.length
  | 0 => rfl
  | i + 1 => by simp only [rstK, zc0]; exact zbt Q z i
def znu (r : List Int) : List Int := xorK (rstK colQ (rstK rowQ r 8) 8) r 128
def ze2 (x y : List Int) : List Int := znu (rxK x y 128)
theorem zti {l : List Int} (h : l.length = 16) : l.take 16 = l := List.take_of_length_le (by omega)
theorem zvc (x y : List Int) (hx : x.length = 128) (hy : y.length = 128) :
    Zs Try.prog 41 [.arr 128 .u64 x, .arr 128 .u64 y] [] fun v _ => v = .arr 128 .u64 (ze2 x y) := by
  have na : ∀ n : Nat, (0 : Int) ≤ n := fun n => Int.natCast_nonneg n
  have n0 : ((0 : Nat) : Int) = 0 := rfl
  refine Zq (zfi 0) Try.func41 rfl ⟨by kernel_rfl, by show 2 ≤ _; decide, by kernel_rfl, by kernel_rfl⟩ rfl ?_; have hr : Try.f41.results.toList = [.cell 4 53] := rfl
  repeat (first | simp only [zdp, J1, zba, Nat.reduceBEq, reduceIte, Nat.reduceEqDiff, reduceCtorEq, ne_eq, if_true, if_false, exA, exA, tabs, exB, exD, Zl, Zp, Ze, Zi, Zn, AV.isAggV, AV.parts, AV.one, AV.solid, Zf, Zb, Zj, Zc, Zk, Zh, Zg, bndA, lenA, Zd, rowOf, Za, intsOf, Zo, Nat.reduceAdd, Nat.reduceSub, Nat.reduceMul, Nat.reduceLeDiff, Nat.reduceLT, Nat.reduceGT, Int.reduceToNat, Int.reduceLE, Int.reduceLT, Int.reduceEq, Int.reduceNe, Int.reduceAdd, Int.reduceSub, Int.reduceMul, Int.reduceNeg, ite_true, ite_false, dite_true, xc10, xc11, xc12, xc13, xc14, xc15, xc16, Zm, hr] | simp (maxSteps := 1000000) (disch := omega) only [exE, Int.toNat_natCast, Int.reduceToNat])
  refine Z3 (zfi 0) (fun i => ⟨envL [(2, .ptr 0 0 0), (3, .ptr 1 0 0), (4, .ptr 2 0 0), (5, .ptr 3 0 0), (6, .v (.int .i64 i))], [some [.arr 128 .u64 x], some [.arr 128 .u64 y], some [.arr 128 .u64 (List.replicate 128 0)], some [.arr 128 .u64 (rxK x y i)]]⟩) 128 (by kernel_rfl) ?_ ?_ ?_
  · (refine Z1 ?_ ?_; (focus (first | with_reducible rfl | (simp only [rxK] <;> with_reducible rfl))); simp only [exF, Nat.reduceEqDiff, if_true, if_false, reduceIte, Option.some.injEq, reduceCtorEq, Int.cast_ofNat_Int, rxK])
  · intro i hi
    repeat (first | simp only [zdp, J1, zba, Nat.reduceBEq, reduceIte, Nat.reduceEqDiff, reduceCtorEq, ne_eq, if_true, if_false, exA, exA, tabs, exB, exD, Zl, Zp, Ze, Zi, Zn, AV.isAggV, AV.parts, AV.one, AV.solid, Zf, Zb, Zj, Zc, Zk, Zh, Zg, bndA, lenA, Zd, rowOf, Za, intsOf, Zo, Nat.reduceAdd, Nat.reduceSub, Nat.reduceMul, Nat.reduceLeDiff, Nat.reduceLT, Nat.reduceGT, Int.reduceToNat, Int.reduceLE, Int.reduceLT, Int.reduceEq, Int.reduceNe, Int.reduceAdd, Int.reduceSub, Int.reduceMul, Int.reduceNeg, ite_true, ite_false, dite_true, xc10, xc11, xc12, xc13, xc14, xc15, xc16, Zm, hr, na] | simp (maxSteps := 1000000) (disch := omega) only [exE, Int.toNat_natCast, Int.reduceToNat])
    repeat (with_reducible refine And.intro (by first | omega | assumption) ?_)
    (refine Z1 ?_ ?_; (focus (first | with_reducible rfl | (simp only [rxK] <;> with_reducible rfl))); simp only [exF, Nat.reduceEqDiff, if_true, if_false, reduceIte, Option.some.injEq, reduceCtorEq, Int.cast_ofNat_Int, rxK])
  have h1l : (rxK x y 128).length = 128 := zko x y 128
  have h1t : (rxK x y 128).take 128 = rxK x y 128 := zdx h1l
  repeat (first | simp only [zdp, J1, zba, Nat.reduceBEq, reduceIte, Nat.reduceEqDiff, reduceCtorEq, ne_eq, if_true, if_false, exA, exA, tabs, exB, exD, Zl, Zp, Ze, Zi, Zn, AV.isAggV, AV.parts, AV.one, AV.solid, Zf, Zb, Zj, Zc, Zk, Zh, Zg, bndA, lenA, Zd, rowOf, Za, intsOf, Zo, Nat.reduceAdd, Nat.reduceSub, Nat.reduceMul, Nat.reduceLeDiff, Nat.reduceLT, Nat.reduceGT, Int.reduceToNat, Int.reduceLE, Int.reduceLT, Int.reduceEq, Int.reduceNe, Int.reduceAdd, Int.reduceSub, Int.reduceMul, Int.reduceNeg, ite_true, ite_false, dite_true, xc10, xc11, xc12, xc13, xc14, xc15, xc16, Zm, hr, na, h1t] | simp (maxSteps := 1000000) (disch := omega) only [exE, Int.toNat_natCast, Int.reduceToNat])
  unfold ze2
  generalize rxK x y 128 = r at h1l h1t ⊢
  have rl : r.length = 128 := h1l
  refine Z3 (zfi 0) (fun i => ⟨envL [(4, .ptr 2 0 0), (5, .ptr 3 0 0), (7, .ptr 4 0 0), (8, .v (.int .i64 i))], [some [.arr 128 .u64 x], some [.arr 128 .u64 y], some [.arr 128 .u64 (List.replicate 128 0)], some [.arr 128 .u64 r], some [.arr 128 .u64 (rstK rowQ r i)]]⟩) 8 (by kernel_rfl) ?_ ?_ ?_
  · (refine Z1 ?_ ?_; (focus (first | with_reducible rfl | (simp only [rstK, n0] <;> with_reducible rfl))); simp only [exF, Nat.reduceEqDiff, if_true, if_false, reduceIte, Option.some.injEq, reduceCtorEq, Int.cast_ofNat_Int, rstK, n0])
  · intro i hi
    have hz := zbt rowQ r i
    rw [rl] at hz
    repeat (first | simp only [zdp, J1, zba, Nat.reduceBEq, reduceIte, Nat.reduceEqDiff, reduceCtorEq, ne_eq, if_true, if_false, exA, exA, tabs, exB, exD, Zl, Zp, Ze, Zi, Zn, AV.isAggV, AV.parts, AV.one, AV.solid, Zf, Zb, Zj, Zc, Zk, Zh, Zg, bndA, lenA, Zd, rowOf, Za, intsOf, Zo, Nat.reduceAdd, Nat.reduceSub, Nat.reduceMul, Nat.reduceLeDiff, Nat.reduceLT, Nat.reduceGT, Int.reduceToNat, Int.reduceLE, Int.reduceLT, Int.reduceEq, Int.reduceNe, Int.reduceAdd, Int.reduceSub, Int.reduceMul, Int.reduceNeg, ite_true, ite_false, dite_true, xc10, xc11, xc12, xc13, xc14, xc15, xc16, Zm, hr, na] | simp (maxSteps := 1000000) (disch := omega) only [exE, Int.toNat_natCast, Int.reduceToNat])
    refine Z3 (zfi 0) (fun k => ⟨envL [(4, .ptr 2 0 0), (5, .ptr 3 0 0), (7, .ptr 4 0 0), (8, .v (.int .i64 i)), (9, .ptr 5 0 0), (10, .v (.int .i64 k))], [some [.arr 128 .u64 x], some [.arr 128 .u64 y], some [.arr 128 .u64 (List.replicate 128 0)], some [.arr 128 .u64 r], some [.arr 128 .u64 (rstK rowQ r i)], some [.arr 16 .u64 (zah (rstK rowQ r i) (rowQ i) k)]]⟩) 16 (by kernel_rfl) ?_ ?_ ?_
    · (refine Z1 ?_ ?_; (focus (first | with_reducible rfl | (simp only [zah, n0] <;> with_reducible rfl))); simp only [exF, Nat.reduceEqDiff, if_true, if_false, reduceIte, Option.some.injEq, reduceCtorEq, Int.cast_ofNat_Int, zah, n0])
    · intro k hk
      repeat (first | simp only [zdp, J1, zba, Nat.reduceBEq, reduceIte, Nat.reduceEqDiff, reduceCtorEq, ne_eq, if_true, if_false, exA, exA, tabs, exB, exD, Zl, Zp, Ze, Zi, Zn, AV.isAggV, AV.parts, AV.one, AV.solid, Zf, Zb, Zj, Zc, Zk, Zh, Zg, bndA, lenA, Zd, rowOf, Za, intsOf, Zo, Nat.reduceAdd, Nat.reduceSub, Nat.reduceMul, Nat.reduceLeDiff, Nat.reduceLT, Nat.reduceGT, Int.reduceToNat, Int.reduceLE, Int.reduceLT, Int.reduceEq, Int.reduceNe, Int.reduceAdd, Int.reduceSub, Int.reduceMul, Int.reduceNeg, ite_true, ite_false, dite_true, xc10, xc11, xc12, xc13, xc14, xc15, xc16, Zm, hr, na] | simp (maxSteps := 1000000) (disch := omega) only [exE, Int.toNat_natCast, Int.reduceToNat])
      repeat (with_reducible refine And.intro (by first | omega | assumption) ?_)
      (refine Z1 ?_ ?_; (focus (first | with_reducible rfl | (simp only [zah, rowQ] <;> with_reducible rfl))); simp only [exF, Nat.reduceEqDiff, if_true, if_false, reduceIte, Option.some.injEq, reduceCtorEq, Int.cast_ofNat_Int, zah, rowQ])
    have hg := zaw (rstK rowQ r i) (rowQ i) 16
    have hg2 := zti hg
    repeat (first | simp only [zdp, J1, zba, Nat.reduceBEq, reduceIte, Nat.reduceEqDiff, reduceCtorEq, ne_eq, if_true, if_false, exA, exA, tabs, exB, exD, Zl, Zp, Ze, Zi, Zn, AV.isAggV, AV.parts, AV.one, AV.solid, Zf, Zb, Zj, Zc, Zk, Zh, Zg, bndA, lenA, Zd, rowOf, Za, intsOf, Zo, Nat.reduceAdd, Nat.reduceSub, Nat.reduceMul, Nat.reduceLeDiff, Nat.reduceLT, Nat.reduceGT, Int.reduceToNat, Int.reduceLE, Int.reduceLT, Int.reduceEq, Int.reduceNe, Int.reduceAdd, Int.reduceSub, Int.reduceMul, Int.reduceNeg, ite_true, ite_false, dite_true, xc10, xc11, xc12, xc13, xc14, xc15, xc16, Zm, hr, na, hg2, hg] | simp (maxSteps := 1000000) (disch := omega) only [exE, Int.toNat_natCast, Int.reduceToNat])
    have hv : (zce (zah (rstK rowQ r i) (rowQ i) 16)).length = 16 := by rw [zow, hg]
    have hv2 := zti hv
    generalize hve : zce (zah (rstK rowQ r i) (rowQ i) 16) = v at hv hv2 ⊢
    refine Z3 (zfi 0) (fun k => ⟨envL [(4, .ptr 2 0 0), (5, .ptr 3 0 0), (7, .ptr 4 0 0), (8, .v (.int .i64 i)), (9, .ptr 5 0 0), (11, .v (.int .i64 k))], [some [.arr 128 .u64 x], some [.arr 128 .u64 y], some [.arr 128 .u64 (List.replicate 128 0)], some [.arr 128 .u64 r], some [.arr 128 .u64 (Jj (rstK rowQ r i) v (rowQ i) k)], some [.arr 16 .u64 v]]⟩) 16 (by kernel_rfl) ?_ ?_ ?_
    · (refine Z1 ?_ ?_; (focus (first | with_reducible rfl | (simp only [Jj, n0] <;> with_reducible rfl))); simp only [exF, Nat.reduceEqDiff, if_true, if_false, reduceIte, Option.some.injEq, reduceCtorEq, Int.cast_ofNat_Int, Jj, n0])
    · intro k hk
      repeat (first | simp only [zdp, J1, zba, Nat.reduceBEq, reduceIte, Nat.reduceEqDiff, reduceCtorEq, ne_eq, if_true, if_false, exA, exA, tabs, exB, exD, Zl, Zp, Ze, Zi, Zn, AV.isAggV, AV.parts, AV.one, AV.solid, Zf, Zb, Zj, Zc, Zk, Zh, Zg, bndA, lenA, Zd, rowOf, Za, intsOf, Zo, Nat.reduceAdd, Nat.reduceSub, Nat.reduceMul, Nat.reduceLeDiff, Nat.reduceLT, Nat.reduceGT, Int.reduceToNat, Int.reduceLE, Int.reduceLT, Int.reduceEq, Int.reduceNe, Int.reduceAdd, Int.reduceSub, Int.reduceMul, Int.reduceNeg, ite_true, ite_false, dite_true, xc10, xc11, xc12, xc13, xc14, xc15, xc16, Zm, hr, na] | simp (maxSteps := 1000000) (disch := omega) only [exE, Int.toNat_natCast, Int.reduceToNat])
      repeat (with_reducible refine And.intro (by first | omega | assumption) ?_)
      (refine Z1 ?_ ?_; (focus (first | with_reducible rfl | (simp only [Jj, rowQ] <;> with_reducible rfl))); simp only [exF, Nat.reduceEqDiff, if_true, if_false, reduceIte, Option.some.injEq, reduceCtorEq, Int.cast_ofNat_Int, Jj, rowQ])
    · repeat (first | simp only [zdp, J1, zba, Nat.reduceBEq, reduceIte, Nat.reduceEqDiff, reduceCtorEq, ne_eq, if_true, if_false, exA, exA, tabs, exB, exD, Zl, Zp, Ze, Zi, Zn, AV.isAggV, AV.parts, AV.one, AV.solid, Zf, Zb, Zj, Zc, Zk, Zh, Zg, bndA, lenA, Zd, rowOf, Za, intsOf, Zo, Nat.reduceAdd, Nat.reduceSub, Nat.reduceMul, Nat.reduceLeDiff, Nat.reduceLT, Nat.reduceGT, Int.reduceToNat, Int.reduceLE, Int.reduceLT, Int.reduceEq, Int.reduceNe, Int.reduceAdd, Int.reduceSub, Int.reduceMul, Int.reduceNeg, ite_true, ite_false, dite_true, xc10, xc11, xc12, xc13, xc14, xc15, xc16, Zm, hr, na] | simp (maxSteps := 1000000) (disch := omega) only [exE, Int.toNat_natCast, Int.reduceToNat])
      (refine Z2 [0, 1, 2, 3, 4] (by decide) (by simp) (by rfl) ?_ ?_; (focus (first | with_reducible rfl | (simp only [List.map_cons, List.map_nil, List.cons_append, List.nil_append, List.getElem?_cons_zero, List.getElem?_cons_succ, renB, renL, Option.map_some, Option.map_none, AV.ren, Z4, List.getD_cons_zero, List.getD_cons_succ, rstK, hve] <;> with_reducible rfl))); simp only [exF, List.map_cons, List.map_nil, List.length_cons, List.length_nil, Nat.reduceAdd, AV.ren, renL, Z4, Nat.reduceEqDiff, if_true, if_false, reduceIte, Option.some.injEq, reduceCtorEq, Int.cast_ofNat_Int, rstK, hve])
  have h2l : (rstK rowQ r 8).length = 128 := by rw [zbt, rl]
  repeat (first | simp only [zdp, J1, zba, Nat.reduceBEq, reduceIte, Nat.reduceEqDiff, reduceCtorEq, ne_eq, if_true, if_false, exA, exA, tabs, exB, exD, Zl, Zp, Ze, Zi, Zn, AV.isAggV, AV.parts, AV.one, AV.solid, Zf, Zb, Zj, Zc, Zk, Zh, Zg, bndA, lenA, Zd, rowOf, Za, intsOf, Zo, Nat.reduceAdd, Nat.reduceSub, Nat.reduceMul, Nat.reduceLeDiff, Nat.reduceLT, Nat.reduceGT, Int.reduceToNat, Int.reduceLE, Int.reduceLT, Int.reduceEq, Int.reduceNe, Int.reduceAdd, Int.reduceSub, Int.reduceMul, Int.reduceNeg, ite_true, ite_false, dite_true, xc10, xc11, xc12, xc13, xc14, xc15, xc16, Zm, hr, na] | simp (maxSteps := 1000000) (disch := omega) only [exE, Int.toNat_natCast, Int.reduceToNat])
  have hR : znu r = xorK (rstK colQ (rstK rowQ r 8) 8) r 128 := rfl
  rw [hR]
  generalize rstK rowQ r 8 = z at h2l ⊢
  have zl : z.length = 128 := h2l
  refine Z3 (zfi 0) (fun i => ⟨envL [(4, .ptr 2 0 0), (5, .ptr 3 0 0), (7, .ptr 4 0 0), (12, .v (.int .i64 i))], [some [.arr 128 .u64 x], some [.arr 128 .u64 y], some [.arr 128 .u64 (List.replicate 128 0)], some [.arr 128 .u64 r], some [.arr 128 .u64 (rstK colQ z i)]]⟩) 8 (by kernel_rfl) ?_ ?_ ?_
  · (refine Z1 ?_ ?_; (focus (first | with_reducible rfl | (simp only [rstK, n0] <;> with_reducible rfl))); simp only [exF, Nat.reduceEqDiff, if_true, if_false, reduceIte, Option.some.injEq, reduceCtorEq, Int.cast_ofNat_Int, rstK, n0])
  · intro i hi
    have hz := zbt colQ z i
    rw [zl] at hz
    repeat (first | simp only [zdp, J1, zba, Nat.reduceBEq, reduceIte, Nat.reduceEqDiff, reduceCtorEq, ne_eq, if_true, if_false, exA, exA, tabs, exB, exD, Zl, Zp, Ze, Zi, Zn, AV.isAggV, AV.parts, AV.one, AV.solid, Zf, Zb, Zj, Zc, Zk, Zh, Zg, bndA, lenA, Zd, rowOf, Za, intsOf, Zo, Nat.reduceAdd, Nat.reduceSub, Nat.reduceMul, Nat.reduceLeDiff, Nat.reduceLT, Nat.reduceGT, Int.reduceToNat, Int.reduceLE, Int.reduceLT, Int.reduceEq, Int.reduceNe, Int.reduceAdd, Int.reduceSub, Int.reduceMul, Int.reduceNeg, ite_true, ite_false, dite_true, xc10, xc11, xc12, xc13, xc14, xc15, xc16, Zm, hr, na] | simp (maxSteps := 1000000) (disch := omega) only [exE, Int.toNat_natCast, Int.reduceToNat])
    refine Z3 (zfi 0) (fun k => ⟨envL [(4, .ptr 2 0 0), (5, .ptr 3 0 0), (7, .ptr 4 0 0), (12, .v (.int .i64 i)), (13, .ptr 5 0 0), (14, .v (.int .i64 k))], [some [.arr 128 .u64 x], some [.arr 128 .u64 y], some [.arr 128 .u64 (List.replicate 128 0)], some [.arr 128 .u64 r], some [.arr 128 .u64 (rstK colQ z i)], some [.arr 16 .u64 (zah (rstK colQ z i) (colQ i) k)]]⟩) 16 (by kernel_rfl) ?_ ?_ ?_
    · (refine Z1 ?_ ?_; (focus (first | with_reducible rfl | (simp only [zah, n0] <;> with_reducible rfl))); simp only [exF, Nat.reduceEqDiff, if_true, if_false, reduceIte, Option.some.injEq, reduceCtorEq, Int.cast_ofNat_Int, zah, n0])
    · intro k hk
      repeat (first | simp only [zdp, J1, zba, Nat.reduceBEq, reduceIte, Nat.reduceEqDiff, reduceCtorEq, ne_eq, if_true, if_false, exA, exA, tabs, exB, exD, Zl, Zp, Ze, Zi, Zn, AV.isAggV, AV.parts, AV.one, AV.solid, Zf, Zb, Zj, Zc, Zk, Zh, Zg, bndA, lenA, Zd, rowOf, Za, intsOf, Zo, Nat.reduceAdd, Nat.reduceSub, Nat.reduceMul, Nat.reduceLeDiff, Nat.reduceLT, Nat.reduceGT, Int.reduceToNat, Int.reduceLE, Int.reduceLT, Int.reduceEq, Int.reduceNe, Int.reduceAdd, Int.reduceSub, Int.reduceMul, Int.reduceNeg, ite_true, ite_false, dite_true, xc10, xc11, xc12, xc13, xc14, xc15, xc16, Zm, hr, na] | simp (maxSteps := 1000000) (disch := omega) only [exE, Int.toNat_natCast, Int.reduceToNat])
      repeat (with_reducible refine And.intro (by first | omega | assumption) ?_)
      (refine Z1 ?_ ?_; (focus (first | with_reducible rfl | (simp only [zah, colQ] <;> with_reducible rfl))); simp only [exF, Nat.reduceEqDiff, if_true, if_false, reduceIte, Option.some.injEq, reduceCtorEq, Int.cast_ofNat_Int, zah, colQ])
    have hg := zaw (rstK colQ z i) (colQ i) 16
    have hg2 := zti hg
    repeat (first | simp only [zdp, J1, zba, Nat.reduceBEq, reduceIte, Nat.reduceEqDiff, reduceCtorEq, ne_eq, if_true, if_false, exA, exA, tabs, exB, exD, Zl, Zp, Ze, Zi, Zn, AV.isAggV, AV.parts, AV.one, AV.solid, Zf, Zb, Zj, Zc, Zk, Zh, Zg, bndA, lenA, Zd, rowOf, Za, intsOf, Zo, Nat.reduceAdd, Nat.reduceSub, Nat.reduceMul, Nat.reduceLeDiff, Nat.reduceLT, Nat.reduceGT, Int.reduceToNat, Int.reduceLE, Int.reduceLT, Int.reduceEq, Int.reduceNe, Int.reduceAdd, Int.reduceSub, Int.reduceMul, Int.reduceNeg, ite_true, ite_false, dite_true, xc10, xc11, xc12, xc13, xc14, xc15, xc16, Zm, hr, na, hg2, hg] | simp (maxSteps := 1000000) (disch := omega) only [exE, Int.toNat_natCast, Int.reduceToNat])
    have hv : (zce (zah (rstK colQ z i) (colQ i) 16)).length = 16 := by rw [zow, hg]
    have hv2 := zti hv
    generalize hve : zce (zah (rstK colQ z i) (colQ i) 16) = v at hv hv2 ⊢
    refine Z3 (zfi 0) (fun k => ⟨envL [(4, .ptr 2 0 0), (5, .ptr 3 0 0), (7, .ptr 4 0 0), (12, .v (.int .i64 i)), (13, .ptr 5 0 0), (15, .v (.int .i64 k))], [some [.arr 128 .u64 x], some [.arr 128 .u64 y], some [.arr 128 .u64 (List.replicate 128 0)], some [.arr 128 .u64 r], some [.arr 128 .u64 (Jj (rstK colQ z i) v (colQ i) k)], some [.arr 16 .u64 v]]⟩) 16 (by kernel_rfl) ?_ ?_ ?_
    · (refine Z1 ?_ ?_; (focus (first | with_reducible rfl | (simp only [Jj, n0] <;> with_reducible rfl))); simp only [exF, Nat.reduceEqDiff, if_true, if_false, reduceIte, Option.some.injEq, reduceCtorEq, Int.cast_ofNat_Int, Jj, n0])
    · intro k hk
      repeat (first | simp only [zdp, J1, zba, Nat.reduceBEq, reduceIte, Nat.reduceEqDiff, reduceCtorEq, ne_eq, if_true, if_false, exA, exA, tabs, exB, exD, Zl, Zp, Ze, Zi, Zn, AV.isAggV, AV.parts, AV.one, AV.solid, Zf, Zb, Zj, Zc, Zk, Zh, Zg, bndA, lenA, Zd, rowOf, Za, intsOf, Zo, Nat.reduceAdd, Nat.reduceSub, Nat.reduceMul, Nat.reduceLeDiff, Nat.reduceLT, Nat.reduceGT, Int.reduceToNat, Int.reduceLE, Int.reduceLT, Int.reduceEq, Int.reduceNe, Int.reduceAdd, Int.reduceSub, Int.reduceMul, Int.reduceNeg, ite_true, ite_false, dite_true, xc10, xc11, xc12, xc13, xc14, xc15, xc16, Zm, hr, na] | simp (maxSteps := 1000000) (disch := omega) only [exE, Int.toNat_natCast, Int.reduceToNat])
      repeat (with_reducible refine And.intro (by first | omega | assumption) ?_)
      (refine Z1 ?_ ?_; (focus (first | with_reducible rfl | (simp only [Jj, colQ] <;> with_reducible rfl))); simp only [exF, Nat.reduceEqDiff, if_true, if_false, reduceIte, Option.some.injEq, reduceCtorEq, Int.cast_ofNat_Int, Jj, colQ])
    · repeat (first | simp only [zdp, J1, zba, Nat.reduceBEq, reduceIte, Nat.reduceEqDiff, reduceCtorEq, ne_eq, if_true, if_false, exA, exA, tabs, exB, exD, Zl, Zp, Ze, Zi, Zn, AV.isAggV, AV.parts, AV.one, AV.solid, Zf, Zb, Zj, Zc, Zk, Zh, Zg, bndA, lenA, Zd, rowOf, Za, intsOf, Zo, Nat.reduceAdd, Nat.reduceSub, Nat.reduceMul, Nat.reduceLeDiff, Nat.reduceLT, Nat.reduceGT, Int.reduceToNat, Int.reduceLE, Int.reduceLT, Int.reduceEq, Int.reduceNe, Int.reduceAdd, Int.reduceSub, Int.reduceMul, Int.reduceNeg, ite_true, ite_false, dite_true, xc10, xc11, xc12, xc13, xc14, xc15, xc16, Zm, hr, na] | simp (maxSteps := 1000000) (disch := omega) only [exE, Int.toNat_natCast, Int.reduceToNat])
      (refine Z2 [0, 1, 2, 3, 4] (by decide) (by simp) (by rfl) ?_ ?_; (focus (first | with_reducible rfl | (simp only [List.map_cons, List.map_nil, List.cons_append, List.nil_append, List.getElem?_cons_zero, List.getElem?_cons_succ, renB, renL, Option.map_some, Option.map_none, AV.ren, Z4, List.getD_cons_zero, List.getD_cons_succ, rstK, hve] <;> with_reducible rfl))); simp only [exF, List.map_cons, List.map_nil, List.length_cons, List.length_nil, Nat.reduceAdd, AV.ren, renL, Z4, Nat.reduceEqDiff, if_true, if_false, reduceIte, Option.some.injEq, reduceCtorEq, Int.cast_ofNat_Int, rstK, hve])
  have h3l : (rstK colQ z 8).length = 128 := by rw [zbt, zl]
  repeat (first | simp only [zdp, J1, zba, Nat.reduceBEq, reduceIte, Nat.reduceEqDiff, reduceCtorEq, ne_eq, if_true, if_false, exA, exA, tabs, exB, exD, Zl, Zp, Ze, Zi, Zn, AV.isAggV, AV.parts, AV.one, AV.solid, Zf, Zb, Zj, Zc, Zk, Zh, Zg, bndA, lenA, Zd, rowOf, Za, intsOf, Zo, Nat.reduceAdd, Nat.reduceSub, Nat.reduceMul, Nat.reduceLeDiff, Nat.reduceLT, Nat.reduceGT, Int.reduceToNat, Int.reduceLE, Int.reduceLT, Int.reduceEq, Int.reduceNe, Int.reduceAdd, Int.reduceSub, Int.reduceMul, Int.reduceNeg, ite_true, ite_false, dite_true, xc10, xc11, xc12, xc13, xc14, xc15, xc16, Zm, hr, na] | simp (maxSteps := 1000000) (disch := omega) only [exE, Int.toNat_natCast, Int.reduceToNat])
  generalize rstK colQ z 8 = u at h3l ⊢
  refine Z3 (zfi 0) (fun i => ⟨envL [(4, .ptr 2 0 0), (5, .ptr 3 0 0), (7, .ptr 4 0 0), (16, .v (.int .i64 i))], [some [.arr 128 .u64 x], some [.arr 128 .u64 y], some [.arr 128 .u64 (List.replicate 128 0)], some [.arr 128 .u64 r], some [.arr 128 .u64 (xorK u r i)]]⟩) 128 (by kernel_rfl) ?_ ?_ ?_
  · (refine Z1 ?_ ?_; (focus (first | with_reducible rfl | (simp only [xorK, n0] <;> with_reducible rfl))); simp only [exF, Nat.reduceEqDiff, if_true, if_false, reduceIte, Option.some.injEq, reduceCtorEq, Int.cast_ofNat_Int, xorK, n0])
  · intro i hi
    repeat (first | simp only [zdp, J1, zba, Nat.reduceBEq, reduceIte, Nat.reduceEqDiff, reduceCtorEq, ne_eq, if_true, if_false, exA, exA, tabs, exB, exD, Zl, Zp, Ze, Zi, Zn, AV.isAggV, AV.parts, AV.one, AV.solid, Zf, Zb, Zj, Zc, Zk, Zh, Zg, bndA, lenA, Zd, rowOf, Za, intsOf, Zo, Nat.reduceAdd, Nat.reduceSub, Nat.reduceMul, Nat.reduceLeDiff, Nat.reduceLT, Nat.reduceGT, Int.reduceToNat, Int.reduceLE, Int.reduceLT, Int.reduceEq, Int.reduceNe, Int.reduceAdd, Int.reduceSub, Int.reduceMul, Int.reduceNeg, ite_true, ite_false, dite_true, xc10, xc11, xc12, xc13, xc14, xc15, xc16, Zm, hr, na] | simp (maxSteps := 1000000) (disch := omega) only [exE, Int.toNat_natCast, Int.reduceToNat])
    repeat (with_reducible refine And.intro (by first | omega | assumption) ?_)
    (refine Z1 ?_ ?_; (focus (first | with_reducible rfl | (simp only [xorK] <;> with_reducible rfl))); simp only [exF, Nat.reduceEqDiff, if_true, if_false, reduceIte, Option.some.injEq, reduceCtorEq, Int.cast_ofNat_Int, xorK])
  have h4l : (xorK u r 128).length = 128 := by rw [Qu, h3l]
  have h4t := zdx h4l
  repeat (first | simp only [zdp, J1, zba, Nat.reduceBEq, reduceIte, Nat.reduceEqDiff, reduceCtorEq, ne_eq, if_true, if_false, exA, exA, tabs, exB, exD, Zl, Zp, Ze, Zi, Zn, AV.isAggV, AV.parts, AV.one, AV.solid, Zf, Zb, Zj, Zc, Zk, Zh, Zg, bndA, lenA, Zd, rowOf, Za, intsOf, Zo, Nat.reduceAdd, Nat.reduceSub, Nat.reduceMul, Nat.reduceLeDiff, Nat.reduceLT, Nat.reduceGT, Int.reduceToNat, Int.reduceLE, Int.reduceLT, Int.reduceEq, Int.reduceNe, Int.reduceAdd, Int.reduceSub, Int.reduceMul, Int.reduceNeg, ite_true, ite_false, dite_true, xc10, xc11, xc12, xc13, xc14, xc15, xc16, Zm, hr, na, h4t] | simp (maxSteps := 1000000) (disch := omega) only [exE, Int.toNat_natCast, Int.reduceToNat])
end Go.Proofs.Ytfnfmbikooeiaaa
namespace Go.Proofs.Ytfnfmbikooeiaaa
open Go.Ax
theorem extD {l m : List Int} (hl : l.length = m.length) (h : ∀ i, i < l.length → l.getD i 0 = m.getD i 0) : l = m := by
  apply List.ext_getElem hl
  intro i h1 h2
  have := h i h1
  simpa [List.getD_eq_getElem?_getD, h1, h2] using this
theorem za8 (l : List Int) (i j : Nat) (x : Int) (hi : i < l.length) : (l.set i x).getD j 0 = if i = j then x else l.getD j 0 := by
  simp only [List.getD_eq_getElem?_getD, List.getElem?_set]
  split
  · rename_i h; subst h; simp [hi]
  · rfl
theorem zcd (z v : List Int) (q : Nat → Nat) : ∀ n, (∀ i j, i < n → j < n → q i = q j → i = j) → (∀ i, i < n → q i < z.length) → ∀ k, k < n → (Jj z v q n).getD (q k) 0 = v.getD k 0
  | 0, _, _, k, hk => by omega
  | n + 1, hi, hl, k, hk => by
    simp only [Jj]
    rw [za8 _ _ _ _ (by rw [zc0]; exact hl n (by omega))]
    split
    · rename_i h
      rw [hi n k (by omega) hk h]
    · rename_i h
      exact zcd z v q n (fun i j a b => hi i j (by omega) (by omega)) (fun i a => hl i (by omega)) k (by
        have : k ≠ n := by rintro rfl; exact h rfl
        omega)
theorem zft (z v : List Int) (q : Nat → Nat) : ∀ n j, (∀ i, i < n → q i < z.length) → (∀ i, i < n → q i ≠ j) → (Jj z v q n).getD j 0 = z.getD j 0
  | 0, j, _, _ => rfl
  | n + 1, j, hl, hj => by
    simp only [Jj]
    rw [za8 _ _ _ _ (by rw [zc0]; exact hl n (by omega)), if_neg (hj n (by omega))]
    exact zft z v q n j (fun i a => hl i (by omega)) (fun i a => hj i (by omega))
theorem zrv (z v : List Int) (q : Nat → Nat) (n a : Nat) (t : Int) (hi : ∀ i j, i < n → j < n → q i = q j → i = j) (hl : ∀ i, i < n → q i < z.length) (ha : a < n) (hv : n ≤ v.length) :
    (Jj z v q n).set (q a) t = Jj z (v.set a t) q n := by
  refine extD (by simp [zc0]) ?_
  intro j hj
  rw [za8 _ _ _ _ (by rw [zc0]; exact hl a ha)]
  by_cases h : ∃ k, k < n ∧ q k = j
  · obtain ⟨k, hk, rfl⟩ := h
    rw [zcd z _ q n hi hl k hk, zcd z _ q n hi hl k hk, za8 _ _ _ _ (by omega)]
    by_cases hak : a = k
    · subst hak; rw [if_pos rfl, if_pos rfl]
    · rw [if_neg hak, if_neg (fun e => hak (hi a k ha hk e))]
  · have hn : ∀ i, i < n → q i ≠ j := fun i a e => h ⟨i, a, e⟩
    rw [zft z _ q n j hl hn, zft z _ q n j hl hn, if_neg (hn a ha)]
section
variable {z : List Int} {q : Nat → Nat} (hi : ∀ i j, i < 16 → j < 16 → q i = q j → i = j) (hl : ∀ i, i < 16 → q i < z.length)
include hi hl
theorem z3f {v : List Int} (hv : v.length = 16) {x y : Nat} (hx : x < 16) (hy : y < 16) : zlm (Jj z v q 16) (q x) (q y) = Jj z (zlm v x y) q 16 := by
  unfold zlm
  rw [zcd z v q 16 hi hl x hx, zcd z v q 16 hi hl y hy, zrv z v q 16 x _ hi hl hx (by omega)]
theorem z12 {v : List Int} (hv : v.length = 16) {x y : Nat} (hx : x < 16) (hy : y < 16) (n : Int) : ze0 (Jj z v q 16) (q x) (q y) n = Jj z (ze0 v x y n) q 16 := by
  unfold ze0
  rw [zcd z v q 16 hi hl x hx, zcd z v q 16 hi hl y hy, zrv z v q 16 x _ hi hl hx (by omega)]
theorem zic {v : List Int} (hv : v.length = 16) {x y w : Nat} (hx : x < 16) (hy : y < 16) (hw : w < 16) (n : Int) : zgy (Jj z v q 16) (q x) (q y) (q w) n = Jj z (zgy v x y w n) q 16 := by
  unfold zgy
  rw [z3f hi hl hv hx hy, z12 hi hl (by simp [zlm, hv]) hw hx]
theorem z16 {v : List Int} (hv : v.length = 16) {a b c d : Nat} (ha : a < 16) (hb : b < 16) (hc : c < 16) (hd : d < 16) : zjb (Jj z v q 16) (q a) (q b) (q c) (q d) = Jj z (zjb v a b c d) q 16 := by
  have hs : ∀ (v : List Int) x y w n, (zgy v x y w n).length = v.length := by intro v x y w n; simp [zgy, zlm, ze0]
  unfold zjb
  rw [zic hi hl hv ha hb hd, zic hi hl (by rw [hs, hv]) hc hd hb, zic hi hl (by rw [hs, hs, hv]) ha hb hd, zic hi hl (by rw [hs, hs, hs, hv]) hc hd hb]
theorem zxm {v : List Int} (hv : v.length = 16) : ∀ i, allK (Jj z v q 16) q i = Jj z (allK v (fun j => j) i) q 16
  | 0 => rfl
  | i + 1 => by
    simp only [allK]
    rw [zxm hv i]
    have hL : (allK v (fun j => j) i).length = 16 := by rw [zh5, hv]
    exact z16 hi hl hL (by omega) (by omega) (by omega) (by omega)
end
theorem zhs (z : List Int) (q : Nat → Nat) : ∀ n, n ≤ 16 → ∀ k, k < n → (zah z q n).getD k 0 = z.getD (q k) 0
  | 0, _, k, hk => by omega
  | n + 1, hn, k, hk => by
    simp only [zah]
    rw [za8 _ _ _ _ (by rw [zaw]; omega)]
    split
    · rename_i h; rw [h]
    · exact zhs z q n (by omega) k (by omega)
theorem z2h (z : List Int) (q : Nat → Nat) (hi : ∀ i j, i < 16 → j < 16 → q i = q j → i = j) (hl : ∀ i, i < 16 → q i < z.length) : Jj z (zah z q 16) q 16 = z := by
  refine extD (by rw [zc0]) ?_
  intro j hj
  by_cases h : ∃ k, k < 16 ∧ q k = j
  · obtain ⟨k, hk, rfl⟩ := h
    rw [zcd z _ q 16 hi hl k hk, zhs z q 16 (by omega) k hk]
  · exact zft z _ q 16 j hl (fun i a e => h ⟨i, a, e⟩)
theorem z3v (z : List Int) (q : Nat → Nat) (hi : ∀ i j, i < 16 → j < 16 → q i = q j → i = j) (hl : ∀ i, i < 16 → q i < z.length) :
    allK z q 8 = Jj z (allK (zah z q 16) (fun j => j) 8) q 16 := by
  rw [← zxm hi hl (zaw z q 16), z2h z q hi hl]
theorem z0c (i : Nat) : ∀ a b, a < 16 → b < 16 → rowQ i a = rowQ i b → a = b := by unfold rowQ; omega
theorem z09 (i : Nat) (h : i < 8) : ∀ a b, a < 16 → b < 16 → colQ i a = colQ i b → a = b := by unfold colQ; omega
theorem z0d {i : Nat} (h : i < 8) {n : Nat} (hn : n = 128) : ∀ a, a < 16 → rowQ i a < n := by unfold rowQ; omega
theorem z1a {i : Nat} (h : i < 8) {n : Nat} (hn : n = 128) : ∀ a, a < 16 → colQ i a < n := by unfold colQ; omega
theorem Q3.rep (n : Nat) : Q3 (List.replicate n 0) := by
  intro i
  rw [List.getD_eq_getElem?_getD, List.getElem?_replicate]
  split <;> simp
theorem Q3.gath {z : List Int} (hz : Q3 z) (q : Nat → Nat) : ∀ n, Q3 (zah z q n)
  | 0 => Q3.rep 16
  | n + 1 => (Q3.gath hz q n).set _ (hz _)
theorem zoq (Q : Nat → Nat → Nat) {z : List Int} (hz : Q3 z) : ∀ i, Q3 (Jx Q z i)
  | 0 => hz
  | i + 1 => zn8 (zoq Q hz i) (Q i) 8
theorem zox (Q : Nat → Nat → Nat) {z : List Int} (hz : Q3 z) (hl : z.length = 128) (h1 : ∀ i, i < 8 → ∀ a b, a < 16 → b < 16 → Q i a = Q i b → a = b) (h2 : ∀ i, i < 8 → ∀ a, a < 16 → Q i a < 128) :
    ∀ i, i ≤ 8 → rstK Q z i = Jx Q z i
  | 0, _ => rfl
  | i + 1, h => by
    have hs : (Jx Q z i).length = 128 := by rw [zat, hl]
    simp only [rstK, Jx]
    rw [zox Q hz hl h1 h2 i (by omega), z3v _ _ (h1 i (by omega)) (by rw [hs]; exact h2 i (by omega)), ← z4o ((zoq Q hz i).gath (Q i) 16)]
theorem znr (x y : List Int) : ∀ n, n ≤ x.length → ∀ k, (xorK x y n).getD k 0 = if k < n then xorU (x.getD k 0) (y.getD k 0) else x.getD k 0
  | 0, _, k => by simp [xorK]
  | n + 1, hn, k => by
    simp only [xorK]
    rw [za8 _ _ _ _ (by rw [Qu]; omega), znr x y n (by omega) n, znr x y n (by omega) k, if_neg (Nat.lt_irrefl n)]
    by_cases h : n = k
    · subst h; rw [if_pos rfl, if_pos (by omega)]
    · rw [if_neg h]
      by_cases h2 : k < n
      · rw [if_pos h2, if_pos (by omega)]
      · rw [if_neg h2, if_neg (by omega)]
theorem z47 (x y : List Int) : ∀ n, n ≤ 128 → ∀ k, k < n → (rxK x y n).getD k 0 = xorU (x.getD k 0) (y.getD k 0)
  | 0, _, k, hk => by omega
  | n + 1, hn, k, hk => by
    simp only [rxK]
    rw [za8 _ _ _ _ (by rw [zko]; omega)]
    split
    · rename_i h; rw [h]
    · exact z47 x y n (by omega) k (by omega)
theorem z46 (x y : List Int) (hx : x.length = 128) : rxK x y 128 = xorK x y 128 := by
  refine extD (by rw [zko, Qu, hx]) ?_
  intro i h
  rw [zko] at h
  rw [z47 x y 128 (by omega) i h, znr x y 128 (by omega) i, if_pos h]
theorem z79 (x y : Int) : 0 ≤ xorU x y := zxv _
theorem zzs {x : List Int} (y : List Int) (hx : Q3 x) : ∀ n, Q3 (xorK x y n)
  | 0 => hx
  | n + 1 => (zzs y hx n).set _ (z79 _ _)
theorem z2y {x y : List Int} (hx : x.length = 128) (nx : Q3 x) : ze2 x y = Ys x y := by
  unfold ze2 Ys znu zpk
  rw [z46 x y hx]
  have hr : (xorK x y 128).length = 128 := by rw [Qu, hx]
  have nr := zzs y nx 128
  generalize xorK x y 128 = r at hr nr ⊢
  rw [zox rowQ nr hr (fun i _ => z0c i) (fun i h => z0d h rfl) 8 (by omega)]
  rw [zox colQ (zoq rowQ nr 8) (by rw [zat, hr]) (fun i h => z09 i h) (fun i h => z1a h rfl) 8 (by omega)]
end Go.Proofs.Ytfnfmbikooeiaaa
namespace Go.Proofs.Ytfnfmbikooeiaaa
open Go.Ax
theorem z85 (x c : Nat) (k : Nat) (hk : k < 8) (hx : x < 2 ^ (8 * k)) (hc : c < 256) :
    orU (x : Int) (shl .u64 (IntKind.u64.wrap (c : Int)) ((8 * k : Nat) : Int)) = ((x + c * 2 ^ (8 * k) : Nat) : Int) := by
  have hp : 2 ^ (8 * k) * 256 ≤ 18446744073709551616 := by
    have h1 : 2 ^ (8 * k) ≤ 2 ^ 56 := Nat.pow_le_pow_right (by omega) (by omega)
    have h2 : (2 : Nat) ^ 56 * 256 = 18446744073709551616 := by decide
    omega
  have hcp : c * 2 ^ (8 * k) ≤ 255 * 2 ^ (8 * k) := Nat.mul_le_mul_right _ (by omega)
  have hs : shl .u64 (IntKind.u64.wrap (c : Int)) ((8 * k : Nat) : Int) = ((c * 2 ^ (8 * k) : Nat) : Int) := by
    have hm : min ((8 * k : Nat) : Int).toNat IntKind.u64.bits = 8 * k := by
      have : IntKind.u64.bits = 64 := rfl
      rw [Int.toNat_natCast, this]; omega
    unfold shl
    have hcw : IntKind.u64.wrap (c : Int) = c := by rw [zas, Int.emod_eq_of_lt (by omega) (by omega)]
    have hpw : (c : Int) * 2 ^ (8 * k) = ((c * 2 ^ (8 * k) : Nat) : Int) := by rw [Int.natCast_mul, Int.natCast_pow]; rfl
    rw [hm, hcw, hpw, zas]
    exact Int.emod_eq_of_lt (by omega) (by omega)
  rw [hs]
  unfold orU
  have h1 : (BitVec.ofInt IntKind.u64.bits (x : Int)).toNat = x := by
    rw [BitVec.toNat_ofInt]
    show ((x : Int) % ((2 ^ 64 : Nat) : Int)).toNat = x
    omega
  have h2 : (BitVec.ofInt IntKind.u64.bits ((c * 2 ^ (8 * k) : Nat) : Int)).toNat = c * 2 ^ (8 * k) := by
    rw [BitVec.toNat_ofInt]
    show (((c * 2 ^ (8 * k) : Nat) : Int) % ((2 ^ 64 : Nat) : Int)).toNat = _
    omega
  rw [BitVec.toNat_or, h1, h2]
  have h3 : x ||| c * 2 ^ (8 * k) = x + c * 2 ^ (8 * k) := by
    rw [Nat.or_comm, ← Nat.shiftLeft_eq, ← Nat.shiftLeft_add_eq_or_of_lt hx, Nat.shiftLeft_eq]; omega
  rw [h3, zas]
  omega
def leK (c : Nat → Nat) : Nat → Nat
  | 0 => 0
  | k + 1 => leK c k + c k * 2 ^ (8 * k)
theorem z6a (c : Nat → Nat) (hc : ∀ k, c k < 256) : ∀ k, leK c k < 2 ^ (8 * k)
  | 0 => by simp [leK]
  | k + 1 => by
    have h1 := z6a c hc k
    have h2 := hc k
    have h3 : 2 ^ (8 * (k + 1)) = 256 * 2 ^ (8 * k) := by rw [show 8 * (k + 1) = 8 + 8 * k by omega, Nat.pow_add]
    have h4 : c k * 2 ^ (8 * k) ≤ 255 * 2 ^ (8 * k) := Nat.mul_le_mul_right _ (by omega)
    simp only [leK]; omega
def Bts (b : List Int) : Prop := ∀ i, 0 ≤ b.getD i 0 ∧ b.getD i 0 < 256
def Wds (b : List Int) : Prop := ∀ i, 0 ≤ b.getD i 0 ∧ b.getD i 0 < 18446744073709551616
theorem zs4 (b p : List Int) (hb : Bts b) (j : Nat) (hj : j < p.length) (hz : p.getD j 0 = 0) : ∀ k, k ≤ 8 → (zb6 b p j k).getD j 0 = (leK (fun m => (b.getD (8 * j + m) 0).toNat) k : Nat)
  | 0, _ => hz
  | k + 1, hk => by
    simp only [zb6, zgx, leK]
    rw [za8 _ _ _ _ (by rw [zj3]; exact hj), if_pos rfl, zs4 b p hb j hj hz k (by omega)]
    have h1 := hb (8 * j + k)
    have h2 := z85 (leK (fun m => (b.getD (8 * j + m) 0).toNat) k) (b.getD (8 * j + k) 0).toNat k (by omega) (z6a _ (fun m => by have := hb (8 * j + m); omega) k) (by omega)
    rw [Int.toNat_of_nonneg h1.1] at h2
    exact h2
theorem zls (b p : List Int) (j i : Nat) (hj : j < p.length) (hij : i ≠ j) : ∀ k, (zb6 b p j k).getD i 0 = p.getD i 0
  | 0 => rfl
  | k + 1 => by
    simp only [zb6, zgx]
    rw [za8 _ _ _ _ (by rw [zj3]; exact hj), if_neg (fun e => hij e.symm)]
    exact zls b p j i hj hij k
theorem zkq (b : List Int) (hb : Bts b) : ∀ n, n ≤ 128 → ∀ j, j < 128 → (Qw b (8 * n)).getD j 0 = if j < n then ((leK (fun m => (b.getD (8 * j + m) 0).toNat) 8 : Nat) : Int) else 0
  | 0, _, j, hj => by
    show (List.replicate 128 (0 : Int)).getD j 0 = _
    rw [List.getD_eq_getElem?_getD, List.getElem?_replicate, if_pos hj]; rfl
  | n + 1, hn, j, hj => by
    have h1 := zgr b n 8 (by omega)
    rw [show 8 * (n + 1) = 8 * n + 8 by omega, ← h1]
    have hl := Jg b (8 * n)
    by_cases h : j = n
    · subst h
      rw [zs4 b _ hb j (by omega) (by rw [zkq b hb j (by omega) j hj, if_neg (Nat.lt_irrefl j)]) 8 (by omega), if_pos (by omega)]
    · rw [zls b _ n j (by omega) h, zkq b hb n (by omega) j hj]
      by_cases h2 : j < n
      · rw [if_pos h2, if_pos (by omega)]
      · rw [if_neg h2, if_neg (by omega)]
theorem ylk (c : Nat → Nat) : leK c 8 = c 0 + c 1 * 256 + c 2 * 65536 + c 3 * 16777216 + c 4 * 4294967296 + c 5 * 1099511627776 + c 6 * 281474976710656 + c 7 * 72057594037927936 := by
  simp [leK]
theorem z42 (w : Nat) (k : Nat) (hk : k < 8) : IntKind.u8.wrap (shr .u64 (w : Int) ((8 * k : Nat) : Int)) = ((w / 2 ^ (8 * k) % 256 : Nat) : Int) := by
  have hm : min ((8 * k : Nat) : Int).toNat IntKind.u64.bits = 8 * k := by
    have : IntKind.u64.bits = 64 := rfl
    rw [Int.toNat_natCast, this]; omega
  unfold shr
  rw [hm, Int.fdiv_eq_ediv_of_nonneg _ (Int.pow_nonneg (by omega)), wrap_u8']
  rw [Int.natCast_emod, Int.natCast_ediv, Int.natCast_pow]; rfl
end Go.Proofs.Ytfnfmbikooeiaaa
namespace Go.Proofs.Ytfnfmbikooeiaaa
open Go.Ax Go.Kn
theorem zcw {α : Type} (n : Nat) (k : Nat → α) : fc n k = k n := by cases n <;> rfl
theorem z9j {α : Type} (a : Nat) (l : List Nat) (k : Nat → List Nat → α) : hd (a :: l) k = k a l := rfl
def padN (n : Nat) (l : List Nat) : List Nat := l.take n ++ List.replicate (n - l.length) 0
theorem z20 {n : Nat} {l : List Nat} (h : n ≤ l.length) : padN n l = l.take n := by
  unfold padN; rw [Nat.sub_eq_zero_of_le h]; simp
theorem zth {α : Type} : ∀ (n : Nat) (l : List Nat) (k : List Nat → List Nat → α), tkC n l k = k (padN n l) (l.drop n)
  | 0, l, k => by
    show k [] l = _
    simp [padN]
  | n + 1, [], k => by
    show tkC n [] (fun t r => k (0 :: t) r) = _
    rw [zth n [] _]
    simp [padN, List.replicate_succ]
  | n + 1, a :: l, k => by
    show tkC n l (fun t r => k (a :: t) r) = _
    rw [zth n l _]
    simp [padN]
theorem zeg {α : Type} {n : Nat} {l : List Nat} (k : List Nat → List Nat → α) (h : n ≤ l.length) : tkC n l k = k (l.take n) (l.drop n) := by rw [zth, z20 h]
theorem zuf {α : Type} : ∀ (x y : List Nat) (k : List Nat → α), x.length ≤ y.length → zx x y k = k (List.zipWith xM x y)
  | [], y, k, _ => by simp [zx]
  | a :: x, [], k, h => by simp at h
  | a :: x, b :: y, k, h => by
    show fc (xM a b) (fun c => zx x y fun l => k (c :: l)) = _
    rw [zcw, zuf x y _ (by simpa using h)]
    rfl
theorem ybg : ∀ (n : Nat) (l : List Nat), dr n l = l.drop n
  | 0, l => rfl
  | n + 1, [] => by
    show ([] : List Nat) = _
    simp
  | n + 1, a :: l => by
    show dr n l = _
    rw [ybg n l]; rfl
theorem z6k : ∀ (l : List Nat) (i : Nat), gt l i = l.getD i 0
  | [], i => rfl
  | a :: l, 0 => rfl
  | a :: l, i + 1 => by
    show gt l i = _
    rw [z6k l i]; rfl
theorem zj8 {α : Type} : ∀ (x t : List Nat) (k : List Nat → α), apC x t k = k (x ++ t)
  | [], t, k => rfl
  | a :: x, t, k => by
    show apC x t (fun l => k (a :: l)) = _
    rw [zj8 x t _]; rfl
theorem z6w {α : Type} : ∀ (t : List (List Nat)) (k : List Nat → α), flC t k = k t.flatten
  | [], k => rfl
  | a :: t, k => by
    show flC t (fun l => apC a l k) = _
    rw [z6w t _, zj8]; rfl
def zc (l : List Nat) : List Int := l.map (fun x : Nat => (x : Int))
theorem J9 (l : List Nat) : (zc l).length = l.length := by simp [zc]
theorem Y1 (l : List Nat) (i : Nat) : (zc l).getD i 0 = ((l.getD i 0 : Nat) : Int) := by
  unfold zc
  rw [List.getD_eq_getElem?_getD, List.getElem?_map, List.getD_eq_getElem?_getD]
  cases l[i]? <;> rfl
theorem zte (l : List Nat) (i x : Nat) : (zc l).set i (x : Int) = zc (l.set i x) := by unfold zc; rw [List.map_set]
theorem zf9 (a b : List Nat) : zc (a ++ b) = zc a ++ zc b := by simp [zc]
theorem znp (l : List Nat) (n : Nat) : (zc l).take n = zc (l.take n) := by simp [zc, List.map_take]
theorem znq (l : List Nat) (n : Nat) : (zc l).drop n = zc (l.drop n) := by simp [zc, List.map_drop]
theorem ztf (n x : Nat) : zc (List.replicate n x) = List.replicate n (x : Int) := by simp [zc]
theorem zfa (x : Nat) : (BitVec.ofInt IntKind.u64.bits (x : Int)).toNat = x % 18446744073709551616 := by
  rw [BitVec.toNat_ofInt]
  show ((x : Int) % ((2 ^ 64 : Nat) : Int)).toNat = _
  omega
theorem zdd (x y : Nat) : xorU (x : Int) (y : Int) = ((xM x y : Nat) : Int) := by
  unfold xorU xM
  rw [wrap_u64, BitVec.toNat_xor, zfa, zfa, show Nat.xor x y = x ^^^ y from rfl, show Nat.mod (x ^^^ y) 18446744073709551616 = (x ^^^ y) % 2 ^ 64 from rfl, Nat.xor_mod_two_pow]
  have h : x % 2 ^ 64 ^^^ y % 2 ^ 64 < 2 ^ 64 := Nat.xor_lt_two_pow (Nat.mod_lt _ (by decide)) (Nat.mod_lt _ (by decide))
  have h2 : x % 18446744073709551616 ^^^ y % 18446744073709551616 < 18446744073709551616 := h
  show ((x % 18446744073709551616 ^^^ y % 18446744073709551616 : Nat) : Int) % 18446744073709551616 = ((x % 18446744073709551616 ^^^ y % 18446744073709551616 : Nat) : Int)
  omega
theorem z2x (x y : Nat) : zk3 (x : Int) (y : Int) = ((fP x y : Nat) : Int) := by
  unfold zk3 fP
  rw [show ((x : Int)).tmod 4294967296 = ((x % 4294967296 : Nat) : Int) from rfl, show ((y : Int)).tmod 4294967296 = ((y % 4294967296 : Nat) : Int) from rfl]
  simp only [wrap_u64]
  show _ = (((x + y + 2 * (x % 4294967296 * (y % 4294967296))) % 18446744073709551616 : Nat) : Int)
  have h1 : x % 4294967296 < 4294967296 := Nat.mod_lt _ (by decide)
  have h2 : (2 * ((x % 4294967296 : Nat) : Int)) % 18446744073709551616 = 2 * ((x % 4294967296 : Nat) : Int) := by omega
  rw [h2]
  obtain ⟨z, hz⟩ : ∃ z : Nat, x % 4294967296 * (y % 4294967296) = z := ⟨_, rfl⟩
  have hz2 : 2 * ((x % 4294967296 : Nat) : Int) * ((y % 4294967296 : Nat) : Int) = 2 * (z : Int) := by rw [← hz, Int.natCast_mul, Int.mul_assoc]
  rw [hz, hz2]
  omega
theorem z5h (n m : Nat) (x y : Nat) (hn : n + m = 64) (h1 : 1 ≤ n) (h2 : 1 ≤ m) : rotR (n : Int) (xorU (x : Int) (y : Int)) = ((rx n m x y : Nat) : Int) := by
  rw [zdd]
  unfold rx
  rw [zcw]
  have hz : xM x y < 18446744073709551616 := Nat.mod_lt _ (by decide)
  obtain ⟨z, hzz⟩ : ∃ z, xM x y = z := ⟨_, rfl⟩
  rw [hzz] at hz ⊢
  have hm : IntKind.i64.wrap (64 - (n : Int)) = (m : Int) := by rw [Z5 _ (by omega)]; omega
  have e1 : shr IntKind.u64 (z : Int) (n : Int) = ((z >>> n : Nat) : Int) := by
    unfold shr
    have hmm : min (n : Int).toNat IntKind.u64.bits = n := by have : IntKind.u64.bits = 64 := rfl; rw [Int.toNat_natCast, this]; omega
    rw [hmm, Int.fdiv_eq_ediv_of_nonneg _ (Int.pow_nonneg (by omega)), Nat.shiftRight_eq_div_pow, Int.natCast_ediv, Int.natCast_pow]; rfl
  have e2 : shl IntKind.u64 (z : Int) (m : Int) = (((z <<< m) % 18446744073709551616 : Nat) : Int) := by
    unfold shl
    have hmm : min (m : Int).toNat IntKind.u64.bits = m := by have : IntKind.u64.bits = 64 := rfl; rw [Int.toNat_natCast, this]; omega
    rw [hmm, wrap_u64, Nat.shiftLeft_eq, Int.natCast_emod, Int.natCast_mul, Int.natCast_pow]; rfl
  unfold rotR
  rw [hm, e1, e2, wrap_u64, BitVec.toNat_or, zfa, zfa]
  show _ = (((z >>> n ||| z <<< m) % 18446744073709551616 : Nat) : Int)
  rw [Nat.mod_mod, show (18446744073709551616 : Nat) = 2 ^ 64 from rfl, ← Nat.or_mod_two_pow]
  obtain ⟨u, hu⟩ : ∃ u, z >>> n ||| z <<< m = u := ⟨_, rfl⟩
  rw [hu]
  show ((u % 18446744073709551616 : Nat) : Int) % 18446744073709551616 = ((u % 18446744073709551616 : Nat) : Int)
  omega
noncomputable def gA (a b c d : Nat) : Nat := fP (fP a b) (rx 24 40 b (fP c (rx 32 32 d (fP a b))))
noncomputable def gD (a b c d : Nat) : Nat := rx 16 48 (rx 32 32 d (fP a b)) (gA a b c d)
noncomputable def gC (a b c d : Nat) : Nat := fP (fP c (rx 32 32 d (fP a b))) (gD a b c d)
noncomputable def gE (a b c d : Nat) : Nat := rx 63 1 (rx 24 40 b (fP c (rx 32 32 d (fP a b)))) (gC a b c d)
theorem yln {α : Type} (a b c d : Nat) (k : Nat → Nat → Nat → Nat → α) : gP a b c d k = k (gA a b c d) (gE a b c d) (gC a b c d) (gD a b c d) := by
  unfold gP
  simp only [zcw]
  rfl
noncomputable def zpe (l : List Nat) (a b : Nat) : List Nat := l.set a (fP (l.getD a 0) (l.getD b 0))
noncomputable def zfn (n m : Nat) (l : List Nat) (z x : Nat) : List Nat := l.set z (rx n m (l.getD z 0) (l.getD x 0))
noncomputable def zb9 (l : List Nat) (a b c d : Nat) : List Nat :=
  zfn 63 1 (zpe (zfn 16 48 (zpe (zfn 24 40 (zpe (zfn 32 32 (zpe l a b) d a) c d) b c) a b) d a) c d) b c
theorem zny (l : List Nat) (a b : Nat) : zgz (zc l) a b = zc (zpe l a b) := by unfold zgz zpe; rw [Y1, Y1, z2x, zte]
theorem zki (n m : Nat) (l : List Nat) (z x : Nat) (hn : n + m = 64) (h1 : 1 ≤ n) (h2 : 1 ≤ m) : zct (zc l) z x (n : Int) = zc (zfn n m l z x) := by
  unfold zct zfn; rw [Y1, Y1, z5h n m _ _ hn h1 h2, zte]
theorem z9m (l : List Nat) (a b c d : Nat) : zai (zc l) a b c d = zc (zb9 l a b c d) := by
  have h1 := fun l z x => zki 32 32 l z x rfl (by decide) (by decide)
  have h2 := fun l z x => zki 24 40 l z x rfl (by decide) (by decide)
  have h3 := fun l z x => zki 16 48 l z x rfl (by decide) (by decide)
  have h4 := fun l z x => zki 63 1 l z x rfl (by decide) (by decide)
  simp only [Int.cast_ofNat_Int] at h1 h2 h3 h4
  unfold zai zb9
  rw [zny, h1, zny, h2, zny, h3, zny, h4]
noncomputable def Jb (l : List Nat) : List Nat :=
  zb9 (zb9 (zb9 (zb9 (zb9 (zb9 (zb9 (zb9 l 0 4 8 12) 1 5 9 13) 2 6 10 14) 3 7 11 15) 0 5 10 15) 1 6 11 12) 2 7 8 13) 3 4 9 14
theorem z5a (l : List Nat) : zce (zc l) = zc (Jb l) := by unfold zce Jb; simp only [z9m]
theorem yc2 (v0 v1 v2 v3 v4 v5 v6 v7 v8 v9 v10 v11 v12 v13 v14 v15 : Nat) : zb9 [v0, v1, v2, v3, v4, v5, v6, v7, v8, v9, v10, v11, v12, v13, v14, v15] 0 4 8 12 = [gA v0 v4 v8 v12, v1, v2, v3, gE v0 v4 v8 v12, v5, v6, v7, gC v0 v4 v8 v12, v9, v10, v11, gD v0 v4 v8 v12, v13, v14, v15] := rfl
theorem yc1 (v0 v1 v2 v3 v4 v5 v6 v7 v8 v9 v10 v11 v12 v13 v14 v15 : Nat) : zb9 [v0, v1, v2, v3, v4, v5, v6, v7, v8, v9, v10, v11, v12, v13, v14, v15] 1 5 9 13 = [v0, gA v1 v5 v9 v13, v2, v3, v4, gE v1 v5 v9 v13, v6, v7, v8, gC v1 v5 v9 v13, v10, v11, v12, gD v1 v5 v9 v13, v14, v15] := rfl
theorem yc0 (v0 v1 v2 v3 v4 v5 v6 v7 v8 v9 v10 v11 v12 v13 v14 v15 : Nat) : zb9 [v0, v1, v2, v3, v4, v5, v6, v7, v8, v9, v10, v11, v12, v13, v14, v15] 2 6 10 14 = [v0, v1, gA v2 v6 v10 v14, v3, v4, v5, gE v2 v6 v10 v14, v7, v8, v9, gC v2 v6 v10 v14, v11, v12, v13, gD v2 v6 v10 v14, v15] := rfl
theorem ycz (v0 v1 v2 v3 v4 v5 v6 v7 v8 v9 v10 v11 v12 v13 v14 v15 : Nat) : zb9 [v0, v1, v2, v3, v4, v5, v6, v7, v8, v9, v10, v11, v12, v13, v14, v15] 3 7 11 15 = [v0, v1, v2, gA v3 v7 v11 v15, v4, v5, v6, gE v3 v7 v11 v15, v8, v9, v10, gC v3 v7 v11 v15, v12, v13, v14, gD v3 v7 v11 v15] := rfl
theorem ycy (v0 v1 v2 v3 v4 v5 v6 v7 v8 v9 v10 v11 v12 v13 v14 v15 : Nat) : zb9 [v0, v1, v2, v3, v4, v5, v6, v7, v8, v9, v10, v11, v12, v13, v14, v15] 0 5 10 15 = [gA v0 v5 v10 v15, v1, v2, v3, v4, gE v0 v5 v10 v15, v6, v7, v8, v9, gC v0 v5 v10 v15, v11, v12, v13, v14, gD v0 v5 v10 v15] := rfl
theorem ycx (v0 v1 v2 v3 v4 v5 v6 v7 v8 v9 v10 v11 v12 v13 v14 v15 : Nat) : zb9 [v0, v1, v2, v3, v4, v5, v6, v7, v8, v9, v10, v11, v12, v13, v14, v15] 1 6 11 12 = [v0, gA v1 v6 v11 v12, v2, v3, v4, v5, gE v1 v6 v11 v12, v7, v8, v9, v10, gC v1 v6 v11 v12, gD v1 v6 v11 v12, v13, v14, v15] := rfl
theorem ycw (v0 v1 v2 v3 v4 v5 v6 v7 v8 v9 v10 v11 v12 v13 v14 v15 : Nat) : zb9 [v0, v1, v2, v3, v4, v5, v6, v7, v8, v9, v10, v11, v12, v13, v14, v15] 2 7 8 13 = [v0, v1, gA v2 v7 v8 v13, v3, v4, v5, v6, gE v2 v7 v8 v13, gC v2 v7 v8 v13, v9, v10, v11, v12, gD v2 v7 v8 v13, v14, v15] := rfl
theorem ycv (v0 v1 v2 v3 v4 v5 v6 v7 v8 v9 v10 v11 v12 v13 v14 v15 : Nat) : zb9 [v0, v1, v2, v3, v4, v5, v6, v7, v8, v9, v10, v11, v12, v13, v14, v15] 3 4 9 14 = [v0, v1, v2, gA v3 v4 v9 v14, gE v3 v4 v9 v14, v5, v6, v7, v8, gC v3 v4 v9 v14, v10, v11, v12, v13, gD v3 v4 v9 v14, v15] := rfl
theorem z8k {α : Type} (v0 v1 v2 v3 v4 v5 v6 v7 v8 v9 v10 v11 v12 v13 v14 v15 : Nat) (K : List Nat → α) : (stir v0 v1 v2 v3 v4 v5 v6 v7 v8 v9 v10 v11 v12 v13 v14 v15 fun v0 v1 v2 v3 v4 v5 v6 v7 v8 v9 v10 v11 v12 v13 v14 v15 => K [v0, v1, v2, v3, v4, v5, v6, v7, v8, v9, v10, v11, v12, v13, v14, v15]) = K (Jb [v0, v1, v2, v3, v4, v5, v6, v7, v8, v9, v10, v11, v12, v13, v14, v15]) := by
  unfold stir Jb
  simp only [yln, yc2, yc1, yc0, ycz, ycy, ycx, ycw, ycv]
theorem ex16 {l : List Nat} (h : l.length = 16) : ∃ v0 v1 v2 v3 v4 v5 v6 v7 v8 v9 v10 v11 v12 v13 v14 v15, l = [v0, v1, v2, v3, v4, v5, v6, v7, v8, v9, v10, v11, v12, v13, v14, v15] := by
  match l, h with
  | [v0, v1, v2, v3, v4, v5, v6, v7, v8, v9, v10, v11, v12, v13, v14, v15], _ => exact ⟨v0, v1, v2, v3, v4, v5, v6, v7, v8, v9, v10, v11, v12, v13, v14, v15, rfl⟩
theorem zx0 {α : Type} : ∀ (t : List (List Nat)) (k : List (List Nat) → α), (∀ a ∈ t, a.length = 16) → smC t k = k (t.map Jb)
  | [], k, _ => rfl
  | a :: t, k, h => by
    obtain ⟨v0, v1, v2, v3, v4, v5, v6, v7, v8, v9, v10, v11, v12, v13, v14, v15, rfl⟩ := ex16 (h a (List.mem_cons_self ..))
    show (stir v0 v1 v2 v3 v4 v5 v6 v7 v8 v9 v10 v11 v12 v13 v14 v15 fun v0 v1 v2 v3 v4 v5 v6 v7 v8 v9 v10 v11 v12 v13 v14 v15 => smC t fun t => k ([v0, v1, v2, v3, v4, v5, v6, v7, v8, v9, v10, v11, v12, v13, v14, v15] :: t)) = _
    rw [z8k v0 v1 v2 v3 v4 v5 v6 v7 v8 v9 v10 v11 v12 v13 v14 v15 (fun x => smC t fun t => k (x :: t)), zx0 t _ (fun a ha => h a (List.mem_cons_of_mem _ ha))]
    rfl
end Go.Proofs.Ytfnfmbikooeiaaa
