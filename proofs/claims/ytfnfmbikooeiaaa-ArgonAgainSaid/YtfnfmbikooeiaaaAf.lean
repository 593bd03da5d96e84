/- Part of the proof. -/
import Derived.Test.YtfnfmbikooeiaaaAe
import Derived.Test.YtfnfmbikooeiaaaRows
import Derived.WalkKit
import Derived.ProofKit
set_option linter.unusedSimpArgs false
set_option linter.unusedVariables false
set_option maxHeartbeats 4000000
set_option maxRecDepth 100000
namespace Go.Proofs.Ytfnfmbikooeiaaa
open Go.Ax
noncomputable def begB (seed : List Int) (i l : Int) : List Int := Classical.choose (p := fun x => x = Qm 1024 (le4 1024 ++ (seed ++ (le4 i ++ le4 l)))) ⟨_, rfl⟩
theorem zi3 (seed : List Int) (i l : Int) : begB seed i l = Qm 1024 (le4 1024 ++ (seed ++ (le4 i ++ le4 l))) := Classical.choose_spec (p := fun x => x = Qm 1024 (le4 1024 ++ (seed ++ (le4 i ++ le4 l)))) ⟨_, rfl⟩
theorem zlx (seed : List Int) (i l : Int) : (begB seed i l).length = 1024 := by
  rw [zi3]
  unfold Qm
  split
  · rw [Qh]
  · rw [List.length_append, zc3, Qh]
    try omega
noncomputable def Yi (seed : List Int) (l n : Nat) : Nat → List Int
  | 0 => (List.replicate n (List.replicate 128 0)).flatten
  | k + 1 => putAt (Yi seed l n k) k (zb5 (begB seed k l))
theorem zbd (seed : List Int) (l n : Nat) : Yi seed l n 0 = (List.replicate n (List.replicate 128 0)).flatten := rfl
theorem zda (seed : List Int) (l n : Nat) (hn : 2 ≤ n) : ∀ k, k ≤ 2 → (Yi seed l n k).length = n * 128
  | 0, _ => by rw [zbd, List.length_flatten]; simp
  | k + 1, h => zr4 (zda seed l n hn k (by omega)) (by omega) (zc2 _)
noncomputable def begH (t m L part n N c : Nat) (seed : List Int) : Nat → List Blk
  | 0 => [some [.v (.int .i64 t), .v (.int .i64 m), .v (.int .i64 L), .v (.slice none 0 0), .v (.int .i64 part)]]
  | 1 => [some [.v (.int .i64 t), .v (.int .i64 m), .v (.int .i64 L), .sl 1 0 1 0 1 c, .v (.int .i64 part)], some [.sl 2 0 128 0 n n], some [.arr N .u64 (Yi seed 0 n 2)]]
  | 2 => [some [.v (.int .i64 t), .v (.int .i64 m), .v (.int .i64 L), .sl 1 0 1 0 2 c, .v (.int .i64 part)], some [.sl 2 0 128 0 n n, .sl 3 0 128 0 n n], some [.arr N .u64 (Yi seed 0 n 2)], some [.arr N .u64 (Yi seed 1 n 2)]]
  | 3 => [some [.v (.int .i64 t), .v (.int .i64 m), .v (.int .i64 L), .sl 1 0 1 0 3 c, .v (.int .i64 part)], some [.sl 2 0 128 0 n n, .sl 3 0 128 0 n n, .sl 4 0 128 0 n n], some [.arr N .u64 (Yi seed 0 n 2)], some [.arr N .u64 (Yi seed 1 n 2)], some [.arr N .u64 (Yi seed 2 n 2)]]
  | _ => [some [.v (.int .i64 t), .v (.int .i64 m), .v (.int .i64 L), .sl 1 0 1 0 4 c, .v (.int .i64 part)], some [.sl 2 0 128 0 n n, .sl 3 0 128 0 n n, .sl 4 0 128 0 n n, .sl 5 0 128 0 n n], some [.arr N .u64 (Yi seed 0 n 2)], some [.arr N .u64 (Yi seed 1 n 2)], some [.arr N .u64 (Yi seed 2 n 2)], some [.arr N .u64 (Yi seed 3 n 2)]]
theorem z7s (t m L part n N c : Nat) (seed : List Int) : begH t m L part n N c seed 0 = [some [.v (.int .i64 t), .v (.int .i64 m), .v (.int .i64 L), .v (.slice none 0 0), .v (.int .i64 part)]] := rfl
theorem z7r (t m L part n N c : Nat) (seed : List Int) : begH t m L part n N c seed 1 = [some [.v (.int .i64 t), .v (.int .i64 m), .v (.int .i64 L), .sl 1 0 1 0 1 c, .v (.int .i64 part)], some [.sl 2 0 128 0 n n], some [.arr N .u64 (Yi seed 0 n 2)]] := rfl
theorem z7q (t m L part n N c : Nat) (seed : List Int) : begH t m L part n N c seed 2 = [some [.v (.int .i64 t), .v (.int .i64 m), .v (.int .i64 L), .sl 1 0 1 0 2 c, .v (.int .i64 part)], some [.sl 2 0 128 0 n n, .sl 3 0 128 0 n n], some [.arr N .u64 (Yi seed 0 n 2)], some [.arr N .u64 (Yi seed 1 n 2)]] := rfl
theorem z7p (t m L part n N c : Nat) (seed : List Int) : begH t m L part n N c seed 3 = [some [.v (.int .i64 t), .v (.int .i64 m), .v (.int .i64 L), .sl 1 0 1 0 3 c, .v (.int .i64 part)], some [.sl 2 0 128 0 n n, .sl 3 0 128 0 n n, .sl 4 0 128 0 n n], some [.arr N .u64 (Yi seed 0 n 2)], some [.arr N .u64 (Yi seed 1 n 2)], some [.arr N .u64 (Yi seed 2 n 2)]] := rfl
theorem ydc (t m L part n N c : Nat) (seed : List Int) : begH t m L part n N c seed 4 = [some [.v (.int .i64 t), .v (.int .i64 m), .v (.int .i64 L), .sl 1 0 1 0 4 c, .v (.int .i64 part)], some [.sl 2 0 128 0 n n, .sl 3 0 128 0 n n, .sl 4 0 128 0 n n, .sl 5 0 128 0 n n], some [.arr N .u64 (Yi seed 0 n 2)], some [.arr N .u64 (Yi seed 1 n 2)], some [.arr N .u64 (Yi seed 2 n 2)], some [.arr N .u64 (Yi seed 3 n 2)]] := rfl
theorem z92 (t m L part n N : Nat) (seed : List Int) (hL : 1 ≤ L ∧ L ≤ 4) (ht : t ≤ 8) (hm : m ≤ 256) (hok : okP t m L = true) (hpt : part = m / (4 * L)) (h7 : 2 ≤ part ∧ part ≤ 64) (hn : n = 4 * part) (hN : N = n * 128) (hsd : seed.length = 64) :
    Zs Try.prog 62 [.agg [.v (.int .i64 t), .v (.int .i64 m), .v (.int .i64 L)], .roI .u8 seed] [] fun v h' => ∃ c, v = .ptr 0 0 0 ∧ h' = begH t m L part n N c seed L := by
  have hpg : pgN t m L = ((part * 4 * L : Nat) : Int) := by unfold pgN; rw [if_pos hok, hpt]; simp only [Int.toNat_natCast]
  have w4 : IntKind.i64.wrap (4 * (L : Int)) = ((4 * L : Nat) : Int) := by rw [Zz _ (by omega)]; omega
  have hdv : (((part * 4 * L : Nat) : Int)).tdiv ((4 * L : Nat) : Int) = (part : Int) := by
    rw [← Int.ofNat_tdiv, Nat.mul_assoc, Nat.mul_div_cancel _ (by omega)]
  have h40 : (((4 * L : Nat) : Int) = 0) = False := by simp; omega
  have wn : IntKind.i64.wrap (4 * (part : Int)) = ((n : Nat) : Int) := by rw [Zz _ (by omega)]; omega
  have hN1 : (N = 128) = False := by simp; omega
  have h4 : ∀ x, (le4 x).length = 4 := fun _ => rfl
  have h4t : ∀ x, List.take 4 (le4 x) = le4 x := fun _ => rfl
  have hstk : List.take 64 seed = seed := List.take_of_length_le (by omega)
  refine Zq (zax 0) Try.func62 rfl ⟨by kernel_rfl, by show 2 ≤ _; decide, by kernel_rfl, by kernel_rfl⟩ rfl ?_; have hr : Try.f62.results.toList = [.tmp 4] := rfl
  repeat (first | simp only [Qt, Yo, Y0, Nat.reduceBEq, reduceIte, Nat.reduceEqDiff, reduceCtorEq, ne_eq, if_true, if_false, exA, exA, tabs, exB, exD, Zl, Zp, Ze, Zi, Zn, AV.isAggV, AV.parts, AV.one, AV.solid, Zf, Zb, Zj, Zc, Zk, Zh, Zg, bndA, lenA, Zd, rowOf, Za, intsOf, Zo, Nat.reduceAdd, Nat.reduceSub, Nat.reduceMul, Nat.reduceLeDiff, Nat.reduceLT, Nat.reduceGT, Int.reduceToNat, Int.reduceLE, Int.reduceLT, Int.reduceEq, Int.reduceNe, Int.reduceAdd, Int.reduceSub, Int.reduceMul, Int.reduceNeg, ite_true, ite_false, dite_true, xc10, xc11, xc12, xc13, xc14, xc15, xc16, xc17, xc20, xc21, xc22, xc23, xc24, xc25, xc26, Zm, hr, hpg, w4, hdv, h40] | simp (maxSteps := 1000000) (disch := omega) only [exE, Int.toNat_natCast, Int.reduceToNat])
  refine Jy (zax 0) (fun l c => ⟨envL [(1, .roI .u8 seed), (5, .ptr 0 0 0), (21, .v (.int .i64 L)), (22, .v (.int .i64 l))], begH t m L part n N c seed l⟩) L (by kernel_rfl) ⟨0, ?_⟩ ?_ ?_
  · rw [z7s]
    (refine Z2 [1] (by decide) (by simp) (by rfl) ?_ ?_; (focus (first | with_reducible rfl | (simp only [List.map_cons, List.map_nil, List.cons_append, List.nil_append, List.getElem?_cons_zero, List.getElem?_cons_succ, renB, renL, Option.map_some, Option.map_none, AV.ren, Z4, List.getD_cons_zero, List.getD_cons_succ, Int.natCast_zero] <;> with_reducible rfl))); simp only [exF, List.map_cons, List.map_nil, List.length_cons, List.length_nil, Nat.reduceAdd, AV.ren, renL, Z4, Nat.reduceEqDiff, if_true, if_false, reduceIte, Option.some.injEq, reduceCtorEq, Int.cast_ofNat_Int, Int.natCast_zero])
  · intro l c hl
    have hll : ((l : Int) < (L : Int)) = True := by simp; omega
    rcases Nat.lt_or_ge l 1 with hl0 | hl0
    · obtain rfl : l = 0 := by omega
      rw [z7s]
      repeat (first | simp only [Qt, Yo, Y0, Nat.reduceBEq, reduceIte, Nat.reduceEqDiff, reduceCtorEq, ne_eq, if_true, if_false, exA, exA, tabs, exB, exD, Zl, Zp, Ze, Zi, Zn, AV.isAggV, AV.parts, AV.one, AV.solid, Zf, Zb, Zj, Zc, Zk, Zh, Zg, bndA, lenA, Zd, rowOf, Za, intsOf, Zo, Nat.reduceAdd, Nat.reduceSub, Nat.reduceMul, Nat.reduceLeDiff, Nat.reduceLT, Nat.reduceGT, Int.reduceToNat, Int.reduceLE, Int.reduceLT, Int.reduceEq, Int.reduceNe, Int.reduceAdd, Int.reduceSub, Int.reduceMul, Int.reduceNeg, ite_true, ite_false, dite_true, xc10, xc11, xc12, xc13, xc14, xc15, xc16, xc17, xc20, xc21, xc22, xc23, xc24, xc25, xc26, Zm, hr, hll, wn] | simp (maxSteps := 1000000) (disch := omega) only [exE, Int.toNat_natCast, Int.reduceToNat])
      repeat (with_reducible refine And.intro (by first | omega | assumption) ?_)
      rw [← hN]
      refine Z3 (zax 0) (fun k => ⟨envL [(1, .roI .u8 seed), (5, .ptr 0 0 0), (6, .v (.int .i64 0)), (7, .sl 1 0 128 0 n n), (21, .v (.int .i64 L)), (22, .v (.int .i64 0)), (31, .v (.int .i64 k))], [some [.v (.int .i64 t), .v (.int .i64 m), .v (.int .i64 L), .v (.slice none 0 0), .v (.int .i64 part)], some [.arr N .u64 (Yi seed 0 n k)]]⟩) 2 (by kernel_rfl) ?_ ?_ ?_
      · (refine Z1 ?_ ?_; (focus (first | with_reducible rfl | (simp only [zbd, Int.natCast_zero, Int.cast_ofNat_Int] <;> with_reducible rfl))); simp only [exF, Nat.reduceEqDiff, if_true, if_false, reduceIte, Option.some.injEq, reduceCtorEq, Int.cast_ofNat_Int, zbd, Int.natCast_zero, Int.cast_ofNat_Int])
      · intro k hk
        have hkl := zda seed 0 n (by omega) k (by omega)
        rw [← hN] at hkl
        have hS : Yi seed 0 n (k + 1) = List.take (k * 128) (Yi seed 0 n k) ++ zb5 (begB seed k 0) ++ List.drop (k * 128 + 128) (Yi seed 0 n k) := rfl
        rw [hS]
        obtain ⟨x, hx⟩ : ∃ x, Yi seed 0 n k = x := ⟨_, rfl⟩
        rw [hx] at hkl ⊢
        have hkk : ((k : Int) < (n : Int)) = True := by simp; omega
        have hlg : Qm 1024 (le4 1024 ++ (seed ++ (le4 k ++ le4 0))) = begB seed k 0 := (zi3 _ _ _).symm
        have hBl := zlx seed k 0
        have hBt : List.take 1024 (begB seed k 0) = begB seed k 0 := List.take_of_length_le (by omega)
        repeat (first | simp only [Qt, Yo, Y0, Nat.reduceBEq, reduceIte, Nat.reduceEqDiff, reduceCtorEq, ne_eq, if_true, if_false, exA, exA, tabs, exB, exD, Zl, Zp, Ze, Zi, Zn, AV.isAggV, AV.parts, AV.one, AV.solid, Zf, Zb, Zj, Zc, Zk, Zh, Zg, bndA, lenA, Zd, rowOf, Za, intsOf, Zo, Nat.reduceAdd, Nat.reduceSub, Nat.reduceMul, Nat.reduceLeDiff, Nat.reduceLT, Nat.reduceGT, Int.reduceToNat, Int.reduceLE, Int.reduceLT, Int.reduceEq, Int.reduceNe, Int.reduceAdd, Int.reduceSub, Int.reduceMul, Int.reduceNeg, ite_true, ite_false, dite_true, xc10, xc11, xc12, xc13, xc14, xc15, xc16, xc17, xc20, xc21, xc22, xc23, xc24, xc25, xc26, Zm, hr, h4, h4t, hstk, hsd, hlg] | simp (maxSteps := 1000000) (disch := omega) only [exE, Int.toNat_natCast, Int.reduceToNat])
        intro c9 _
        repeat (first | simp only [Qt, Yo, Y0, Nat.reduceBEq, reduceIte, Nat.reduceEqDiff, reduceCtorEq, ne_eq, if_true, if_false, exA, exA, tabs, exB, exD, Zl, Zp, Ze, Zi, Zn, AV.isAggV, AV.parts, AV.one, AV.solid, Zf, Zb, Zj, Zc, Zk, Zh, Zg, bndA, lenA, Zd, rowOf, Za, intsOf, Zo, Nat.reduceAdd, Nat.reduceSub, Nat.reduceMul, Nat.reduceLeDiff, Nat.reduceLT, Nat.reduceGT, Int.reduceToNat, Int.reduceLE, Int.reduceLT, Int.reduceEq, Int.reduceNe, Int.reduceAdd, Int.reduceSub, Int.reduceMul, Int.reduceNeg, ite_true, ite_false, dite_true, xc10, xc11, xc12, xc13, xc14, xc15, xc16, xc17, xc20, xc21, xc22, xc23, xc24, xc25, xc26, Zm, hr, hBl, hBt, hkk, hN1, and_false, zc2, ze9] | simp (maxSteps := 1000000) (disch := omega) only [exE, Int.toNat_natCast, Int.reduceToNat])
        repeat (with_reducible refine And.intro (by first | omega | assumption) ?_)
        (refine Z2 [0, 1] (by decide) (by simp) (by rfl) ?_ ?_; (focus (first | with_reducible rfl | (simp only [List.map_cons, List.map_nil, List.cons_append, List.nil_append, List.getElem?_cons_zero, List.getElem?_cons_succ, renB, renL, Option.map_some, Option.map_none, AV.ren, Z4, List.getD_cons_zero, List.getD_cons_succ, Nat.add_zero] <;> with_reducible rfl))); simp only [exF, List.map_cons, List.map_nil, List.length_cons, List.length_nil, Nat.reduceAdd, AV.ren, renL, Z4, Nat.reduceEqDiff, if_true, if_false, reduceIte, Option.some.injEq, reduceCtorEq, Int.cast_ofNat_Int, Nat.add_zero])
      · repeat (first | simp only [Qt, Yo, Y0, Nat.reduceBEq, reduceIte, Nat.reduceEqDiff, reduceCtorEq, ne_eq, if_true, if_false, exA, exA, tabs, exB, exD, Zl, Zp, Ze, Zi, Zn, AV.isAggV, AV.parts, AV.one, AV.solid, Zf, Zb, Zj, Zc, Zk, Zh, Zg, bndA, lenA, Zd, rowOf, Za, intsOf, Zo, Nat.reduceAdd, Nat.reduceSub, Nat.reduceMul, Nat.reduceLeDiff, Nat.reduceLT, Nat.reduceGT, Int.reduceToNat, Int.reduceLE, Int.reduceLT, Int.reduceEq, Int.reduceNe, Int.reduceAdd, Int.reduceSub, Int.reduceMul, Int.reduceNeg, ite_true, ite_false, dite_true, xc10, xc11, xc12, xc13, xc14, xc15, xc16, xc17, xc20, xc21, xc22, xc23, xc24, xc25, xc26, Zm, hr] | simp (maxSteps := 1000000) (disch := omega) only [exE, Int.toNat_natCast, Int.reduceToNat])
        intro c9 _
        refine ⟨c9, ?_⟩
        rw [z7r]
        (refine Z2 [0, 3, 1] (by decide) (by simp) (by rfl) ?_ ?_; (focus (first | with_reducible rfl | (simp only [List.map_cons, List.map_nil, List.cons_append, List.nil_append, List.getElem?_cons_zero, List.getElem?_cons_succ, renB, renL, Option.map_some, Option.map_none, AV.ren, Z4, List.getD_cons_zero, List.getD_cons_succ, Nat.add_zero] <;> with_reducible rfl))); simp only [exF, List.map_cons, List.map_nil, List.length_cons, List.length_nil, Nat.reduceAdd, AV.ren, renL, Z4, Nat.reduceEqDiff, if_true, if_false, reduceIte, Option.some.injEq, reduceCtorEq, Int.cast_ofNat_Int, Nat.add_zero])
        rfl
    rcases Nat.lt_or_ge l 2 with hl1 | hl1
    · obtain rfl : l = 1 := by omega
      rw [z7r]
      repeat (first | simp only [Qt, Yo, Y0, Nat.reduceBEq, reduceIte, Nat.reduceEqDiff, reduceCtorEq, ne_eq, if_true, if_false, exA, exA, tabs, exB, exD, Zl, Zp, Ze, Zi, Zn, AV.isAggV, AV.parts, AV.one, AV.solid, Zf, Zb, Zj, Zc, Zk, Zh, Zg, bndA, lenA, Zd, rowOf, Za, intsOf, Zo, Nat.reduceAdd, Nat.reduceSub, Nat.reduceMul, Nat.reduceLeDiff, Nat.reduceLT, Nat.reduceGT, Int.reduceToNat, Int.reduceLE, Int.reduceLT, Int.reduceEq, Int.reduceNe, Int.reduceAdd, Int.reduceSub, Int.reduceMul, Int.reduceNeg, ite_true, ite_false, dite_true, xc10, xc11, xc12, xc13, xc14, xc15, xc16, xc17, xc20, xc21, xc22, xc23, xc24, xc25, xc26, Zm, hr, hll, wn] | simp (maxSteps := 1000000) (disch := omega) only [exE, Int.toNat_natCast, Int.reduceToNat])
      repeat (with_reducible refine And.intro (by first | omega | assumption) ?_)
      rw [← hN]
      refine Z3 (zax 0) (fun k => ⟨envL [(1, .roI .u8 seed), (5, .ptr 0 0 0), (6, .v (.int .i64 1)), (7, .sl 3 0 128 0 n n), (21, .v (.int .i64 L)), (22, .v (.int .i64 1)), (31, .v (.int .i64 k))], [some [.v (.int .i64 t), .v (.int .i64 m), .v (.int .i64 L), .sl 1 0 1 0 1 c, .v (.int .i64 part)], some [.sl 2 0 128 0 n n], some [.arr N .u64 (Yi seed 0 n 2)], some [.arr N .u64 (Yi seed 1 n k)]]⟩) 2 (by kernel_rfl) ?_ ?_ ?_
      · (refine Z1 ?_ ?_; (focus (first | with_reducible rfl | (simp only [zbd, Int.natCast_zero, Int.cast_ofNat_Int] <;> with_reducible rfl))); simp only [exF, Nat.reduceEqDiff, if_true, if_false, reduceIte, Option.some.injEq, reduceCtorEq, Int.cast_ofNat_Int, zbd, Int.natCast_zero, Int.cast_ofNat_Int])
      · intro k hk
        have hkl := zda seed 1 n (by omega) k (by omega)
        rw [← hN] at hkl
        have hS : Yi seed 1 n (k + 1) = List.take (k * 128) (Yi seed 1 n k) ++ zb5 (begB seed k 1) ++ List.drop (k * 128 + 128) (Yi seed 1 n k) := rfl
        rw [hS]
        obtain ⟨x, hx⟩ : ∃ x, Yi seed 1 n k = x := ⟨_, rfl⟩
        rw [hx] at hkl ⊢
        have hkk : ((k : Int) < (n : Int)) = True := by simp; omega
        have hlg : Qm 1024 (le4 1024 ++ (seed ++ (le4 k ++ le4 1))) = begB seed k 1 := (zi3 _ _ _).symm
        have hBl := zlx seed k 1
        have hBt : List.take 1024 (begB seed k 1) = begB seed k 1 := List.take_of_length_le (by omega)
        repeat (first | simp only [Qt, Yo, Y0, Nat.reduceBEq, reduceIte, Nat.reduceEqDiff, reduceCtorEq, ne_eq, if_true, if_false, exA, exA, tabs, exB, exD, Zl, Zp, Ze, Zi, Zn, AV.isAggV, AV.parts, AV.one, AV.solid, Zf, Zb, Zj, Zc, Zk, Zh, Zg, bndA, lenA, Zd, rowOf, Za, intsOf, Zo, Nat.reduceAdd, Nat.reduceSub, Nat.reduceMul, Nat.reduceLeDiff, Nat.reduceLT, Nat.reduceGT, Int.reduceToNat, Int.reduceLE, Int.reduceLT, Int.reduceEq, Int.reduceNe, Int.reduceAdd, Int.reduceSub, Int.reduceMul, Int.reduceNeg, ite_true, ite_false, dite_true, xc10, xc11, xc12, xc13, xc14, xc15, xc16, xc17, xc20, xc21, xc22, xc23, xc24, xc25, xc26, Zm, hr, h4, h4t, hstk, hsd, hlg] | simp (maxSteps := 1000000) (disch := omega) only [exE, Int.toNat_natCast, Int.reduceToNat])
        intro c9 _
        repeat (first | simp only [Qt, Yo, Y0, Nat.reduceBEq, reduceIte, Nat.reduceEqDiff, reduceCtorEq, ne_eq, if_true, if_false, exA, exA, tabs, exB, exD, Zl, Zp, Ze, Zi, Zn, AV.isAggV, AV.parts, AV.one, AV.solid, Zf, Zb, Zj, Zc, Zk, Zh, Zg, bndA, lenA, Zd, rowOf, Za, intsOf, Zo, Nat.reduceAdd, Nat.reduceSub, Nat.reduceMul, Nat.reduceLeDiff, Nat.reduceLT, Nat.reduceGT, Int.reduceToNat, Int.reduceLE, Int.reduceLT, Int.reduceEq, Int.reduceNe, Int.reduceAdd, Int.reduceSub, Int.reduceMul, Int.reduceNeg, ite_true, ite_false, dite_true, xc10, xc11, xc12, xc13, xc14, xc15, xc16, xc17, xc20, xc21, xc22, xc23, xc24, xc25, xc26, Zm, hr, hBl, hBt, hkk, hN1, and_false, zc2, ze9] | simp (maxSteps := 1000000) (disch := omega) only [exE, Int.toNat_natCast, Int.reduceToNat])
        repeat (with_reducible refine And.intro (by first | omega | assumption) ?_)
        (refine Z2 [0, 1, 2, 3] (by decide) (by simp) (by rfl) ?_ ?_; (focus (first | with_reducible rfl | (simp only [List.map_cons, List.map_nil, List.cons_append, List.nil_append, List.getElem?_cons_zero, List.getElem?_cons_succ, renB, renL, Option.map_some, Option.map_none, AV.ren, Z4, List.getD_cons_zero, List.getD_cons_succ, Nat.add_zero] <;> with_reducible rfl))); simp only [exF, List.map_cons, List.map_nil, List.length_cons, List.length_nil, Nat.reduceAdd, AV.ren, renL, Z4, Nat.reduceEqDiff, if_true, if_false, reduceIte, Option.some.injEq, reduceCtorEq, Int.cast_ofNat_Int, Nat.add_zero])
      · repeat (first | simp only [Qt, Yo, Y0, Nat.reduceBEq, reduceIte, Nat.reduceEqDiff, reduceCtorEq, ne_eq, if_true, if_false, exA, exA, tabs, exB, exD, Zl, Zp, Ze, Zi, Zn, AV.isAggV, AV.parts, AV.one, AV.solid, Zf, Zb, Zj, Zc, Zk, Zh, Zg, bndA, lenA, Zd, rowOf, Za, intsOf, Zo, Nat.reduceAdd, Nat.reduceSub, Nat.reduceMul, Nat.reduceLeDiff, Nat.reduceLT, Nat.reduceGT, Int.reduceToNat, Int.reduceLE, Int.reduceLT, Int.reduceEq, Int.reduceNe, Int.reduceAdd, Int.reduceSub, Int.reduceMul, Int.reduceNeg, ite_true, ite_false, dite_true, xc10, xc11, xc12, xc13, xc14, xc15, xc16, xc17, xc20, xc21, xc22, xc23, xc24, xc25, xc26, Zm, hr] | simp (maxSteps := 1000000) (disch := omega) only [exE, Int.toNat_natCast, Int.reduceToNat])
        intro c9 _
        refine ⟨c9, ?_⟩
        rw [z7q]
        (refine Z2 [0, 5, 2, 3] (by decide) (by simp) (by rfl) ?_ ?_; (focus (first | with_reducible rfl | (simp only [List.map_cons, List.map_nil, List.cons_append, List.nil_append, List.getElem?_cons_zero, List.getElem?_cons_succ, renB, renL, Option.map_some, Option.map_none, AV.ren, Z4, List.getD_cons_zero, List.getD_cons_succ, Nat.add_zero] <;> with_reducible rfl))); simp only [exF, List.map_cons, List.map_nil, List.length_cons, List.length_nil, Nat.reduceAdd, AV.ren, renL, Z4, Nat.reduceEqDiff, if_true, if_false, reduceIte, Option.some.injEq, reduceCtorEq, Int.cast_ofNat_Int, Nat.add_zero])
        rfl
    rcases Nat.lt_or_ge l 3 with hl2 | hl2
    · obtain rfl : l = 2 := by omega
      rw [z7q]
      repeat (first | simp only [Qt, Yo, Y0, Nat.reduceBEq, reduceIte, Nat.reduceEqDiff, reduceCtorEq, ne_eq, if_true, if_false, exA, exA, tabs, exB, exD, Zl, Zp, Ze, Zi, Zn, AV.isAggV, AV.parts, AV.one, AV.solid, Zf, Zb, Zj, Zc, Zk, Zh, Zg, bndA, lenA, Zd, rowOf, Za, intsOf, Zo, Nat.reduceAdd, Nat.reduceSub, Nat.reduceMul, Nat.reduceLeDiff, Nat.reduceLT, Nat.reduceGT, Int.reduceToNat, Int.reduceLE, Int.reduceLT, Int.reduceEq, Int.reduceNe, Int.reduceAdd, Int.reduceSub, Int.reduceMul, Int.reduceNeg, ite_true, ite_false, dite_true, xc10, xc11, xc12, xc13, xc14, xc15, xc16, xc17, xc20, xc21, xc22, xc23, xc24, xc25, xc26, Zm, hr, hll, wn] | simp (maxSteps := 1000000) (disch := omega) only [exE, Int.toNat_natCast, Int.reduceToNat])
      repeat (with_reducible refine And.intro (by first | omega | assumption) ?_)
      rw [← hN]
      refine Z3 (zax 0) (fun k => ⟨envL [(1, .roI .u8 seed), (5, .ptr 0 0 0), (6, .v (.int .i64 2)), (7, .sl 4 0 128 0 n n), (21, .v (.int .i64 L)), (22, .v (.int .i64 2)), (31, .v (.int .i64 k))], [some [.v (.int .i64 t), .v (.int .i64 m), .v (.int .i64 L), .sl 1 0 1 0 2 c, .v (.int .i64 part)], some [.sl 2 0 128 0 n n, .sl 3 0 128 0 n n], some [.arr N .u64 (Yi seed 0 n 2)], some [.arr N .u64 (Yi seed 1 n 2)], some [.arr N .u64 (Yi seed 2 n k)]]⟩) 2 (by kernel_rfl) ?_ ?_ ?_
      · (refine Z1 ?_ ?_; (focus (first | with_reducible rfl | (simp only [zbd, Int.natCast_zero, Int.cast_ofNat_Int] <;> with_reducible rfl))); simp only [exF, Nat.reduceEqDiff, if_true, if_false, reduceIte, Option.some.injEq, reduceCtorEq, Int.cast_ofNat_Int, zbd, Int.natCast_zero, Int.cast_ofNat_Int])
      · intro k hk
        have hkl := zda seed 2 n (by omega) k (by omega)
        rw [← hN] at hkl
        have hS : Yi seed 2 n (k + 1) = List.take (k * 128) (Yi seed 2 n k) ++ zb5 (begB seed k 2) ++ List.drop (k * 128 + 128) (Yi seed 2 n k) := rfl
        rw [hS]
        obtain ⟨x, hx⟩ : ∃ x, Yi seed 2 n k = x := ⟨_, rfl⟩
        rw [hx] at hkl ⊢
        have hkk : ((k : Int) < (n : Int)) = True := by simp; omega
        have hlg : Qm 1024 (le4 1024 ++ (seed ++ (le4 k ++ le4 2))) = begB seed k 2 := (zi3 _ _ _).symm
        have hBl := zlx seed k 2
        have hBt : List.take 1024 (begB seed k 2) = begB seed k 2 := List.take_of_length_le (by omega)
        repeat (first | simp only [Qt, Yo, Y0, Nat.reduceBEq, reduceIte, Nat.reduceEqDiff, reduceCtorEq, ne_eq, if_true, if_false, exA, exA, tabs, exB, exD, Zl, Zp, Ze, Zi, Zn, AV.isAggV, AV.parts, AV.one, AV.solid, Zf, Zb, Zj, Zc, Zk, Zh, Zg, bndA, lenA, Zd, rowOf, Za, intsOf, Zo, Nat.reduceAdd, Nat.reduceSub, Nat.reduceMul, Nat.reduceLeDiff, Nat.reduceLT, Nat.reduceGT, Int.reduceToNat, Int.reduceLE, Int.reduceLT, Int.reduceEq, Int.reduceNe, Int.reduceAdd, Int.reduceSub, Int.reduceMul, Int.reduceNeg, ite_true, ite_false, dite_true, xc10, xc11, xc12, xc13, xc14, xc15, xc16, xc17, xc20, xc21, xc22, xc23, xc24, xc25, xc26, Zm, hr, h4, h4t, hstk, hsd, hlg] | simp (maxSteps := 1000000) (disch := omega) only [exE, Int.toNat_natCast, Int.reduceToNat])
        intro c9 _
        repeat (first | simp only [Qt, Yo, Y0, Nat.reduceBEq, reduceIte, Nat.reduceEqDiff, reduceCtorEq, ne_eq, if_true, if_false, exA, exA, tabs, exB, exD, Zl, Zp, Ze, Zi, Zn, AV.isAggV, AV.parts, AV.one, AV.solid, Zf, Zb, Zj, Zc, Zk, Zh, Zg, bndA, lenA, Zd, rowOf, Za, intsOf, Zo, Nat.reduceAdd, Nat.reduceSub, Nat.reduceMul, Nat.reduceLeDiff, Nat.reduceLT, Nat.reduceGT, Int.reduceToNat, Int.reduceLE, Int.reduceLT, Int.reduceEq, Int.reduceNe, Int.reduceAdd, Int.reduceSub, Int.reduceMul, Int.reduceNeg, ite_true, ite_false, dite_true, xc10, xc11, xc12, xc13, xc14, xc15, xc16, xc17, xc20, xc21, xc22, xc23, xc24, xc25, xc26, Zm, hr, hBl, hBt, hkk, hN1, and_false, zc2, ze9] | simp (maxSteps := 1000000) (disch := omega) only [exE, Int.toNat_natCast, Int.reduceToNat])
        repeat (with_reducible refine And.intro (by first | omega | assumption) ?_)
        (refine Z2 [0, 1, 2, 3, 4] (by decide) (by simp) (by rfl) ?_ ?_; (focus (first | with_reducible rfl | (simp only [List.map_cons, List.map_nil, List.cons_append, List.nil_append, List.getElem?_cons_zero, List.getElem?_cons_succ, renB, renL, Option.map_some, Option.map_none, AV.ren, Z4, List.getD_cons_zero, List.getD_cons_succ, Nat.add_zero] <;> with_reducible rfl))); simp only [exF, List.map_cons, List.map_nil, List.length_cons, List.length_nil, Nat.reduceAdd, AV.ren, renL, Z4, Nat.reduceEqDiff, if_true, if_false, reduceIte, Option.some.injEq, reduceCtorEq, Int.cast_ofNat_Int, Nat.add_zero])
      · repeat (first | simp only [Qt, Yo, Y0, Nat.reduceBEq, reduceIte, Nat.reduceEqDiff, reduceCtorEq, ne_eq, if_true, if_false, exA, exA, tabs, exB, exD, Zl, Zp, Ze, Zi, Zn, AV.isAggV, AV.parts, AV.one, AV.solid, Zf, Zb, Zj, Zc, Zk, Zh, Zg, bndA, lenA, Zd, rowOf, Za, intsOf, Zo, Nat.reduceAdd, Nat.reduceSub, Nat.reduceMul, Nat.reduceLeDiff, Nat.reduceLT, Nat.reduceGT, Int.reduceToNat, Int.reduceLE, Int.reduceLT, Int.reduceEq, Int.reduceNe, Int.reduceAdd, Int.reduceSub, Int.reduceMul, Int.reduceNeg, ite_true, ite_false, dite_true, xc10, xc11, xc12, xc13, xc14, xc15, xc16, xc17, xc20, xc21, xc22, xc23, xc24, xc25, xc26, Zm, hr] | simp (maxSteps := 1000000) (disch := omega) only [exE, Int.toNat_natCast, Int.reduceToNat])
        intro c9 _
        refine ⟨c9, ?_⟩
        rw [z7p]
        (refine Z2 [0, 6, 2, 3, 4] (by decide) (by simp) (by rfl) ?_ ?_; (focus (first | with_reducible rfl | (simp only [List.map_cons, List.map_nil, List.cons_append, List.nil_append, List.getElem?_cons_zero, List.getElem?_cons_succ, renB, renL, Option.map_some, Option.map_none, AV.ren, Z4, List.getD_cons_zero, List.getD_cons_succ, Nat.add_zero] <;> with_reducible rfl))); simp only [exF, List.map_cons, List.map_nil, List.length_cons, List.length_nil, Nat.reduceAdd, AV.ren, renL, Z4, Nat.reduceEqDiff, if_true, if_false, reduceIte, Option.some.injEq, reduceCtorEq, Int.cast_ofNat_Int, Nat.add_zero])
        rfl
    rcases Nat.lt_or_ge l 4 with hl3 | hl3
    · obtain rfl : l = 3 := by omega
      rw [z7p]
      repeat (first | simp only [Qt, Yo, Y0, Nat.reduceBEq, reduceIte, Nat.reduceEqDiff, reduceCtorEq, ne_eq, if_true, if_false, exA, exA, tabs, exB, exD, Zl, Zp, Ze, Zi, Zn, AV.isAggV, AV.parts, AV.one, AV.solid, Zf, Zb, Zj, Zc, Zk, Zh, Zg, bndA, lenA, Zd, rowOf, Za, intsOf, Zo, Nat.reduceAdd, Nat.reduceSub, Nat.reduceMul, Nat.reduceLeDiff, Nat.reduceLT, Nat.reduceGT, Int.reduceToNat, Int.reduceLE, Int.reduceLT, Int.reduceEq, Int.reduceNe, Int.reduceAdd, Int.reduceSub, Int.reduceMul, Int.reduceNeg, ite_true, ite_false, dite_true, xc10, xc11, xc12, xc13, xc14, xc15, xc16, xc17, xc20, xc21, xc22, xc23, xc24, xc25, xc26, Zm, hr, hll, wn] | simp (maxSteps := 1000000) (disch := omega) only [exE, Int.toNat_natCast, Int.reduceToNat])
      repeat (with_reducible refine And.intro (by first | omega | assumption) ?_)
      rw [← hN]
      refine Z3 (zax 0) (fun k => ⟨envL [(1, .roI .u8 seed), (5, .ptr 0 0 0), (6, .v (.int .i64 3)), (7, .sl 5 0 128 0 n n), (21, .v (.int .i64 L)), (22, .v (.int .i64 3)), (31, .v (.int .i64 k))], [some [.v (.int .i64 t), .v (.int .i64 m), .v (.int .i64 L), .sl 1 0 1 0 3 c, .v (.int .i64 part)], some [.sl 2 0 128 0 n n, .sl 3 0 128 0 n n, .sl 4 0 128 0 n n], some [.arr N .u64 (Yi seed 0 n 2)], some [.arr N .u64 (Yi seed 1 n 2)], some [.arr N .u64 (Yi seed 2 n 2)], some [.arr N .u64 (Yi seed 3 n k)]]⟩) 2 (by kernel_rfl) ?_ ?_ ?_
      · (refine Z1 ?_ ?_; (focus (first | with_reducible rfl | (simp only [zbd, Int.natCast_zero, Int.cast_ofNat_Int] <;> with_reducible rfl))); simp only [exF, Nat.reduceEqDiff, if_true, if_false, reduceIte, Option.some.injEq, reduceCtorEq, Int.cast_ofNat_Int, zbd, Int.natCast_zero, Int.cast_ofNat_Int])
      · intro k hk
        have hkl := zda seed 3 n (by omega) k (by omega)
        rw [← hN] at hkl
        have hS : Yi seed 3 n (k + 1) = List.take (k * 128) (Yi seed 3 n k) ++ zb5 (begB seed k 3) ++ List.drop (k * 128 + 128) (Yi seed 3 n k) := rfl
        rw [hS]
        obtain ⟨x, hx⟩ : ∃ x, Yi seed 3 n k = x := ⟨_, rfl⟩
        rw [hx] at hkl ⊢
        have hkk : ((k : Int) < (n : Int)) = True := by simp; omega
        have hlg : Qm 1024 (le4 1024 ++ (seed ++ (le4 k ++ le4 3))) = begB seed k 3 := (zi3 _ _ _).symm
        have hBl := zlx seed k 3
        have hBt : List.take 1024 (begB seed k 3) = begB seed k 3 := List.take_of_length_le (by omega)
        repeat (first | simp only [Qt, Yo, Y0, Nat.reduceBEq, reduceIte, Nat.reduceEqDiff, reduceCtorEq, ne_eq, if_true, if_false, exA, exA, tabs, exB, exD, Zl, Zp, Ze, Zi, Zn, AV.isAggV, AV.parts, AV.one, AV.solid, Zf, Zb, Zj, Zc, Zk, Zh, Zg, bndA, lenA, Zd, rowOf, Za, intsOf, Zo, Nat.reduceAdd, Nat.reduceSub, Nat.reduceMul, Nat.reduceLeDiff, Nat.reduceLT, Nat.reduceGT, Int.reduceToNat, Int.reduceLE, Int.reduceLT, Int.reduceEq, Int.reduceNe, Int.reduceAdd, Int.reduceSub, Int.reduceMul, Int.reduceNeg, ite_true, ite_false, dite_true, xc10, xc11, xc12, xc13, xc14, xc15, xc16, xc17, xc20, xc21, xc22, xc23, xc24, xc25, xc26, Zm, hr, h4, h4t, hstk, hsd, hlg] | simp (maxSteps := 1000000) (disch := omega) only [exE, Int.toNat_natCast, Int.reduceToNat])
        intro c9 _
        repeat (first | simp only [Qt, Yo, Y0, Nat.reduceBEq, reduceIte, Nat.reduceEqDiff, reduceCtorEq, ne_eq, if_true, if_false, exA, exA, tabs, exB, exD, Zl, Zp, Ze, Zi, Zn, AV.isAggV, AV.parts, AV.one, AV.solid, Zf, Zb, Zj, Zc, Zk, Zh, Zg, bndA, lenA, Zd, rowOf, Za, intsOf, Zo, Nat.reduceAdd, Nat.reduceSub, Nat.reduceMul, Nat.reduceLeDiff, Nat.reduceLT, Nat.reduceGT, Int.reduceToNat, Int.reduceLE, Int.reduceLT, Int.reduceEq, Int.reduceNe, Int.reduceAdd, Int.reduceSub, Int.reduceMul, Int.reduceNeg, ite_true, ite_false, dite_true, xc10, xc11, xc12, xc13, xc14, xc15, xc16, xc17, xc20, xc21, xc22, xc23, xc24, xc25, xc26, Zm, hr, hBl, hBt, hkk, hN1, and_false, zc2, ze9] | simp (maxSteps := 1000000) (disch := omega) only [exE, Int.toNat_natCast, Int.reduceToNat])
        repeat (with_reducible refine And.intro (by first | omega | assumption) ?_)
        (refine Z2 [0, 1, 2, 3, 4, 5] (by decide) (by simp) (by rfl) ?_ ?_; (focus (first | with_reducible rfl | (simp only [List.map_cons, List.map_nil, List.cons_append, List.nil_append, List.getElem?_cons_zero, List.getElem?_cons_succ, renB, renL, Option.map_some, Option.map_none, AV.ren, Z4, List.getD_cons_zero, List.getD_cons_succ, Nat.add_zero] <;> with_reducible rfl))); simp only [exF, List.map_cons, List.map_nil, List.length_cons, List.length_nil, Nat.reduceAdd, AV.ren, renL, Z4, Nat.reduceEqDiff, if_true, if_false, reduceIte, Option.some.injEq, reduceCtorEq, Int.cast_ofNat_Int, Nat.add_zero])
      · repeat (first | simp only [Qt, Yo, Y0, Nat.reduceBEq, reduceIte, Nat.reduceEqDiff, reduceCtorEq, ne_eq, if_true, if_false, exA, exA, tabs, exB, exD, Zl, Zp, Ze, Zi, Zn, AV.isAggV, AV.parts, AV.one, AV.solid, Zf, Zb, Zj, Zc, Zk, Zh, Zg, bndA, lenA, Zd, rowOf, Za, intsOf, Zo, Nat.reduceAdd, Nat.reduceSub, Nat.reduceMul, Nat.reduceLeDiff, Nat.reduceLT, Nat.reduceGT, Int.reduceToNat, Int.reduceLE, Int.reduceLT, Int.reduceEq, Int.reduceNe, Int.reduceAdd, Int.reduceSub, Int.reduceMul, Int.reduceNeg, ite_true, ite_false, dite_true, xc10, xc11, xc12, xc13, xc14, xc15, xc16, xc17, xc20, xc21, xc22, xc23, xc24, xc25, xc26, Zm, hr] | simp (maxSteps := 1000000) (disch := omega) only [exE, Int.toNat_natCast, Int.reduceToNat])
        intro c9 _
        refine ⟨c9, ?_⟩
        rw [ydc]
        (refine Z2 [0, 7, 2, 3, 4, 5] (by decide) (by simp) (by rfl) ?_ ?_; (focus (first | with_reducible rfl | (simp only [List.map_cons, List.map_nil, List.cons_append, List.nil_append, List.getElem?_cons_zero, List.getElem?_cons_succ, renB, renL, Option.map_some, Option.map_none, AV.ren, Z4, List.getD_cons_zero, List.getD_cons_succ, Nat.add_zero] <;> with_reducible rfl))); simp only [exF, List.map_cons, List.map_nil, List.length_cons, List.length_nil, Nat.reduceAdd, AV.ren, renL, Z4, Nat.reduceEqDiff, if_true, if_false, reduceIte, Option.some.injEq, reduceCtorEq, Int.cast_ofNat_Int, Nat.add_zero])
        rfl
    omega
  · intro c
    repeat (first | simp only [Qt, Yo, Y0, Nat.reduceBEq, reduceIte, Nat.reduceEqDiff, reduceCtorEq, ne_eq, if_true, if_false, exA, exA, tabs, exB, exD, Zl, Zp, Ze, Zi, Zn, AV.isAggV, AV.parts, AV.one, AV.solid, Zf, Zb, Zj, Zc, Zk, Zh, Zg, bndA, lenA, Zd, rowOf, Za, intsOf, Zo, Nat.reduceAdd, Nat.reduceSub, Nat.reduceMul, Nat.reduceLeDiff, Nat.reduceLT, Nat.reduceGT, Int.reduceToNat, Int.reduceLE, Int.reduceLT, Int.reduceEq, Int.reduceNe, Int.reduceAdd, Int.reduceSub, Int.reduceMul, Int.reduceNeg, ite_true, ite_false, dite_true, xc10, xc11, xc12, xc13, xc14, xc15, xc16, xc17, xc20, xc21, xc22, xc23, xc24, xc25, xc26, Zm, hr] | simp (maxSteps := 1000000) (disch := omega) only [exE, Int.toNat_natCast, Int.reduceToNat])
    exact ⟨c, rfl⟩
noncomputable def zj6 (seed : List Int) (L n : Nat) : List (List Int) := (List.range L).map fun l => Yi seed l n 2
theorem z91 (t m L part : Nat) (seed : List Int) (hL : 1 ≤ L ∧ L ≤ 4) (ht : t ≤ 8) (hm : m ≤ 256) (hok : okP t m L = true) (hpt : part = m / (4 * L)) (h7 : 2 ≤ part ∧ part ≤ 64) (hsd : seed.length = 64) :
    Zs Try.prog 62 [.agg [.v (.int .i64 t), .v (.int .i64 m), .v (.int .i64 L)], .roI .u8 seed] [] fun v h' => ∃ c, v = .ptr 0 0 0 ∧ h' = memH t m L c part (zj6 seed L (4 * part)) := by
  refine Zs.weak (C := c26 0) rfl (z92 t m L part (4 * part) (4 * part * 128) seed hL ht hm hok hpt h7 rfl rfl hsd) ?_
  rintro v h' ⟨c, rfl, rfl⟩
  rcases (by omega : L = 1 ∨ L = 2 ∨ L = 3 ∨ L = 4) with rfl | rfl | rfl | rfl
  · exact ⟨_, _, (zfl .u64).trans ((zfl .u64).trans (zfl .u64)), c, rfl, rfl⟩
  · exact ⟨_, _, (zfl .u64).trans (zfl .u64), c, rfl, rfl⟩
  · exact ⟨_, _, zfl .u64, c, rfl, rfl⟩
  · exact ⟨_, _, Weak.refl _ _, c, rfl, rfl⟩
end Go.Proofs.Ytfnfmbikooeiaaa
namespace Go.Proofs.Ytfnfmbikooeiaaa
open Go.Ax
structure GoodL (L part : Nat) (fs : List (List Int)) : Prop where
  len : fs.length = L
  lane : ∀ g ∈ fs, g.length = 4 * part * 128
  word : ∀ g ∈ fs, Wds g
theorem GoodL.at {L part : Nat} {fs : List (List Int)} (h : GoodL L part fs) {j : Nat} (hj : j < L) : fs.getD j [] ∈ fs := by
  rw [List.getD_eq_getElem?_getD, List.getElem?_eq_getElem (by rw [h.len]; exact hj)]; exact List.getElem_mem _
theorem GoodL.slice {L part : Nat} {fs : List (List Int)} (h : GoodL L part fs) {pass slice lane t : Nat} (h2 : slice < 4) (h3 : lane < L) (h7 : 2 ≤ part) : GoodL L part (zhe pass slice lane t L part fs) := by
  have hm := h.at h3
  have hlo : loS pass slice ≤ 2 := by unfold loS; split <;> omega
  refine ⟨by unfold zhe; rw [List.length_set]; exact h.len, ?_, ?_⟩
  · intro g hg
    rcases List.mem_or_eq_of_mem_set hg with hg | rfl
    · exact h.lane g hg
    · exact zb3 _ _ _ _ _ _ _ _ (h.lane _ hm) h2 _ (by omega)
  · intro g hg
    rcases List.mem_or_eq_of_mem_set hg with hg | rfl
    · exact h.word g hg
    · exact zfs _ _ _ _ _ _ _ _ (h.lane _ hm) (h.word _ hm) h2 (by omega) _ (by omega)
def zet (pass slice t L part : Nat) (fs : List (List Int)) : Nat → List (List Int)
  | 0 => fs
  | l + 1 => zhe pass slice l t L part (zet pass slice t L part fs l)
def J2 (pass t L part : Nat) (fs : List (List Int)) : Nat → List (List Int)
  | 0 => fs
  | s + 1 => zet pass s t L part (J2 pass t L part fs s) L
def J8 (t L part : Nat) (fs : List (List Int)) : Nat → List (List Int)
  | 0 => fs
  | p + 1 => J2 p t L part (J8 t L part fs p) 4
theorem zjy {pass slice t L part : Nat} {fs : List (List Int)} (h : GoodL L part fs) (h2 : slice < 4) (h7 : 2 ≤ part) : ∀ l, l ≤ L → GoodL L part (zet pass slice t L part fs l)
  | 0, _ => h
  | l + 1, hl => (zjy h h2 h7 l (by omega)).slice h2 (by omega) h7
theorem zhd {pass t L part : Nat} {fs : List (List Int)} (h : GoodL L part fs) (h7 : 2 ≤ part) : ∀ s, s ≤ 4 → GoodL L part (J2 pass t L part fs s)
  | 0, _ => h
  | s + 1, hs => zjy (zhd h h7 s (by omega)) (by omega) h7 L (Nat.le_refl _)
theorem zjt {t L part : Nat} {fs : List (List Int)} (h : GoodL L part fs) (h7 : 2 ≤ part) : ∀ p, GoodL L part (J8 t L part fs p)
  | 0 => h
  | p + 1 => zhd (zjt h h7 p) h7 4 (Nat.le_refl _)
theorem ylb (x y : Int) : 0 ≤ orU x y ∧ orU x y < 18446744073709551616 := by
  unfold orU; rw [zas]; omega
theorem Wds.set {v : List Int} (h : Wds v) (i : Nat) {x : Int} (hx : 0 ≤ x ∧ x < 18446744073709551616) : Wds (v.set i x) := by
  intro j
  have hj := h j
  rw [List.getD_eq_getElem?_getD] at hj ⊢
  rw [List.getElem?_set]
  split
  · split
    · simpa using hx
    · simp
  · exact hj
theorem zzo (n : Nat) : Wds (List.replicate n 0) := by
  intro i
  rw [List.getD_eq_getElem?_getD, List.getElem?_replicate]
  split <;> simp
theorem zvd (b : List Int) : ∀ n, Wds (Qw b n)
  | 0 => zzo _
  | n + 1 => by
    simp only [Qw, zgx]
    exact (zvd b n).set _ (ylb _ _)
theorem zvr (b : List Int) : Wds (zb5 b) := by rw [zio]; exact zvd b 1024
theorem zqe (n k : Nat) : (List.replicate n (List.replicate k (0 : Int))).flatten = List.replicate (n * k) 0 := by
  rw [List.eq_replicate_iff]
  constructor
  · rw [List.length_flatten]; simp
  · intro x hx
    obtain ⟨l, hl, hx⟩ := List.mem_flatten.1 hx
    rw [(List.mem_replicate.1 hl).2] at hx
    exact (List.mem_replicate.1 hx).2
theorem zxa (seed : List Int) {L part : Nat} (h7 : 2 ≤ part) : GoodL L part (zj6 seed L (4 * part)) := by
  refine ⟨by unfold zj6; simp, ?_, ?_⟩
  · intro g hg
    obtain ⟨l, _, rfl⟩ := List.mem_map.1 hg
    exact zda seed l (4 * part) (by omega) 2 (Nat.le_refl _)
  · intro g hg
    obtain ⟨l, _, rfl⟩ := List.mem_map.1 hg
    have h0 : Wds (Yi seed l (4 * part) 0) := by rw [zbd, zqe]; exact zzo _
    exact (h0.put (zvr _) 0).put (zvr _) 1
def sumS (n : Nat) (fs : List (List Int)) : Nat → List Int
  | 0 => List.replicate 128 0
  | l + 1 => xorK (sumS n fs l) (Yx (fs.getD l []) (n - 1)) 128
theorem zop (n : Nat) (fs : List (List Int)) : ∀ l, (sumS n fs l).length = 128
  | 0 => by simp [sumS]
  | l + 1 => by simp only [sumS, Qu]; exact zop n fs l
theorem z2o (g q : Nat → Nat) (L n : Nat) : renL g (rowA q L n) = rowA (fun j => g (q j)) L n := zo6 g q n _
theorem z6b (g : Nat → Nat) (L N : Nat) (fs : List (List Int)) (j : Nat) : renB g (lb L N fs j) = lb L N fs j := rfl
theorem z8y {g : Nat → Nat} {L n : Nat} (hL : L ≤ 4) (hg : ∀ b, b < 6 → g b = b) : renL g (rowA (fun j => 2 + j) L n) = rowA (fun j => 2 + j) L n := zks fun j hj => hg _ (by omega)
theorem zv9 {g : Nat → Nat} {t m L c part : Nat} {fs : List (List Int)} (hL : L ≤ 4) (hg : ∀ b, b < 6 → g b = b) : (memH t m L c part fs).map (renB g) = memH t m L c part fs := by
  unfold memH
  simp only [List.map_cons, List.map_nil, z6b, renB, Option.map_some, z8y hL hg]
  simp only [renL, AV.ren, hg 1 (by omega)]
  rfl
theorem z27 {t m L c part : Nat} {fs fs' : List (List Int)} (ext : List Blk) : Ya (memH t m L c part fs ++ ext) [0, 1, 2, 3, 4, 5] (memH t m L c part fs') = memH t m L c part fs' ++ ext := by
  unfold memH
  simp only [List.cons_append, List.nil_append, Ya, List.set_cons_zero, List.set_cons_succ, List.append_nil]
theorem zx2 {C : Cfg} (hP : C.P = Try.prog) {k : List KI} {Q : Exit → St → Prop} {all : Array Oper} {l : List Oper} {e : Env} {d : Option Tmp} {pass slice lane t L part m c : Nat} {fs : List (List Int)} (ext : List Blk) (hg : GoodL L part fs)
    (h1 : pass ≤ 7) (h2 : slice < 4) (h3 : lane < L) (hL : 1 ≤ L ∧ L ≤ 4) (h5 : t ≤ 8) (h7 : 2 ≤ part ∧ part ≤ 64)
    (hk : opsR C all l k ⟨put e d (.tup []), memH t m L c part (zhe pass slice lane t L part fs) ++ ext⟩ Q) :
    z1d C 63 [.ptr 0 0 0, .agg [.v (.int .i64 pass), .v (.int .i64 slice), .v (.int .i64 lane), .v (.int .i64 0)]] d all l k e (memH t m L c part fs ++ ext) Q := by
  have hid : ∀ b, b < 6 → Yb [0, 1, 2, 3, 4, 5] (memH t m L c part fs ++ ext).length b = b := by
    intro b hb
    rcases (by omega : b = 0 ∨ b = 1 ∨ b = 2 ∨ b = 3 ∨ b = 4 ∨ b = 5) with rfl | rfl | rfl | rfl | rfl | rfl <;> rfl
  refine zar [0, 1, 2, 3, 4, 5] (hP ▸ z4z pass slice lane t L part m c fs h1 h2 h3 hL h5 h7 hg.len hg.lane hg.word) rfl ?_ (by decide) ?_
  · have h0 := congrArg (List.map some) (zv9 (t := t) (m := m) (c := c) (part := part) (fs := fs) hL.2 hid)
    rw [List.map_map] at h0
    refine Eq.trans ?_ h0.symm
    rfl
  · rintro av h' ⟨rfl, rfl⟩
    rw [zv9 hL.2 hid, z27]
    exact hk
end Go.Proofs.Ytfnfmbikooeiaaa
namespace Go.Proofs.Ytfnfmbikooeiaaa
open Go.Ax Go.Kn
noncomputable def b8 (w : Nat) : List Nat := [Nat.mod (Nat.div w 1) 256, Nat.mod (Nat.div w 256) 256, Nat.mod (Nat.div w 65536) 256, Nat.mod (Nat.div w 16777216) 256, Nat.mod (Nat.div w 4294967296) 256, Nat.mod (Nat.div w 1099511627776) 256, Nat.mod (Nat.div w 281474976710656) 256, Nat.mod (Nat.div w 72057594037927936) 256]
noncomputable def zcr : List Nat → List Nat
  | [] => []
  | w :: l => b8 w ++ zcr l
theorem z3q {α : Type} (w : Nat) (t : List Nat) (k : List Nat → α) : zuc w t k = k (b8 w ++ t) := by
  unfold zuc
  simp only [zcw]
  rfl
theorem zmk {α : Type} : ∀ (l : List Nat) (k : List Nat → α), zml l k = k (zcr l)
  | [], k => rfl
  | w :: l, k => by
    show zml l (fun t => zuc w t k) = _
    rw [zmk l _, z3q]; rfl
theorem z7t (w : Nat) : (b8 w).length = 8 := rfl
theorem zbb : ∀ l : List Nat, (zcr l).length = 8 * l.length
  | [] => rfl
  | w :: l => by simp only [zcr, List.length_append, z7t, zbb l, List.length_cons]; omega
theorem ymx (w k : Nat) (h : k < 8) : (b8 w).getD k 0 = w / 2 ^ (8 * k) % 256 := by
  rcases (by omega : k = 0 ∨ k = 1 ∨ k = 2 ∨ k = 3 ∨ k = 4 ∨ k = 5 ∨ k = 6 ∨ k = 7) with rfl | rfl | rfl | rfl | rfl | rfl | rfl | rfl
  · show w / 1 % 256 = _
    simp only [Nat.reduceMul, Nat.reducePow]
  · show w / 256 % 256 = _
    simp only [Nat.reduceMul, Nat.reducePow]
  · show w / 65536 % 256 = _
    simp only [Nat.reduceMul, Nat.reducePow]
  · show w / 16777216 % 256 = _
    simp only [Nat.reduceMul, Nat.reducePow]
  · show w / 4294967296 % 256 = _
    simp only [Nat.reduceMul, Nat.reducePow]
  · show w / 1099511627776 % 256 = _
    simp only [Nat.reduceMul, Nat.reducePow]
  · show w / 281474976710656 % 256 = _
    simp only [Nat.reduceMul, Nat.reducePow]
  · show w / 72057594037927936 % 256 = _
    simp only [Nat.reduceMul, Nat.reducePow]
theorem zi1 : ∀ (l : List Nat) (i : Nat), (zcr l).getD i 0 = l.getD (i / 8) 0 / 2 ^ (8 * (i % 8)) % 256
  | [], i => by simp [zcr]
  | w :: l, i => by
    simp only [zcr]
    rw [List.getD_eq_getElem?_getD, List.getElem?_append, z7t]
    split
    · rename_i h
      rw [← List.getD_eq_getElem?_getD, ymx w i h, show i / 8 = 0 by omega, show i % 8 = i by omega]; rfl
    · rename_i h
      rw [← List.getD_eq_getElem?_getD, zi1 l (i - 8), show i / 8 = (i - 8) / 8 + 1 by omega, show i % 8 = (i - 8) % 8 by omega]; rfl
theorem zs9 (l : List Nat) : BtN (zcr l) := fun i => by rw [zi1]; exact Nat.mod_lt _ (by decide)
theorem BtN.take {l : List Nat} (h : BtN l) (n : Nat) : BtN (l.take n) := fun i => by
  rw [List.getD_eq_getElem?_getD, List.getElem?_take]
  split
  · rw [← List.getD_eq_getElem?_getD]; exact h i
  · simp
theorem BtN.drop {l : List Nat} (h : BtN l) (n : Nat) : BtN (l.drop n) := fun i => by rw [drop_at]; exact h _
theorem BtN.app {a b : List Nat} (ha : BtN a) (hb : BtN b) : BtN (a ++ b) := fun i => by
  rw [List.getD_eq_getElem?_getD, List.getElem?_append]
  split
  · rw [← List.getD_eq_getElem?_getD]; exact ha i
  · rw [← List.getD_eq_getElem?_getD]; exact hb _
theorem BtN.rep {x : Nat} (n : Nat) (h : x < 256) : BtN (List.replicate n x) := fun i => by
  rw [List.getD_eq_getElem?_getD, List.getElem?_replicate]
  split
  · exact h
  · simp
theorem BtN.pad {l : List Nat} (h : BtN l) (n : Nat) : BtN (padN n l) := (h.take n).app (.rep _ (by decide))
theorem z3m {s : List Nat} {n : Nat} (h : n ≤ 8 * s.length) : (List.range n).map (Go.Ax.byteAt (zc s)) = zc ((zcr s).take n) := by
  refine extD (by rw [List.length_map, List.length_range, J9, List.length_take, zbb]; omega) ?_
  intro i hi
  have hi : i < n := by simpa using hi
  have e1 : ((List.range n).map (Go.Ax.byteAt (zc s))).getD i 0 = Go.Ax.byteAt (zc s) i := by simp [List.getD_eq_getElem?_getD, hi]
  rw [e1, Y1, List.getD_eq_getElem?_getD (l := (zcr s).take n), List.getElem?_take, if_pos hi, ← List.getD_eq_getElem?_getD, zi1]
  unfold Go.Ax.byteAt
  rw [Y1]
  exact z42 _ _ (Nat.mod_lt _ (by decide))
theorem z7h {s : List Nat} {n : Nat} (h : n ≤ 8 * s.length) : (List.range n).map (Go.Proofs.Ytfnfmbikooeiaaa.byteAt (zc s)) = zc ((zcr s).take n) := by
  refine extD (by rw [List.length_map, List.length_range, J9, List.length_take, zbb]; omega) ?_
  intro i hi
  have hi : i < n := by simpa using hi
  have e1 : ((List.range n).map (Go.Proofs.Ytfnfmbikooeiaaa.byteAt (zc s))).getD i 0 = Go.Proofs.Ytfnfmbikooeiaaa.byteAt (zc s) i := by simp [List.getD_eq_getElem?_getD, hi]
  rw [e1, Y1, List.getD_eq_getElem?_getD (l := (zcr s).take n), List.getElem?_take, if_pos hi, ← List.getD_eq_getElem?_getD, zi1]
  unfold Go.Proofs.Ytfnfmbikooeiaaa.byteAt
  rw [Y1]
  exact z42 _ _ (Nat.mod_lt _ (by decide))
noncomputable def zd1 (h all : List Nat) : Nat → List Nat
  | 0 => h
  | i + 1 => zfg (zd1 h all i) ((all.drop (128 * i)).take 128) (128 * i + 128) 0
theorem ze8 {h : List Nat} (hh : h.length = 8) (all : List Nat) : ∀ i, (zd1 h all i).length = 8
  | 0 => hh
  | i + 1 => zgj _ _ _ _
theorem zr6 {h all : List Nat} (hh : h.length = 8) (hb : BtN all) : ∀ i, pieces (zc h) (zc all) i = zc (zd1 h all i)
  | 0 => rfl
  | i + 1 => by
    simp only [pieces, zd1]
    rw [zr6 hh hb i, znq, znp, zvn (ze8 hh all i) ((hb.drop _).take _)]
    rfl
theorem ztu {α : Type} (q i : Nat) (h all : List Nat) (k : List Nat → List Nat → α) :
    znz (q + 1) i h all k = tkC 128 all fun p all => fc (Nat.add (Nat.mul 128 i) 128) fun t => zmc h p t 0 fun h => znz q (Nat.succ i) h all k := rfl
theorem zyd {α : Type} {h all : List Nat} (hh : h.length = 8) (k : List Nat → List Nat → α) (q : Nat) : ∀ i, 128 * (i + q) ≤ all.length → znz q i (zd1 h all i) (all.drop (128 * i)) k = k (zd1 h all (i + q)) (all.drop (128 * (i + q))) := by
  induction q with
  | zero => intro i _; rfl
  | succ q ih =>
    intro i hl
    rw [ztu, zeg _ (by rw [List.length_drop]; omega), zcw, zr7 _ _ _ _ (ze8 hh all i)]
    have e : zfg (zd1 h all i) ((all.drop (128 * i)).take 128) (Nat.add (Nat.mul 128 i) 128) 0 = zd1 h all (i + 1) := rfl
    rw [e, List.drop_drop, show 128 * i + 128 = 128 * (i + 1) by omega, show Nat.succ i = i + 1 from rfl, ih (i + 1) (by omega), show i + 1 + q = i + (q + 1) by omega]
noncomputable def h0N (n : Nat) : List Nat := [xM 7640891576956012808 (xM 16842752 n), 13503953896175478587, 4354685564936845355, 11912009170470909681, 5840696475078001361, 11170449401992604703, 2270897969802886507, 6620516959819538809]
noncomputable def zcv (n len : Nat) (all : List Nat) : List Nat :=
  (zcr (zfg (zd1 (h0N n) all ((len - 1) / 128)) (padN 128 (all.drop (128 * ((len - 1) / 128)))) len 18446744073709551615)).take n
theorem zsv {n : Nat} (h : n ≤ 64) (len : Nat) (all : List Nat) : (zcv n len all).length = n := by
  unfold zcv; rw [List.length_take, zbb, zgj]; omega
theorem zwp (n len : Nat) (all : List Nat) : BtN (zcv n len all) := (zs9 _).take n
theorem zlj {α : Type} {n len : Nat} {all : List Nat} (k : List Nat → α) (hn : n ≤ 64) (hl : all.length = len) : zlk n len all k = k (zcv n len all) := by
  unfold zlk
  simp only [zcw]
  have h := zyd (h := h0N n) (all := all) rfl (fun h r => tkC 128 r fun p _ => zmc h p len 18446744073709551615 fun h => zml h fun b => tkC n b fun d _ => k d) ((len - 1) / 128) 0 (by omega)
  refine Eq.trans ?_ (h.trans ?_)
  · rfl
  · rw [Nat.zero_add, zth, zr7 _ _ _ _ (ze8 rfl all _), zmk, zeg _ (by rw [zbb, zgj]; omega)]
    rfl
theorem z84 {r : List Nat} (h : r.length ≤ 128) : padL (zc r) = zc (padN 128 r) := by
  unfold padL padN
  rw [zf9, ztf, J9, List.take_of_length_le h]; rfl
theorem z5p (n : Nat) : Y4 n [] = zc (h0N n) := by
  have h1 : xorU 16842752 (shl IntKind.u64 ((([] : List Int).length : Nat) : Int) 8) = ((16842752 : Nat) : Int) := by decide
  unfold Y4
  rw [h1, zdd]
  have h2 := zdd 7640891576956012808 (xM 16842752 n)
  simp only [Int.cast_ofNat_Int] at h2
  show ([7640891576956012808, 13503953896175478587, 4354685564936845355, 11912009170470909681, 5840696475078001361, 11170449401992604703, 2270897969802886507, 6620516959819538809] : List Int).set 0 (xorU 7640891576956012808 ((xM 16842752 n : Nat) : Int)) = _
  rw [h2]; rfl
theorem zlw {n : Nat} {all : List Nat} (hn : n ≤ 64) (hb : BtN all) : Qd n [] (zc all) = zc (zcv n all.length all) := by
  unfold Qd zgq
  have hk : keyB [] ++ zc all = zc all := rfl
  rw [hk, z5p, J9]
  have hq : qOf all.length = (all.length - 1) / 128 := rfl
  rw [hq, zr6 rfl hb, znq, z84 (by rw [List.length_drop]; omega), zvn (ze8 rfl all _) ((hb.drop _).pad 128), z3m (by rw [zgj]; exact hn)]
  rfl
noncomputable def bN (all : List Nat) : Nat → List Nat
  | 0 => all
  | i + 1 => zcv 64 (bN all i).length (bN all i)
theorem z1j {all : List Nat} (h : BtN all) : ∀ i, BtN (bN all i)
  | 0 => h
  | i + 1 => zwp _ _ _
theorem ydd (all : List Nat) (i : Nat) : (bN all (i + 1)).length = 64 := zsv (Nat.le_refl _) _ _
theorem zzj {all : List Nat} (h : BtN all) : ∀ i, b64 (zc all) i = zc (bN all i)
  | 0 => rfl
  | i + 1 => by
    simp only [b64, bN]
    rw [zzj h i, zlw (Nat.le_refl _) (z1j h i)]
noncomputable def outN (all : List Nat) : Nat → List Nat
  | 0 => []
  | i + 1 => outN all i ++ (bN all (i + 1)).take 32
theorem zvx {all : List Nat} (h : BtN all) : ∀ i, zb8 (zc all) i = zc (outN all i)
  | 0 => rfl
  | i + 1 => by
    simp only [zb8, outN]
    rw [zvx h i, zzj h, znp, zf9]
noncomputable def zkj (all : List Nat) : Nat → Nat → List Nat
  | j, 0 => bN all j
  | j, n + 1 => (bN all j).take 32 ++ zkj all (j + 1) n
theorem zrm (all : List Nat) : ∀ n j, outN all j ++ zkj all (j + 1) n = outN all (j + n) ++ bN all (j + n + 1)
  | 0, j => rfl
  | n + 1, j => by
    simp only [zkj]
    rw [← List.append_assoc, show outN all j ++ (bN all (j + 1)).take 32 = outN all (j + 1) from rfl, zrm all n (j + 1), show j + 1 + n = j + (n + 1) by omega]
theorem zux {all : List Nat} (h : BtN all) : ∀ n j, BtN (zkj all j n)
  | 0, j => z1j h j
  | n + 1, j => ((z1j h j).take 32).app (zux h n (j + 1))
theorem z93 (all : List Nat) (i : Nat) : bN all (i + 1) = zcv 64 (bN all i).length (bN all i) := rfl
theorem ycp (all : List Nat) : outN all 0 = [] := rfl
theorem z14 (all : List Nat) : zkj all 1 30 = outN all 30 ++ bN all 31 := by
  have e := zrm all 30 0
  rw [ycp, List.nil_append] at e
  simpa only [Nat.zero_add, Nat.reduceAdd] using e
theorem z9a {all : List Nat} (h : BtN all) : Qm 1024 (zc all) = zc (zkj all 1 30) := by
  have e : (1024 - 33) / 32 = 30 := by decide
  have e2 : 1024 - 32 * 30 = 64 := by decide
  have e3 : ¬ (1024 : Nat) ≤ 64 := by decide
  rw [z14]
  unfold Qm
  rw [if_neg e3, e, e2, zvx h, zzj h, zlw (Nat.le_refl _) (z1j h 30), ← zf9, ← z93]
theorem z56 {n : Nat} {all : List Nat} (hn : n ≤ 64) (h : BtN all) : Qm n (zc all) = zc (zcv n all.length all) := by
  unfold Qm
  rw [if_pos hn, zlw hn h]
noncomputable def z55 {α : Type} (n : Nat) (d : List Nat) (k : List Nat → α) : α :=
  Nat.rec (motive := fun _ => List Nat → (List Nat → α) → α) (fun d k => k d) (fun _ ih d k => tkC 32 d fun u _ => zlk 64 64 d fun d => ih d fun t => apC u t k) n d k
theorem zyn {α : Type} (n : Nat) (d : List Nat) (k : List Nat → α) : z55 (n + 1) d k = tkC 32 d fun u _ => zlk 64 64 d fun d => z55 n d fun t => apC u t k := rfl
theorem z54 {α : Type} (all : List Nat) (n : Nat) : ∀ (j : Nat) (k : List Nat → α), z55 n (bN all (j + 1)) k = k (zkj all (j + 1) n) := by
  induction n with
  | zero => intro j k; rfl
  | succ n ih =>
    intro j k
    have hl := ydd all j
    rw [zyn, zeg _ (by omega), zlj _ (Nat.le_refl _) hl]
    have e : zcv 64 64 (bN all (j + 1)) = bN all (j + 1 + 1) := by
      show _ = zcv 64 (bN all (j + 1)).length (bN all (j + 1))
      rw [hl]
    rw [e, ih (j + 1), zj8]
    rfl
theorem z57 {α : Type} {len : Nat} {all : List Nat} (k : List Nat → α) (hl : all.length = len) : z58 len all k = k (zkj all 1 30) := by
  unfold z58
  rw [zlj _ (Nat.le_refl _) hl]
  have e : zcv 64 len all = bN all (0 + 1) := by
    show _ = zcv 64 all.length all
    rw [hl]
  rw [e]
  exact z54 all 30 0 k
theorem zl0 {α : Type} : ∀ (l : List Nat) (k : List Nat → α), allC l k = k l
  | [], k => rfl
  | a :: l, k => by
    show fc a (fun a => allC l fun l => k (a :: l)) = _
    rw [zcw, zl0 l _]
theorem zqd (n : Nat) : le4 (n : Int) = zc (four n) := by
  have hs : ∀ (j : Nat), j ≤ 24 → shr IntKind.i64 (n : Int) (j : Int) = ((n / 2 ^ j : Nat) : Int) := by
    intro j hj
    unfold shr
    have hmm : min (j : Int).toNat IntKind.i64.bits = j := by have : IntKind.i64.bits = 64 := rfl; rw [Int.toNat_natCast, this]; omega
    rw [hmm, Int.fdiv_eq_ediv_of_nonneg _ (Int.pow_nonneg (by omega)), Int.natCast_ediv, Int.natCast_pow]; rfl
  have hw : ∀ x : Nat, IntKind.u8.wrap (x : Int) = ((x % 256 : Nat) : Int) := fun x => by rw [wrap_u8']; omega
  have h1 := hs 8 (by decide)
  have h2 := hs 16 (by decide)
  have h3 := hs 24 (by decide)
  simp only [Int.cast_ofNat_Int, Nat.reducePow] at h1 h2 h3
  unfold le4
  rw [h1, h2, h3, hw, hw, hw, hw]
  rfl
noncomputable def begM (sd : List Nat) (i l : Nat) : List Nat := four 1024 ++ (sd ++ (four i ++ four l))
theorem zt3 (n : Nat) : BtN (four n) := fun i => by
  match i with
  | 0 => exact Nat.mod_lt _ (by decide)
  | 1 => exact Nat.mod_lt _ (by decide)
  | 2 => exact Nat.mod_lt _ (by decide)
  | 3 => exact Nat.mod_lt _ (by decide)
  | i + 4 => show ([] : List Nat).getD i 0 < 256; simp
theorem z1h {sd : List Nat} (h : BtN sd) (i l : Nat) : BtN (begM sd i l) := (zt3 _).app (h.app ((zt3 _).app (zt3 _)))
noncomputable def begP (sd : List Nat) (i l : Nat) : List Nat := Q2 128 (zkj (begM sd i l) 1 30)
theorem z1i {α : Type} {sd : List Nat} (hs : sd.length = 64) (i l : Nat) (k : List Nat → α) : begC sd i l k = k (begP sd i l) := by
  unfold begC
  rw [zl0, z57 _ (by
    show (four 1024 ++ (sd ++ (four i ++ four l))).length = 76
    rw [List.length_append, List.length_append, List.length_append, hs]; rfl), zq9]
  rfl
theorem z7o {sd : List Nat} (h : BtN sd) (i l : Nat) : zb5 (begB (zc sd) i l) = zc (begP sd i l) := by
  have h4 := zqd 1024
  simp only [Int.cast_ofNat_Int] at h4
  have e : le4 1024 ++ (zc sd ++ (le4 (i : Int) ++ le4 (l : Int))) = zc (begM sd i l) := by
    unfold begM
    rw [h4, zqd, zqd, zf9, zf9, zf9]
  rw [zio, zi3, e, z9a (z1h h i l), zq2 (zux (z1h h i l) 30 1)]
  rfl
end Go.Proofs.Ytfnfmbikooeiaaa
namespace Go.Proofs.Ytfnfmbikooeiaaa
open Go.Ax
def fsK (pass slice lane t L part : Nat) (fs : List (List Int)) (k : Nat) : List (List Int) := fs.set lane (Yr pass slice lane t L part (loS pass slice) fs (fs.getD lane []) k)
theorem zjc {fs : List (List Int)} {l : Nat} (h : l < fs.length) : fs.set l (fs.getD l []) = fs := by
  rw [List.getD_eq_getElem?_getD, List.getElem?_eq_getElem h, Option.getD_some, List.set_getElem_self]
theorem zq4 {fs : List (List Int)} {l : Nat} {x : List Int} (h : l < fs.length) : (fs.set l x).getD l [] = x := by
  rw [List.getD_eq_getElem?_getD, List.getElem?_set, if_pos rfl, if_pos h]; rfl
theorem ylp {pass slice lane t L part : Nat} {fs : List (List Int)} (h : lane < fs.length) : fsK pass slice lane t L part fs 0 = fs := zjc h
theorem z2a (pass slice lane i t L part : Nat) (fs : List (List Int)) (x f : List Int) : za3 pass slice lane i t L part (fs.set lane x) f = za3 pass slice lane i t L part fs f := by
  have e : zdf pass slice lane i t L part (fs.set lane x) f = zdf pass slice lane i t L part fs f := by unfold zdf; rw [List.set_set]
  unfold za3
  rw [e]
theorem z6r {pass slice lane t L part : Nat} {fs : List (List Int)} (h : lane < fs.length) (k : Nat) :
    (fsK pass slice lane t L part fs k).set lane (za3 pass slice lane (loS pass slice + k) t L part (fsK pass slice lane t L part fs k) ((fsK pass slice lane t L part fs k).getD lane [])) = fsK pass slice lane t L part fs (k + 1) := by
  have e : (fsK pass slice lane t L part fs k).getD lane [] = Yr pass slice lane t L part (loS pass slice) fs (fs.getD lane []) k := zq4 h
  rw [e]
  obtain ⟨X, hX⟩ : ∃ X, Yr pass slice lane t L part (loS pass slice) fs (fs.getD lane []) k = X := ⟨_, rfl⟩
  unfold fsK
  simp only [Yr]
  rw [hX, z2a, List.set_set]
end Go.Proofs.Ytfnfmbikooeiaaa
namespace Go.Proofs.Ytfnfmbikooeiaaa
open Go.Ax Go.Kn
def zcc (fs : List (List Nat)) : List (List Int) := fs.map zc
theorem ztd (fs : List (List Nat)) : (zcc fs).length = fs.length := by simp [zcc]
theorem zj9 (fs : List (List Nat)) (i : Nat) : (zcc fs).getD i [] = zc (fs.getD i []) := by
  unfold zcc
  rw [List.getD_eq_getElem?_getD, List.getElem?_map, List.getD_eq_getElem?_getD]
  cases fs[i]? <;> rfl
theorem zzq (fs : List (List Nat)) (i : Nat) (f : List Nat) : (zcc fs).set i (zc f) = zcc (fs.set i f) := by unfold zcc; rw [List.map_set]
theorem ybe : ∀ (fs : List (List Nat)) (i : Nat), gl fs i = fs.getD i []
  | [], i => rfl
  | a :: l, 0 => rfl
  | a :: l, i + 1 => by
    show gl l i = _
    rw [ybe l i]; rfl
theorem z41 {α : Type} : ∀ (fs : List (List Nat)) (i : Nat) (x : List Nat) (k : List (List Nat) → α), sl fs i x k = k (fs.set i x)
  | [], i, x, k => rfl
  | a :: l, 0, x, k => rfl
  | a :: l, i + 1, x, k => by
    show sl l i x (fun l' => k (a :: l')) = _
    rw [z41 l i x _]; rfl
def qgN (f : List Nat) (j : Nat) : List Nat := (f.drop (j * 128)).take 128
def putN (f : List Nat) (j : Nat) (p : List Nat) : List Nat := f.take (j * 128) ++ p ++ f.drop (j * 128 + 128)
theorem zan {f : List Nat} {n j : Nat} (hf : f.length = n * 128) (hj : j < n) : (qgN f j).length = 128 := by
  unfold qgN; rw [List.length_take, List.length_drop, hf]; omega
theorem z5l {f p : List Nat} {n j : Nat} (hf : f.length = n * 128) (hj : j < n) (hp : p.length = 128) : (putN f j p).length = n * 128 := by
  unfold putN; rw [List.length_append, List.length_append, List.length_take, List.length_drop, hf, hp]; omega
theorem ztv {α : Type} {f : List Nat} {n j : Nat} (k : List Nat → α) (hf : f.length = n * 128) (hj : j < n) : pgC f j k = k (qgN f j) := by
  unfold pgC
  rw [ybg, zeg _ (by rw [List.length_drop, hf]; show 128 ≤ n * 128 - j * 128; omega)]
  rfl
theorem z5m {α : Type} {f p : List Nat} {n j : Nat} (k : List Nat → α) (hf : f.length = n * 128) (hj : j < n) : ptC f j p k = k (putN f j p) := by
  unfold ptC putN
  rw [zeg _ (by rw [hf]; show j * 128 ≤ n * 128; omega), zeg _ (by rw [List.length_drop, hf]; show 128 ≤ n * 128 - j * 128; omega), zj8, zj8, List.drop_drop, List.append_assoc]
  rfl
theorem zk5 (f : List Nat) (j : Nat) : Yx (zc f) j = zc (qgN f j) := by unfold Yx qgN; rw [znq, znp]
theorem znx (f p : List Nat) (j : Nat) : putAt (zc f) j (zc p) = zc (putN f j p) := by unfold putAt putN; rw [znp, znq, ← zf9, ← zf9]
theorem ydr (l : List Nat) : Q3 (zc l) := fun i => by rw [Y1]; omega
theorem zpj {x y : List Nat} (hx : x.length = 128) (hy : y.length = 128) : Ys (zc x) (zc y) = zc (zhk x y) := by
  rw [← z2y (by rw [J9, hx]) (ydr x), z83 hx hy]
noncomputable def adrN (pass slice lane t L part : Nat) : List Nat := zhk zeros (zhk zeros ([pass, lane, slice, Nat.mul (Nat.mul 4 part) L, t, 2, 1] ++ List.replicate 121 0))
theorem z94 {α : Type} (pass slice lane t L part : Nat) (k : List Nat → α) : adrC pass slice lane t L part k = k (adrN pass slice lane t L part) := by
  unfold adrC
  rw [zpm _ rfl rfl, zpm _ rfl (zmd rfl rfl)]
  rfl
theorem yde (pass slice lane t L part : Nat) : adrL pass slice lane 0 t L part = zc (adrN pass slice lane t L part) := by
  have h0 : zzp = zc zeros := by unfold zzp zeros; rw [ztf]; rfl
  have h1 : adrZ pass slice lane 0 t L part = zc ([pass, lane, slice, Nat.mul (Nat.mul 4 part) L, t, 2, 1] ++ List.replicate 121 0) := rfl
  unfold adrL adrN
  rw [h0, h1, zpj rfl rfl, zpj rfl (zmd rfl rfl)]
theorem ztl {α : Type} (b : Bool) (x y : α) : sel b x y = if b = true then x else y := by cases b <;> rfl
theorem zn3 (a b : Nat) : (ltb a b = true) = (a < b) := by
  unfold ltb
  rw [Nat.ble_eq]
  rfl
theorem z43 {α : Type} (a b : Nat) (x y : α) : sel (Bool.and (Nat.beq a 0) (ltb b 2)) x y = if a = 0 ∧ b < 2 then x else y := by
  rw [ztl]
  by_cases h : a = 0 ∧ b < 2
  · have h1 : Nat.beq a 0 = true := Nat.beq_eq.symm ▸ h.1
    have h2 : ltb b 2 = true := by rw [zn3]; exact h.2
    rw [if_pos h, h1, h2]; rfl
  · rw [if_neg h, if_neg]
    intro e
    apply h
    have e : (Nat.beq a 0 && ltb b 2) = true := e
    rw [Bool.and_eq_true, zn3, Nat.beq_eq] at e
    exact e
theorem z44 {α : Type} (a b : Nat) (x y : α) : sel (Bool.and (Nat.beq a 0) (Nat.beq b 0)) x y = if a = 0 ∧ b = 0 then x else y := by
  rw [ztl]
  by_cases h : a = 0 ∧ b = 0
  · have h1 : Nat.beq a 0 = true := Nat.beq_eq.symm ▸ h.1
    have h2 : Nat.beq b 0 = true := Nat.beq_eq.symm ▸ h.2
    rw [if_pos h, h1, h2]; rfl
  · rw [if_neg h, if_neg]
    intro e
    apply h
    have e : (Nat.beq a 0 && Nat.beq b 0) = true := e
    rw [Bool.and_eq_true, Nat.beq_eq, Nat.beq_eq] at e
    exact e
theorem ycl {α : Type} (a b : Nat) (x y : α) : sel (ltb a b) x y = if a < b then x else y := by
  rw [ztl]
  by_cases h : a < b
  · rw [if_pos h, if_pos (by rw [zn3]; exact h)]
  · rw [if_neg h, if_neg (by rw [zn3]; exact h)]
theorem ycm {α : Type} (a b : Nat) (x y : α) : sel (Nat.beq a b) x y = if a = b then x else y := by
  rw [ztl]
  by_cases h : a = b
  · rw [if_pos h, if_pos (by rw [Nat.beq_eq]; exact h)]
  · rw [if_neg h, if_neg (by rw [Nat.beq_eq]; exact h)]
def wN (pass slice i : Nat) (a ah : List Nat) : Nat := if pass = 0 ∧ slice < 2 then a.getD i 0 else ah.getD 0 0
def ahN (slice lane i part : Nat) (fs : List (List Nat)) : List Nat := qgN (fs.getD lane []) ((slice * part + i + 4 * part - 1) % (4 * part))
noncomputable def newN (pass slice lane i L part : Nat) (a : List Nat) (fs : List (List Nat)) : List Nat :=
  zhk (ahN slice lane i part fs) (qgN (fs.getD (zaf pass slice lane L (wN pass slice i a (ahN slice lane i part fs))) []) (oIdx pass slice lane i part L (wN pass slice i a (ahN slice lane i part fs))))
noncomputable def zmx (pass slice lane i L part : Nat) (a : List Nat) (fs : List (List Nat)) : List (List Nat) :=
  fs.set lane (putN (fs.getD lane []) (slice * part + i) (if 0 < pass then List.zipWith xM (newN pass slice lane i L part a fs) (qgN (fs.getD lane []) (slice * part + i)) else newN pass slice lane i L part a fs))
structure GoodN (L part : Nat) (fs : List (List Nat)) : Prop where
  len : fs.length = L
  lane : ∀ g ∈ fs, g.length = 4 * part * 128
theorem GoodN.at {L part : Nat} {fs : List (List Nat)} (h : GoodN L part fs) {j : Nat} (hj : j < L) : (fs.getD j []).length = 4 * part * 128 := by
  refine h.lane _ ?_
  rw [List.getD_eq_getElem?_getD, List.getElem?_eq_getElem (by rw [h.len]; exact hj)]; exact List.getElem_mem _
theorem zk9 {pass slice lane L w : Nat} (h : lane < L) : zaf pass slice lane L w < L := by
  unfold zaf; split
  · exact h
  · exact Nat.mod_lt _ (by omega)
theorem zn2 {pass slice lane i part L w : Nat} (h : 0 < part) : oIdx pass slice lane i part L w < 4 * part := by unfold oIdx; exact Nat.mod_lt _ (by omega)
theorem zpw {pass slice lane i L part : Nat} {a : List Nat} {fs : List (List Nat)} (hg : GoodN L part fs) (hl : lane < L) (hp : 0 < part) : (newN pass slice lane i L part a fs).length = 128 := by
  unfold newN ahN
  exact zmd (zan (hg.at hl) (Nat.mod_lt _ (by omega))) (zan (hg.at (zk9 hl)) (zn2 hp))
theorem zxy {pass slice lane i L part : Nat} {a : List Nat} {fs : List (List Nat)} (hg : GoodN L part fs) (hs : slice < 4) (hl : lane < L) (hi : i < part) : GoodN L part (zmx pass slice lane i L part a fs) := by
  have h1 : slice * part ≤ 3 * part := Nat.mul_le_mul_right _ (by omega)
  have hn := zpw (pass := pass) (slice := slice) (i := i) (a := a) hg hl (by omega)
  refine ⟨by unfold zmx; rw [List.length_set]; exact hg.len, ?_⟩
  intro g hgg
  rcases List.mem_or_eq_of_mem_set hgg with h | rfl
  · exact hg.lane g h
  · refine z5l (hg.at hl) (by omega) ?_
    split
    · exact za0 hn (zan (hg.at hl) (by omega))
    · exact hn
theorem z4t {α : Type} {pass slice lane i L part : Nat} (a : List Nat) {fs : List (List Nat)} (k : List (List Nat) → α) (hg : GoodN L part fs) (hs : slice < 4) (hl : lane < L) (hi : i < part) :
    zrr pass slice lane i L part a fs k = k (zmx pass slice lane i L part a fs) := by
  have h1 : slice * part ≤ 3 * part := Nat.mul_le_mul_right _ (by omega)
  have hn := zpw (pass := pass) (slice := slice) (i := i) (a := a) hg hl (by omega)
  unfold zrr
  simp only [zcw, ybe, z6k, z43, z44, ycl, ycm]
  show pgC (fs.getD lane []) ((slice * part + i + 4 * part - 1) % (4 * part)) (fun ah => pgC (fs.getD (zaf pass slice lane L (wN pass slice i a ah)) []) (oIdx pass slice lane i part L (wN pass slice i a ah)) fun o => zsa ah o fun p =>
    if 0 < pass then (pgC (fs.getD lane []) (slice * part + i) fun old => zx p old fun p => ptC (fs.getD lane []) (slice * part + i) p fun f => sl fs lane f k) else (ptC (fs.getD lane []) (slice * part + i) p fun f => sl fs lane f k)) = _
  rw [ztv _ (hg.at hl) (Nat.mod_lt _ (by omega))]
  rw [ztv _ (hg.at (zk9 hl)) (zn2 (by omega)), zpm _ (zan (hg.at hl) (Nat.mod_lt _ (by omega))) (zan (hg.at (zk9 hl)) (zn2 (by omega)))]
  have e : zhk (qgN (fs.getD lane []) ((slice * part + i + 4 * part - 1) % (4 * part))) (qgN (fs.getD (zaf pass slice lane L (wN pass slice i a (qgN (fs.getD lane []) ((slice * part + i + 4 * part - 1) % (4 * part))))) []) (oIdx pass slice lane i part L (wN pass slice i a (qgN (fs.getD lane []) ((slice * part + i + 4 * part - 1) % (4 * part)))))) = newN pass slice lane i L part a fs := rfl
  rw [e]
  unfold zmx
  by_cases hp : 0 < pass
  · rw [if_pos hp, if_pos hp, ztv _ (hg.at hl) (by omega), zuf _ _ _ (by rw [hn, zan (hg.at hl) (by omega)]; exact Nat.le_refl _), z5m _ (hg.at hl) (by omega), z41]
  · rw [if_neg hp, if_neg hp, z5m _ (hg.at hl) (by omega), z41]
theorem z8l {pass slice lane i t L part : Nat} {a : List Nat} {fs : List (List Nat)} (hg : GoodN L part fs) (hs : slice < 4) (hl : lane < L) (hi : i < part) (ha : pass = 0 ∧ slice < 2 → a = adrN pass slice lane t L part) :
    (zcc fs).set lane (za3 pass slice lane i t L part (zcc fs) ((zcc fs).getD lane [])) = zcc (zmx pass slice lane i L part a fs) := by
  have h1 : slice * part ≤ 3 * part := Nat.mul_le_mul_right _ (by omega)
  have hn := zpw (pass := pass) (slice := slice) (i := i) (a := a) hg hl (by omega)
  have hahl : (ahN slice lane i part fs).length = 128 := zan (hg.at hl) (Nat.mod_lt _ (by omega))
  have hah : zcs slice i part (zc (fs.getD lane [])) = zc (ahN slice lane i part fs) := by unfold zcs ahN; rw [zk5]
  have hw : stepW pass slice lane i t L part (zc (fs.getD lane [])) = ((wN pass slice i a (ahN slice lane i part fs) : Nat) : Int) := by
    unfold stepW wN
    rw [hah]
    by_cases h : pass = 0 ∧ slice < 2
    · rw [if_pos h, if_pos h, yde, ha h, Y1]
    · rw [if_neg h, if_neg h, Y1]
  have hset : (zcc fs).set lane (zc (fs.getD lane [])) = zcc fs := by
    rw [← zj9]; exact zjc (by rw [ztd, hg.len]; exact hl)
  have hp : zdf pass slice lane i t L part (zcc fs) (zc (fs.getD lane [])) = zc (newN pass slice lane i L part a fs) := by
    unfold zdf
    rw [hah, hw, hset, Int.toNat_natCast]
    unfold zkm newN
    rw [zj9, zk5, zpj hahl (zan (hg.at (zk9 hl)) (zn2 (by omega)))]
  rw [zj9]
  unfold za3 zmx
  rw [hp, zk5]
  by_cases h : 0 < pass
  · rw [if_pos h, if_pos h, zga hn (zan (hg.at hl) (by omega)), znx, zzq]
  · rw [if_neg h, if_neg h, znx, zzq]
end Go.Proofs.Ytfnfmbikooeiaaa
namespace Go.Proofs.Ytfnfmbikooeiaaa
open Go.Ax
theorem z9f (n t m l : Int) (a b c d : List Int) (h : okS n t m l a b c d = false) :
    Zs Try.prog 44 [.v (.int .i64 n), .agg [.v (.int .i64 t), .v (.int .i64 m), .v (.int .i64 l)], .agg [.roI .u8 a, .roI .u8 b, .roI .u8 c, .roI .u8 d]] [] fun v h' => v = .tup [.v (.slice none 0 0), .v (.int .i64 80)] ∧ h' = [] := by
  refine Zs.weak (C := c26 0) rfl (κ := fun v h' => v = .tup [.v (.slice none 0 0), .v (.int .i64 80)]) ?_ ?_
  · refine Zq (zax 0) Try.func44 rfl ⟨by kernel_rfl, by show 3 ≤ _; decide, by kernel_rfl, by kernel_rfl⟩ rfl ?_; have hr : Try.f44.results.toList = [.tmp 6, .tmp 7] := rfl
    repeat (first | simp only [Qt, Yo, Y0, Nat.reduceBEq, reduceIte, Nat.reduceEqDiff, reduceCtorEq, ne_eq, if_true, if_false, exA, exA, tabs, exB, exD, Zl, Zp, Ze, Zi, Zn, AV.isAggV, AV.parts, AV.one, AV.solid, Zf, Zb, Zj, Zc, Zk, Zh, Zg, bndA, lenA, Zd, rowOf, Za, intsOf, Zo, Nat.reduceAdd, Nat.reduceSub, Nat.reduceMul, Nat.reduceLeDiff, Nat.reduceLT, Nat.reduceGT, Int.reduceToNat, Int.reduceLE, Int.reduceLT, Int.reduceEq, Int.reduceNe, Int.reduceAdd, Int.reduceSub, Int.reduceMul, Int.reduceNeg, ite_true, ite_false, dite_true, xc10, xc11, xc12, xc13, xc14, xc15, xc16, xc17, xc20, xc21, xc22, xc23, xc24, xc25, xc26, Zm, hr, h] | simp (maxSteps := 1000000) (disch := omega) only [exE, Int.toNat_natCast, Int.reduceToNat])
  · rintro v h' rfl
    exact ⟨_, _, zh6 rfl rfl, rfl, rfl⟩
theorem zrx (q : Nat → Nat) (n : Nat) : ∀ l : List Nat, zdl (l.map fun j => AV.sl (q j) 0 128 0 n n) = true
  | [] => rfl
  | a :: l => by simp only [List.map_cons, zdl, AV.noRo, zrx q n l, Bool.and_self]
theorem z6c (g : Nat → Nat) (L N : Nat) (fs : List (List Int)) (j : Nat) : Option.map (renL g) (lb L N fs j) = lb L N fs j := rfl
theorem z28 (t m L c part : Nat) (fs : List (List Int)) : zla (memH t m L c part fs) = true := by
  have h := zrx (fun j => 2 + j) (4 * part) (List.range L)
  unfold memH zla rowA
  simp only [List.all_cons, List.all_nil, h, lb, zdl, AV.noRo, Bool.and_self]
noncomputable def keyT (t L part : Nat) (seed : List Int) : List Int := zsb (sumS (4 * part) (J8 t L part (zj6 seed L (4 * part)) t) L)
theorem yll (n t m L part q N : Nat) (a b c d seed : List Int) (hn : 4 ≤ n ∧ n ≤ 128) (hL : 1 ≤ L ∧ L ≤ 4) (ht : 1 ≤ t ∧ t ≤ 8) (hm : m ≤ 256) (hok : okS n t m L a b c d = true) (hokP : okP t m L = true) (hpt : part = m / (4 * L)) (h7 : 2 ≤ part ∧ part ≤ 64) (hq : q = 4 * part) (hN : N = q * 128)
    (hsd : za4 n t m L a b c d = seed) (hsl : seed.length = 64) (fs0 : List (List Int)) (hf0 : fs0 = zj6 seed L (4 * part)) (pb : List Int) (hpb : pb = zsb (sumS q (J8 t L part fs0 t) L)) (hpl : pb.length = 1024) :
    Zs Try.prog 44 [.v (.int .i64 n), .agg [.v (.int .i64 t), .v (.int .i64 m), .v (.int .i64 L)], .agg [.roI .u8 a, .roI .u8 b, .roI .u8 c, .roI .u8 d]] [] fun v h' => ∃ x0 x1 x2 x3 x4 x5 x6 x7 x8 x9 k, v = .tup [.sl 10 0 1 0 n k, .v (.int .i64 0)] ∧ h' = [x0, x1, x2, x3, x4, x5, x6, x7, x8, x9, some [.arr n .u8 (Qm n (le4 n ++ pb))]] := by
  have hseed64 : List.take 64 seed = seed := List.take_of_length_le (by omega)
  have hg0 : GoodL L part fs0 := by rw [hf0]; exact zxa seed h7.1
  refine Zq (zax 0) Try.func44 rfl ⟨by kernel_rfl, by show 3 ≤ _; decide, by kernel_rfl, by kernel_rfl⟩ rfl ?_; have hr : Try.f44.results.toList = [.tmp 6, .tmp 7] := rfl
  repeat (first | simp only [Qt, Yo, Y0, Nat.reduceBEq, reduceIte, Nat.reduceEqDiff, reduceCtorEq, ne_eq, if_true, if_false, exA, exA, tabs, exB, exD, Zl, Zp, Ze, Zi, Zn, AV.isAggV, AV.parts, AV.one, AV.solid, Zf, Zb, Zj, Zc, Zk, Zh, Zg, bndA, lenA, Zd, rowOf, Za, intsOf, Zo, Nat.reduceAdd, Nat.reduceSub, Nat.reduceMul, Nat.reduceLeDiff, Nat.reduceLT, Nat.reduceGT, Int.reduceToNat, Int.reduceLE, Int.reduceLT, Int.reduceEq, Int.reduceNe, Int.reduceAdd, Int.reduceSub, Int.reduceMul, Int.reduceNeg, ite_true, ite_false, dite_true, xc10, xc11, xc12, xc13, xc14, xc15, xc16, xc17, xc20, xc21, xc22, xc23, xc24, xc25, xc26, Zm, hr, hok, hsd] | simp (maxSteps := 1000000) (disch := omega) only [exE, Int.toNat_natCast, Int.reduceToNat])
  intro k0 _
  repeat (first | simp only [Qt, Yo, Y0, Nat.reduceBEq, reduceIte, Nat.reduceEqDiff, reduceCtorEq, ne_eq, if_true, if_false, exA, exA, tabs, exB, exD, Zl, Zp, Ze, Zi, Zn, AV.isAggV, AV.parts, AV.one, AV.solid, Zf, Zb, Zj, Zc, Zk, Zh, Zg, bndA, lenA, Zd, rowOf, Za, intsOf, Zo, Nat.reduceAdd, Nat.reduceSub, Nat.reduceMul, Nat.reduceLeDiff, Nat.reduceLT, Nat.reduceGT, Int.reduceToNat, Int.reduceLE, Int.reduceLT, Int.reduceEq, Int.reduceNe, Int.reduceAdd, Int.reduceSub, Int.reduceMul, Int.reduceNeg, ite_true, ite_false, dite_true, xc10, xc11, xc12, xc13, xc14, xc15, xc16, xc17, xc20, xc21, xc22, xc23, xc24, xc25, xc26, Zm, hr] | simp (maxSteps := 1000000) (disch := omega) only [exE, Int.toNat_natCast, Int.reduceToNat])
  have hm8 : u8Of [some [.v (.int .i64 t), .v (.int .i64 m), .v (.int .i64 L)], some [.roI .u8 a, .roI .u8 b, .roI .u8 c, .roI .u8 d], some [.arr 64 .u8 seed]] (.sl 2 0 1 0 64 k0) = some seed := by
    unfold u8Of
    simp [intsOf, zcf, Zu, isU8, hsl, hseed64, Yq]
  have hcall := Zs.ro (h := [some [.v (.int .i64 t), .v (.int .i64 m), .v (.int .i64 L)], some [.roI .u8 a, .roI .u8 b, .roI .u8 c, .roI .u8 d], some [.arr 64 .u8 seed]]) (args := [.agg [.v (.int .i64 t), .v (.int .i64 m), .v (.int .i64 L)], .sl 2 0 1 0 64 k0]) (z91 t m L part seed hL ht.2 hm hokP hpt h7 hsl) (by rintro _ _ ⟨c, rfl, rfl⟩; exact ⟨rfl, z28 _ _ _ _ _ _⟩) (fun g => rfl) (List.range 3) ⟨Frz.same _, Qv hm8, trivial⟩
  refine Zs.mono hcall ?_
  · rintro _ _ ⟨v0, h0, ⟨k1, rfl, rfl⟩, rfl, rfl⟩
    rw [← hf0]
    simp only [memH, List.map_cons, List.map_nil, z6b, ← hq, ← hN]
    simp only [renB, Option.map_some, z2o, renL, AV.ren, List.length_cons, List.length_nil, Nat.reduceAdd, List.cons_append, List.nil_append]
    have hrw : ∀ len, renL (Z4 [3, 4, 5, 6, 7, 8, 0] len) (rowA (fun j => 2 + j) L q) = rowA (fun j => 3 + (2 + j)) L q := by
      intro len
      refine zks fun j hj => ?_
      rcases (by omega : j = 0 ∨ j = 1 ∨ j = 2 ∨ j = 3) with rfl | rfl | rfl | rfl <;> rfl
    repeat (first | simp only [Qt, Yo, Y0, Nat.reduceBEq, reduceIte, Nat.reduceEqDiff, reduceCtorEq, ne_eq, if_true, if_false, exA, exA, tabs, exB, exD, Zl, Zp, Ze, Zi, Zn, AV.isAggV, AV.parts, AV.one, AV.solid, Zf, Zb, Zj, Zc, Zk, Zh, Zg, bndA, lenA, Zd, rowOf, Za, intsOf, Zo, Nat.reduceAdd, Nat.reduceSub, Nat.reduceMul, Nat.reduceLeDiff, Nat.reduceLT, Nat.reduceGT, Int.reduceToNat, Int.reduceLE, Int.reduceLT, Int.reduceEq, Int.reduceNe, Int.reduceAdd, Int.reduceSub, Int.reduceMul, Int.reduceNeg, ite_true, ite_false, dite_true, xc10, xc11, xc12, xc13, xc14, xc15, xc16, xc17, xc20, xc21, xc22, xc23, xc24, xc25, xc26, Zm, hr] | simp (maxSteps := 1000000) (disch := omega) only [exE, Int.toNat_natCast, Int.reduceToNat])
    refine Z3 (zax 0) (fun p => ⟨envL [(0, .v (.int .i64 n)), (4, .ptr 6 0 0), (10, .ptr 0 0 0), (33, .v (.int .i64 t)), (34, .v (.int .i64 p))], [some [.v (.int .i64 t), .v (.int .i64 m), .v (.int .i64 L), .sl 1 0 1 0 L k1, .v (.int .i64 part)], some (rowA (fun j => 2 + j) L q), lb L N (J8 t L part fs0 p) 0, lb L N (J8 t L part fs0 p) 1, lb L N (J8 t L part fs0 p) 2, lb L N (J8 t L part fs0 p) 3, some [.v (.int .i64 t), .v (.int .i64 m), .v (.int .i64 L)]]⟩) t (by kernel_rfl) ?_ ?_ ?_
    · (refine Z2 [3, 4, 5, 6, 7, 8, 0] (by decide) (by simp) (by rfl) ?_ ?_; (focus (first | with_reducible rfl | (simp only [List.map_cons, List.map_nil, List.cons_append, List.nil_append, List.getElem?_cons_zero, List.getElem?_cons_succ, renB, renL, Option.map_some, Option.map_none, AV.ren, Z4, List.getD_cons_zero, List.getD_cons_succ, hrw, z6c, J8, Int.natCast_zero] <;> with_reducible rfl))); simp only [exF, List.map_cons, List.map_nil, List.length_cons, List.length_nil, Nat.reduceAdd, AV.ren, renL, Z4, Nat.reduceEqDiff, if_true, if_false, reduceIte, Option.some.injEq, reduceCtorEq, Int.cast_ofNat_Int, hrw, z6c, J8, Int.natCast_zero])
    · intro p hp
      have hgp := zjt (t := t) hg0 h7.1 p
      have hpt2 : ((p : Int) < (t : Int)) = True := by simp; omega
      have hS : J8 t L part fs0 (p + 1) = J2 p t L part (J8 t L part fs0 p) 4 := rfl
      rw [hS]
      repeat (first | simp only [Qt, Yo, Y0, Nat.reduceBEq, reduceIte, Nat.reduceEqDiff, reduceCtorEq, ne_eq, if_true, if_false, exA, exA, tabs, exB, exD, Zl, Zp, Ze, Zi, Zn, AV.isAggV, AV.parts, AV.one, AV.solid, Zf, Zb, Zj, Zc, Zk, Zh, Zg, bndA, lenA, Zd, rowOf, Za, intsOf, Zo, Nat.reduceAdd, Nat.reduceSub, Nat.reduceMul, Nat.reduceLeDiff, Nat.reduceLT, Nat.reduceGT, Int.reduceToNat, Int.reduceLE, Int.reduceLT, Int.reduceEq, Int.reduceNe, Int.reduceAdd, Int.reduceSub, Int.reduceMul, Int.reduceNeg, ite_true, ite_false, dite_true, xc10, xc11, xc12, xc13, xc14, xc15, xc16, xc17, xc20, xc21, xc22, xc23, xc24, xc25, xc26, Zm, hr, hpt2] | simp (maxSteps := 1000000) (disch := omega) only [exE, Int.toNat_natCast, Int.reduceToNat])
      refine Z3 (zax 0) (fun s => ⟨envL [(0, .v (.int .i64 n)), (4, .ptr 6 0 0), (10, .ptr 0 0 0), (11, .v (.int .i64 p)), (33, .v (.int .i64 t)), (34, .v (.int .i64 p)), (37, .v (.int .i64 s))], [some [.v (.int .i64 t), .v (.int .i64 m), .v (.int .i64 L), .sl 1 0 1 0 L k1, .v (.int .i64 part)], some (rowA (fun j => 2 + j) L q), lb L N (J2 p t L part (J8 t L part fs0 p) s) 0, lb L N (J2 p t L part (J8 t L part fs0 p) s) 1, lb L N (J2 p t L part (J8 t L part fs0 p) s) 2, lb L N (J2 p t L part (J8 t L part fs0 p) s) 3, some [.v (.int .i64 t), .v (.int .i64 m), .v (.int .i64 L)]]⟩) 4 (by kernel_rfl) ?_ ?_ ?_
      · (refine Z1 ?_ ?_; (focus (first | with_reducible rfl | (simp only [J2, Int.natCast_zero, Int.cast_ofNat_Int] <;> with_reducible rfl))); simp only [exF, Nat.reduceEqDiff, if_true, if_false, reduceIte, Option.some.injEq, reduceCtorEq, Int.cast_ofNat_Int, J2, Int.natCast_zero, Int.cast_ofNat_Int])
      · intro s hs
        have hgs := zhd (t := t) (pass := p) hgp h7.1 s (by omega)
        have hS2 : J2 p t L part (J8 t L part fs0 p) (s + 1) = zet p s t L part (J2 p t L part (J8 t L part fs0 p) s) L := rfl
        rw [hS2]
        repeat (first | simp only [Qt, Yo, Y0, Nat.reduceBEq, reduceIte, Nat.reduceEqDiff, reduceCtorEq, ne_eq, if_true, if_false, exA, exA, tabs, exB, exD, Zl, Zp, Ze, Zi, Zn, AV.isAggV, AV.parts, AV.one, AV.solid, Zf, Zb, Zj, Zc, Zk, Zh, Zg, bndA, lenA, Zd, rowOf, Za, intsOf, Zo, Nat.reduceAdd, Nat.reduceSub, Nat.reduceMul, Nat.reduceLeDiff, Nat.reduceLT, Nat.reduceGT, Int.reduceToNat, Int.reduceLE, Int.reduceLT, Int.reduceEq, Int.reduceNe, Int.reduceAdd, Int.reduceSub, Int.reduceMul, Int.reduceNeg, ite_true, ite_false, dite_true, xc10, xc11, xc12, xc13, xc14, xc15, xc16, xc17, xc20, xc21, xc22, xc23, xc24, xc25, xc26, Zm, hr] | simp (maxSteps := 1000000) (disch := omega) only [exE, Int.toNat_natCast, Int.reduceToNat])
        refine Z3 (zax 0) (fun l => ⟨envL [(0, .v (.int .i64 n)), (4, .ptr 6 0 0), (10, .ptr 0 0 0), (11, .v (.int .i64 p)), (12, .v (.int .i64 s)), (33, .v (.int .i64 t)), (34, .v (.int .i64 p)), (37, .v (.int .i64 s)), (41, .v (.int .i64 L)), (42, .v (.int .i64 l))], [some [.v (.int .i64 t), .v (.int .i64 m), .v (.int .i64 L), .sl 1 0 1 0 L k1, .v (.int .i64 part)], some (rowA (fun j => 2 + j) L q), lb L N (zet p s t L part (J2 p t L part (J8 t L part fs0 p) s) l) 0, lb L N (zet p s t L part (J2 p t L part (J8 t L part fs0 p) s) l) 1, lb L N (zet p s t L part (J2 p t L part (J8 t L part fs0 p) s) l) 2, lb L N (zet p s t L part (J2 p t L part (J8 t L part fs0 p) s) l) 3, some [.v (.int .i64 t), .v (.int .i64 m), .v (.int .i64 L)]]⟩) L (by kernel_rfl) ?_ ?_ ?_
        · (refine Z1 ?_ ?_; (focus (first | with_reducible rfl | (simp only [zet, Int.natCast_zero] <;> with_reducible rfl))); simp only [exF, Nat.reduceEqDiff, if_true, if_false, reduceIte, Option.some.injEq, reduceCtorEq, Int.cast_ofNat_Int, zet, Int.natCast_zero])
        · intro l hl
          have hgl := zjy (t := t) (pass := p) (slice := s) hgs hs h7.1 l (by omega)
          have hll : ((l : Int) < (L : Int)) = True := by simp; omega
          have hS3 : zet p s t L part (J2 p t L part (J8 t L part fs0 p) s) (l + 1) = zhe p s l t L part (zet p s t L part (J2 p t L part (J8 t L part fs0 p) s) l) := rfl
          rw [hS3]
          repeat (first | simp only [Qt, Yo, Y0, Nat.reduceBEq, reduceIte, Nat.reduceEqDiff, reduceCtorEq, ne_eq, if_true, if_false, exA, exA, tabs, exB, exD, Zl, Zp, Ze, Zi, Zn, AV.isAggV, AV.parts, AV.one, AV.solid, Zf, Zb, Zj, Zc, Zk, Zh, Zg, bndA, lenA, Zd, rowOf, Za, intsOf, Zo, Nat.reduceAdd, Nat.reduceSub, Nat.reduceMul, Nat.reduceLeDiff, Nat.reduceLT, Nat.reduceGT, Int.reduceToNat, Int.reduceLE, Int.reduceLT, Int.reduceEq, Int.reduceNe, Int.reduceAdd, Int.reduceSub, Int.reduceMul, Int.reduceNeg, ite_true, ite_false, dite_true, xc10, xc11, xc12, xc13, xc14, xc15, xc16, xc17, xc20, xc21, xc22, xc23, xc24, xc25, xc26, Zm, hr, hll] | simp (maxSteps := 1000000) (disch := omega) only [exE, Int.toNat_natCast, Int.reduceToNat])
          rw [hN, hq]
          refine zx2 (C := c26 0) (fs := (zet p s t L part (J2 p t L part (J8 t L part fs0 p) s) l)) rfl [some [.v (.int .i64 t), .v (.int .i64 m), .v (.int .i64 L)]] hgl (by omega) hs hl hL ht.2 h7 ?_
          repeat (first | simp only [Qt, Yo, Y0, Nat.reduceBEq, reduceIte, Nat.reduceEqDiff, reduceCtorEq, ne_eq, if_true, if_false, exA, exA, tabs, exB, exD, Zl, Zp, Ze, Zi, Zn, AV.isAggV, AV.parts, AV.one, AV.solid, Zf, Zb, Zj, Zc, Zk, Zh, Zg, bndA, lenA, Zd, rowOf, Za, intsOf, Zo, Nat.reduceAdd, Nat.reduceSub, Nat.reduceMul, Nat.reduceLeDiff, Nat.reduceLT, Nat.reduceGT, Int.reduceToNat, Int.reduceLE, Int.reduceLT, Int.reduceEq, Int.reduceNe, Int.reduceAdd, Int.reduceSub, Int.reduceMul, Int.reduceNeg, ite_true, ite_false, dite_true, xc10, xc11, xc12, xc13, xc14, xc15, xc16, xc17, xc20, xc21, xc22, xc23, xc24, xc25, xc26, Zm, hr, memH] | simp (maxSteps := 1000000) (disch := omega) only [exE, Int.toNat_natCast, Int.reduceToNat])
          (refine Z1 ?_ ?_; (focus (first | with_reducible rfl | (simp only [] <;> with_reducible rfl))); simp only [exF, Nat.reduceEqDiff, if_true, if_false, reduceIte, Option.some.injEq, reduceCtorEq, Int.cast_ofNat_Int])
        · repeat (first | simp only [Qt, Yo, Y0, Nat.reduceBEq, reduceIte, Nat.reduceEqDiff, reduceCtorEq, ne_eq, if_true, if_false, exA, exA, tabs, exB, exD, Zl, Zp, Ze, Zi, Zn, AV.isAggV, AV.parts, AV.one, AV.solid, Zf, Zb, Zj, Zc, Zk, Zh, Zg, bndA, lenA, Zd, rowOf, Za, intsOf, Zo, Nat.reduceAdd, Nat.reduceSub, Nat.reduceMul, Nat.reduceLeDiff, Nat.reduceLT, Nat.reduceGT, Int.reduceToNat, Int.reduceLE, Int.reduceLT, Int.reduceEq, Int.reduceNe, Int.reduceAdd, Int.reduceSub, Int.reduceMul, Int.reduceNeg, ite_true, ite_false, dite_true, xc10, xc11, xc12, xc13, xc14, xc15, xc16, xc17, xc20, xc21, xc22, xc23, xc24, xc25, xc26, Zm, hr] | simp (maxSteps := 1000000) (disch := omega) only [exE, Int.toNat_natCast, Int.reduceToNat])
          (refine Z1 ?_ ?_; (focus (first | with_reducible rfl | (simp only [] <;> with_reducible rfl))); simp only [exF, Nat.reduceEqDiff, if_true, if_false, reduceIte, Option.some.injEq, reduceCtorEq, Int.cast_ofNat_Int])
      · repeat (first | simp only [Qt, Yo, Y0, Nat.reduceBEq, reduceIte, Nat.reduceEqDiff, reduceCtorEq, ne_eq, if_true, if_false, exA, exA, tabs, exB, exD, Zl, Zp, Ze, Zi, Zn, AV.isAggV, AV.parts, AV.one, AV.solid, Zf, Zb, Zj, Zc, Zk, Zh, Zg, bndA, lenA, Zd, rowOf, Za, intsOf, Zo, Nat.reduceAdd, Nat.reduceSub, Nat.reduceMul, Nat.reduceLeDiff, Nat.reduceLT, Nat.reduceGT, Int.reduceToNat, Int.reduceLE, Int.reduceLT, Int.reduceEq, Int.reduceNe, Int.reduceAdd, Int.reduceSub, Int.reduceMul, Int.reduceNeg, ite_true, ite_false, dite_true, xc10, xc11, xc12, xc13, xc14, xc15, xc16, xc17, xc20, xc21, xc22, xc23, xc24, xc25, xc26, Zm, hr] | simp (maxSteps := 1000000) (disch := omega) only [exE, Int.toNat_natCast, Int.reduceToNat])
        (refine Z1 ?_ ?_; (focus (first | with_reducible rfl | (simp only [] <;> with_reducible rfl))); simp only [exF, Nat.reduceEqDiff, if_true, if_false, reduceIte, Option.some.injEq, reduceCtorEq, Int.cast_ofNat_Int])
    · obtain ⟨fs, hfs⟩ : ∃ fs, fs = J8 t L part fs0 t := ⟨_, rfl⟩
      have hg := zjt (t := t) hg0 h7.1 t
      rw [← hfs] at hg hpb ⊢
      repeat (first | simp only [Qt, Yo, Y0, Nat.reduceBEq, reduceIte, Nat.reduceEqDiff, reduceCtorEq, ne_eq, if_true, if_false, exA, exA, tabs, exB, exD, Zl, Zp, Ze, Zi, Zn, AV.isAggV, AV.parts, AV.one, AV.solid, Zf, Zb, Zj, Zc, Zk, Zh, Zg, bndA, lenA, Zd, rowOf, Za, intsOf, Zo, Nat.reduceAdd, Nat.reduceSub, Nat.reduceMul, Nat.reduceLeDiff, Nat.reduceLT, Nat.reduceGT, Int.reduceToNat, Int.reduceLE, Int.reduceLT, Int.reduceEq, Int.reduceNe, Int.reduceAdd, Int.reduceSub, Int.reduceMul, Int.reduceNeg, ite_true, ite_false, dite_true, xc10, xc11, xc12, xc13, xc14, xc15, xc16, xc17, xc20, xc21, xc22, xc23, xc24, xc25, xc26, Zm, hr] | simp (maxSteps := 1000000) (disch := omega) only [exE, Int.toNat_natCast, Int.reduceToNat])
      refine Z3 (zax 0) (fun l => ⟨envL [(0, .v (.int .i64 n)), (14, .ptr 7 0 0), (57, .sl 1 0 1 0 L k1), (58, .v (.int .i64 L)), (59, .v (.int .i64 l))], [some [.v (.int .i64 t), .v (.int .i64 m), .v (.int .i64 L), .sl 1 0 1 0 L k1, .v (.int .i64 part)], some (rowA (fun j => 2 + j) L q), lb L N fs 0, lb L N fs 1, lb L N fs 2, lb L N fs 3, some [.v (.int .i64 t), .v (.int .i64 m), .v (.int .i64 L)], some [.arr 128 .u64 (sumS q fs l)]]⟩) L (by kernel_rfl) ?_ ?_ ?_
      · (refine Z1 ?_ ?_; (focus (first | with_reducible rfl | (simp only [sumS, Int.natCast_zero] <;> with_reducible rfl))); simp only [exF, Nat.reduceEqDiff, if_true, if_false, reduceIte, Option.some.injEq, reduceCtorEq, Int.cast_ofNat_Int, sumS, Int.natCast_zero])
      · intro l hl
        have hll : ((l : Int) < (L : Int)) = True := by simp; omega
        have hS : sumS q fs (l + 1) = xorK (sumS q fs l) (Yx (fs.getD l []) (q - 1)) 128 := rfl
        rw [hS]
        have hsum := zop q fs l
        have hfl := hg.lane _ (hg.at hl)
        obtain ⟨f, hf⟩ : ∃ f, fs.getD l [] = f := ⟨_, rfl⟩
        obtain ⟨u, hu⟩ : ∃ u, sumS q fs l = u := ⟨_, rfl⟩
        rw [hf] at hfl
        rw [hf, hu]
        rw [hu] at hsum
        have hlb : lb L N fs l = some [.arr N .u64 f] := by unfold lb; rw [if_pos hl, if_pos hl, hf]
        have hcell : Y2 (rowA (fun j => 2 + j) L q) l = some (.sl (2 + l) 0 128 0 q q) := zry hl
        have wq : IntKind.i64.wrap ((q : Int) - 1) = ((q - 1 : Nat) : Int) := by rw [Zz _ (by omega)]; omega
        have hfN : f.length = N := by rw [hfl, hN, hq]
        have hpgl : (Yx f (q - 1)).length = 128 := zap (n := q) (by rw [hfN, hN]) (by omega)
        have hpge : List.drop ((q - 1) * 128) f = Yx f (q - 1) := (List.take_of_length_le (by rw [List.length_drop]; omega)).symm
        rcases Nat.lt_or_ge l 1 with hl0 | hl0
        · obtain rfl : l = 0 := by omega
          repeat (first | simp only [Qt, Yo, Y0, Nat.reduceBEq, reduceIte, Nat.reduceEqDiff, reduceCtorEq, ne_eq, if_true, if_false, exA, exA, tabs, exB, exD, Zl, Zp, Ze, Zi, Zn, AV.isAggV, AV.parts, AV.one, AV.solid, Zf, Zb, Zj, Zc, Zk, Zh, Zg, bndA, lenA, Zd, rowOf, Za, intsOf, Zo, Nat.reduceAdd, Nat.reduceSub, Nat.reduceMul, Nat.reduceLeDiff, Nat.reduceLT, Nat.reduceGT, Int.reduceToNat, Int.reduceLE, Int.reduceLT, Int.reduceEq, Int.reduceNe, Int.reduceAdd, Int.reduceSub, Int.reduceMul, Int.reduceNeg, ite_true, ite_false, dite_true, xc10, xc11, xc12, xc13, xc14, xc15, xc16, xc17, xc20, xc21, xc22, xc23, xc24, xc25, xc26, Zm, hr, hll, hcell, hlb, wq] | simp (maxSteps := 1000000) (disch := omega) only [exE, Int.toNat_natCast, Int.reduceToNat])
          repeat (with_reducible refine And.intro (by first | omega | assumption) ?_)
          rw [hpge]
          obtain ⟨g, hgg⟩ : ∃ g, Yx f (q - 1) = g := ⟨_, rfl⟩
          rw [hgg] at hpgl ⊢
          refine Z3 (zax 0) (fun i => ⟨envL [(0, .v (.int .i64 n)), (14, .ptr 7 0 0), (57, .sl 1 0 1 0 L k1), (58, .v (.int .i64 L)), (59, .v (.int .i64 0)), (68, .arr 128 .u64 g), (69, .v (.int .i64 i))], [some [.v (.int .i64 t), .v (.int .i64 m), .v (.int .i64 L), .sl 1 0 1 0 L k1, .v (.int .i64 part)], some (rowA (fun j => 2 + j) L q), lb L N fs 0, lb L N fs 1, lb L N fs 2, lb L N fs 3, some [.v (.int .i64 t), .v (.int .i64 m), .v (.int .i64 L)], some [.arr 128 .u64 (xorK u g i)]]⟩) 128 (by kernel_rfl) ?_ ?_ ?_
          · (refine Z1 ?_ ?_; (focus (first | with_reducible rfl | (simp only [xorK, hlb, Int.natCast_zero, Int.cast_ofNat_Int] <;> with_reducible rfl))); simp only [exF, Nat.reduceEqDiff, if_true, if_false, reduceIte, Option.some.injEq, reduceCtorEq, Int.cast_ofNat_Int, xorK, hlb, Int.natCast_zero, Int.cast_ofNat_Int])
          · intro i hi
            have hxl : (xorK u g i).length = 128 := by rw [Qu, hsum]
            have hS : xorK u g (i + 1) = (xorK u g i).set i (xorU ((xorK u g i).getD i 0) (g.getD i 0)) := rfl
            rw [hS]
            obtain ⟨x, hx⟩ : ∃ x, xorK u g i = x := ⟨_, rfl⟩
            rw [hx] at hxl ⊢
            repeat (first | simp only [Qt, Yo, Y0, Nat.reduceBEq, reduceIte, Nat.reduceEqDiff, reduceCtorEq, ne_eq, if_true, if_false, exA, exA, tabs, exB, exD, Zl, Zp, Ze, Zi, Zn, AV.isAggV, AV.parts, AV.one, AV.solid, Zf, Zb, Zj, Zc, Zk, Zh, Zg, bndA, lenA, Zd, rowOf, Za, intsOf, Zo, Nat.reduceAdd, Nat.reduceSub, Nat.reduceMul, Nat.reduceLeDiff, Nat.reduceLT, Nat.reduceGT, Int.reduceToNat, Int.reduceLE, Int.reduceLT, Int.reduceEq, Int.reduceNe, Int.reduceAdd, Int.reduceSub, Int.reduceMul, Int.reduceNeg, ite_true, ite_false, dite_true, xc10, xc11, xc12, xc13, xc14, xc15, xc16, xc17, xc20, xc21, xc22, xc23, xc24, xc25, xc26, Zm, hr] | simp (maxSteps := 1000000) (disch := omega) only [exE, Int.toNat_natCast, Int.reduceToNat])
            repeat (with_reducible refine And.intro (by first | omega | assumption) ?_)
            (refine Z1 ?_ ?_; (focus (first | with_reducible rfl | (simp only [] <;> with_reducible rfl))); simp only [exF, Nat.reduceEqDiff, if_true, if_false, reduceIte, Option.some.injEq, reduceCtorEq, Int.cast_ofNat_Int])
          · repeat (first | simp only [Qt, Yo, Y0, Nat.reduceBEq, reduceIte, Nat.reduceEqDiff, reduceCtorEq, ne_eq, if_true, if_false, exA, exA, tabs, exB, exD, Zl, Zp, Ze, Zi, Zn, AV.isAggV, AV.parts, AV.one, AV.solid, Zf, Zb, Zj, Zc, Zk, Zh, Zg, bndA, lenA, Zd, rowOf, Za, intsOf, Zo, Nat.reduceAdd, Nat.reduceSub, Nat.reduceMul, Nat.reduceLeDiff, Nat.reduceLT, Nat.reduceGT, Int.reduceToNat, Int.reduceLE, Int.reduceLT, Int.reduceEq, Int.reduceNe, Int.reduceAdd, Int.reduceSub, Int.reduceMul, Int.reduceNeg, ite_true, ite_false, dite_true, xc10, xc11, xc12, xc13, xc14, xc15, xc16, xc17, xc20, xc21, xc22, xc23, xc24, xc25, xc26, Zm, hr] | simp (maxSteps := 1000000) (disch := omega) only [exE, Int.toNat_natCast, Int.reduceToNat])
            (refine Z1 ?_ ?_; (focus (first | with_reducible rfl | (simp only [hlb] <;> with_reducible rfl))); simp only [exF, Nat.reduceEqDiff, if_true, if_false, reduceIte, Option.some.injEq, reduceCtorEq, Int.cast_ofNat_Int, hlb])
            rfl
        rcases Nat.lt_or_ge l 2 with hl1 | hl1
        · obtain rfl : l = 1 := by omega
          repeat (first | simp only [Qt, Yo, Y0, Nat.reduceBEq, reduceIte, Nat.reduceEqDiff, reduceCtorEq, ne_eq, if_true, if_false, exA, exA, tabs, exB, exD, Zl, Zp, Ze, Zi, Zn, AV.isAggV, AV.parts, AV.one, AV.solid, Zf, Zb, Zj, Zc, Zk, Zh, Zg, bndA, lenA, Zd, rowOf, Za, intsOf, Zo, Nat.reduceAdd, Nat.reduceSub, Nat.reduceMul, Nat.reduceLeDiff, Nat.reduceLT, Nat.reduceGT, Int.reduceToNat, Int.reduceLE, Int.reduceLT, Int.reduceEq, Int.reduceNe, Int.reduceAdd, Int.reduceSub, Int.reduceMul, Int.reduceNeg, ite_true, ite_false, dite_true, xc10, xc11, xc12, xc13, xc14, xc15, xc16, xc17, xc20, xc21, xc22, xc23, xc24, xc25, xc26, Zm, hr, hll, hcell, hlb, wq] | simp (maxSteps := 1000000) (disch := omega) only [exE, Int.toNat_natCast, Int.reduceToNat])
          repeat (with_reducible refine And.intro (by first | omega | assumption) ?_)
          rw [hpge]
          obtain ⟨g, hgg⟩ : ∃ g, Yx f (q - 1) = g := ⟨_, rfl⟩
          rw [hgg] at hpgl ⊢
          refine Z3 (zax 0) (fun i => ⟨envL [(0, .v (.int .i64 n)), (14, .ptr 7 0 0), (57, .sl 1 0 1 0 L k1), (58, .v (.int .i64 L)), (59, .v (.int .i64 1)), (68, .arr 128 .u64 g), (69, .v (.int .i64 i))], [some [.v (.int .i64 t), .v (.int .i64 m), .v (.int .i64 L), .sl 1 0 1 0 L k1, .v (.int .i64 part)], some (rowA (fun j => 2 + j) L q), lb L N fs 0, lb L N fs 1, lb L N fs 2, lb L N fs 3, some [.v (.int .i64 t), .v (.int .i64 m), .v (.int .i64 L)], some [.arr 128 .u64 (xorK u g i)]]⟩) 128 (by kernel_rfl) ?_ ?_ ?_
          · (refine Z1 ?_ ?_; (focus (first | with_reducible rfl | (simp only [xorK, hlb, Int.natCast_zero, Int.cast_ofNat_Int] <;> with_reducible rfl))); simp only [exF, Nat.reduceEqDiff, if_true, if_false, reduceIte, Option.some.injEq, reduceCtorEq, Int.cast_ofNat_Int, xorK, hlb, Int.natCast_zero, Int.cast_ofNat_Int])
          · intro i hi
            have hxl : (xorK u g i).length = 128 := by rw [Qu, hsum]
            have hS : xorK u g (i + 1) = (xorK u g i).set i (xorU ((xorK u g i).getD i 0) (g.getD i 0)) := rfl
            rw [hS]
            obtain ⟨x, hx⟩ : ∃ x, xorK u g i = x := ⟨_, rfl⟩
            rw [hx] at hxl ⊢
            repeat (first | simp only [Qt, Yo, Y0, Nat.reduceBEq, reduceIte, Nat.reduceEqDiff, reduceCtorEq, ne_eq, if_true, if_false, exA, exA, tabs, exB, exD, Zl, Zp, Ze, Zi, Zn, AV.isAggV, AV.parts, AV.one, AV.solid, Zf, Zb, Zj, Zc, Zk, Zh, Zg, bndA, lenA, Zd, rowOf, Za, intsOf, Zo, Nat.reduceAdd, Nat.reduceSub, Nat.reduceMul, Nat.reduceLeDiff, Nat.reduceLT, Nat.reduceGT, Int.reduceToNat, Int.reduceLE, Int.reduceLT, Int.reduceEq, Int.reduceNe, Int.reduceAdd, Int.reduceSub, Int.reduceMul, Int.reduceNeg, ite_true, ite_false, dite_true, xc10, xc11, xc12, xc13, xc14, xc15, xc16, xc17, xc20, xc21, xc22, xc23, xc24, xc25, xc26, Zm, hr] | simp (maxSteps := 1000000) (disch := omega) only [exE, Int.toNat_natCast, Int.reduceToNat])
            repeat (with_reducible refine And.intro (by first | omega | assumption) ?_)
            (refine Z1 ?_ ?_; (focus (first | with_reducible rfl | (simp only [] <;> with_reducible rfl))); simp only [exF, Nat.reduceEqDiff, if_true, if_false, reduceIte, Option.some.injEq, reduceCtorEq, Int.cast_ofNat_Int])
          · repeat (first | simp only [Qt, Yo, Y0, Nat.reduceBEq, reduceIte, Nat.reduceEqDiff, reduceCtorEq, ne_eq, if_true, if_false, exA, exA, tabs, exB, exD, Zl, Zp, Ze, Zi, Zn, AV.isAggV, AV.parts, AV.one, AV.solid, Zf, Zb, Zj, Zc, Zk, Zh, Zg, bndA, lenA, Zd, rowOf, Za, intsOf, Zo, Nat.reduceAdd, Nat.reduceSub, Nat.reduceMul, Nat.reduceLeDiff, Nat.reduceLT, Nat.reduceGT, Int.reduceToNat, Int.reduceLE, Int.reduceLT, Int.reduceEq, Int.reduceNe, Int.reduceAdd, Int.reduceSub, Int.reduceMul, Int.reduceNeg, ite_true, ite_false, dite_true, xc10, xc11, xc12, xc13, xc14, xc15, xc16, xc17, xc20, xc21, xc22, xc23, xc24, xc25, xc26, Zm, hr] | simp (maxSteps := 1000000) (disch := omega) only [exE, Int.toNat_natCast, Int.reduceToNat])
            (refine Z1 ?_ ?_; (focus (first | with_reducible rfl | (simp only [hlb] <;> with_reducible rfl))); simp only [exF, Nat.reduceEqDiff, if_true, if_false, reduceIte, Option.some.injEq, reduceCtorEq, Int.cast_ofNat_Int, hlb])
            rfl
        rcases Nat.lt_or_ge l 3 with hl2 | hl2
        · obtain rfl : l = 2 := by omega
          repeat (first | simp only [Qt, Yo, Y0, Nat.reduceBEq, reduceIte, Nat.reduceEqDiff, reduceCtorEq, ne_eq, if_true, if_false, exA, exA, tabs, exB, exD, Zl, Zp, Ze, Zi, Zn, AV.isAggV, AV.parts, AV.one, AV.solid, Zf, Zb, Zj, Zc, Zk, Zh, Zg, bndA, lenA, Zd, rowOf, Za, intsOf, Zo, Nat.reduceAdd, Nat.reduceSub, Nat.reduceMul, Nat.reduceLeDiff, Nat.reduceLT, Nat.reduceGT, Int.reduceToNat, Int.reduceLE, Int.reduceLT, Int.reduceEq, Int.reduceNe, Int.reduceAdd, Int.reduceSub, Int.reduceMul, Int.reduceNeg, ite_true, ite_false, dite_true, xc10, xc11, xc12, xc13, xc14, xc15, xc16, xc17, xc20, xc21, xc22, xc23, xc24, xc25, xc26, Zm, hr, hll, hcell, hlb, wq] | simp (maxSteps := 1000000) (disch := omega) only [exE, Int.toNat_natCast, Int.reduceToNat])
          repeat (with_reducible refine And.intro (by first | omega | assumption) ?_)
          rw [hpge]
          obtain ⟨g, hgg⟩ : ∃ g, Yx f (q - 1) = g := ⟨_, rfl⟩
          rw [hgg] at hpgl ⊢
          refine Z3 (zax 0) (fun i => ⟨envL [(0, .v (.int .i64 n)), (14, .ptr 7 0 0), (57, .sl 1 0 1 0 L k1), (58, .v (.int .i64 L)), (59, .v (.int .i64 2)), (68, .arr 128 .u64 g), (69, .v (.int .i64 i))], [some [.v (.int .i64 t), .v (.int .i64 m), .v (.int .i64 L), .sl 1 0 1 0 L k1, .v (.int .i64 part)], some (rowA (fun j => 2 + j) L q), lb L N fs 0, lb L N fs 1, lb L N fs 2, lb L N fs 3, some [.v (.int .i64 t), .v (.int .i64 m), .v (.int .i64 L)], some [.arr 128 .u64 (xorK u g i)]]⟩) 128 (by kernel_rfl) ?_ ?_ ?_
          · (refine Z1 ?_ ?_; (focus (first | with_reducible rfl | (simp only [xorK, hlb, Int.natCast_zero, Int.cast_ofNat_Int] <;> with_reducible rfl))); simp only [exF, Nat.reduceEqDiff, if_true, if_false, reduceIte, Option.some.injEq, reduceCtorEq, Int.cast_ofNat_Int, xorK, hlb, Int.natCast_zero, Int.cast_ofNat_Int])
          · intro i hi
            have hxl : (xorK u g i).length = 128 := by rw [Qu, hsum]
            have hS : xorK u g (i + 1) = (xorK u g i).set i (xorU ((xorK u g i).getD i 0) (g.getD i 0)) := rfl
            rw [hS]
            obtain ⟨x, hx⟩ : ∃ x, xorK u g i = x := ⟨_, rfl⟩
            rw [hx] at hxl ⊢
            repeat (first | simp only [Qt, Yo, Y0, Nat.reduceBEq, reduceIte, Nat.reduceEqDiff, reduceCtorEq, ne_eq, if_true, if_false, exA, exA, tabs, exB, exD, Zl, Zp, Ze, Zi, Zn, AV.isAggV, AV.parts, AV.one, AV.solid, Zf, Zb, Zj, Zc, Zk, Zh, Zg, bndA, lenA, Zd, rowOf, Za, intsOf, Zo, Nat.reduceAdd, Nat.reduceSub, Nat.reduceMul, Nat.reduceLeDiff, Nat.reduceLT, Nat.reduceGT, Int.reduceToNat, Int.reduceLE, Int.reduceLT, Int.reduceEq, Int.reduceNe, Int.reduceAdd, Int.reduceSub, Int.reduceMul, Int.reduceNeg, ite_true, ite_false, dite_true, xc10, xc11, xc12, xc13, xc14, xc15, xc16, xc17, xc20, xc21, xc22, xc23, xc24, xc25, xc26, Zm, hr] | simp (maxSteps := 1000000) (disch := omega) only [exE, Int.toNat_natCast, Int.reduceToNat])
            repeat (with_reducible refine And.intro (by first | omega | assumption) ?_)
            (refine Z1 ?_ ?_; (focus (first | with_reducible rfl | (simp only [] <;> with_reducible rfl))); simp only [exF, Nat.reduceEqDiff, if_true, if_false, reduceIte, Option.some.injEq, reduceCtorEq, Int.cast_ofNat_Int])
          · repeat (first | simp only [Qt, Yo, Y0, Nat.reduceBEq, reduceIte, Nat.reduceEqDiff, reduceCtorEq, ne_eq, if_true, if_false, exA, exA, tabs, exB, exD, Zl, Zp, Ze, Zi, Zn, AV.isAggV, AV.parts, AV.one, AV.solid, Zf, Zb, Zj, Zc, Zk, Zh, Zg, bndA, lenA, Zd, rowOf, Za, intsOf, Zo, Nat.reduceAdd, Nat.reduceSub, Nat.reduceMul, Nat.reduceLeDiff, Nat.reduceLT, Nat.reduceGT, Int.reduceToNat, Int.reduceLE, Int.reduceLT, Int.reduceEq, Int.reduceNe, Int.reduceAdd, Int.reduceSub, Int.reduceMul, Int.reduceNeg, ite_true, ite_false, dite_true, xc10, xc11, xc12, xc13, xc14, xc15, xc16, xc17, xc20, xc21, xc22, xc23, xc24, xc25, xc26, Zm, hr] | simp (maxSteps := 1000000) (disch := omega) only [exE, Int.toNat_natCast, Int.reduceToNat])
            (refine Z1 ?_ ?_; (focus (first | with_reducible rfl | (simp only [hlb] <;> with_reducible rfl))); simp only [exF, Nat.reduceEqDiff, if_true, if_false, reduceIte, Option.some.injEq, reduceCtorEq, Int.cast_ofNat_Int, hlb])
            rfl
        rcases Nat.lt_or_ge l 4 with hl3 | hl3
        · obtain rfl : l = 3 := by omega
          repeat (first | simp only [Qt, Yo, Y0, Nat.reduceBEq, reduceIte, Nat.reduceEqDiff, reduceCtorEq, ne_eq, if_true, if_false, exA, exA, tabs, exB, exD, Zl, Zp, Ze, Zi, Zn, AV.isAggV, AV.parts, AV.one, AV.solid, Zf, Zb, Zj, Zc, Zk, Zh, Zg, bndA, lenA, Zd, rowOf, Za, intsOf, Zo, Nat.reduceAdd, Nat.reduceSub, Nat.reduceMul, Nat.reduceLeDiff, Nat.reduceLT, Nat.reduceGT, Int.reduceToNat, Int.reduceLE, Int.reduceLT, Int.reduceEq, Int.reduceNe, Int.reduceAdd, Int.reduceSub, Int.reduceMul, Int.reduceNeg, ite_true, ite_false, dite_true, xc10, xc11, xc12, xc13, xc14, xc15, xc16, xc17, xc20, xc21, xc22, xc23, xc24, xc25, xc26, Zm, hr, hll, hcell, hlb, wq] | simp (maxSteps := 1000000) (disch := omega) only [exE, Int.toNat_natCast, Int.reduceToNat])
          repeat (with_reducible refine And.intro (by first | omega | assumption) ?_)
          rw [hpge]
          obtain ⟨g, hgg⟩ : ∃ g, Yx f (q - 1) = g := ⟨_, rfl⟩
          rw [hgg] at hpgl ⊢
          refine Z3 (zax 0) (fun i => ⟨envL [(0, .v (.int .i64 n)), (14, .ptr 7 0 0), (57, .sl 1 0 1 0 L k1), (58, .v (.int .i64 L)), (59, .v (.int .i64 3)), (68, .arr 128 .u64 g), (69, .v (.int .i64 i))], [some [.v (.int .i64 t), .v (.int .i64 m), .v (.int .i64 L), .sl 1 0 1 0 L k1, .v (.int .i64 part)], some (rowA (fun j => 2 + j) L q), lb L N fs 0, lb L N fs 1, lb L N fs 2, lb L N fs 3, some [.v (.int .i64 t), .v (.int .i64 m), .v (.int .i64 L)], some [.arr 128 .u64 (xorK u g i)]]⟩) 128 (by kernel_rfl) ?_ ?_ ?_
          · (refine Z1 ?_ ?_; (focus (first | with_reducible rfl | (simp only [xorK, hlb, Int.natCast_zero, Int.cast_ofNat_Int] <;> with_reducible rfl))); simp only [exF, Nat.reduceEqDiff, if_true, if_false, reduceIte, Option.some.injEq, reduceCtorEq, Int.cast_ofNat_Int, xorK, hlb, Int.natCast_zero, Int.cast_ofNat_Int])
          · intro i hi
            have hxl : (xorK u g i).length = 128 := by rw [Qu, hsum]
            have hS : xorK u g (i + 1) = (xorK u g i).set i (xorU ((xorK u g i).getD i 0) (g.getD i 0)) := rfl
            rw [hS]
            obtain ⟨x, hx⟩ : ∃ x, xorK u g i = x := ⟨_, rfl⟩
            rw [hx] at hxl ⊢
            repeat (first | simp only [Qt, Yo, Y0, Nat.reduceBEq, reduceIte, Nat.reduceEqDiff, reduceCtorEq, ne_eq, if_true, if_false, exA, exA, tabs, exB, exD, Zl, Zp, Ze, Zi, Zn, AV.isAggV, AV.parts, AV.one, AV.solid, Zf, Zb, Zj, Zc, Zk, Zh, Zg, bndA, lenA, Zd, rowOf, Za, intsOf, Zo, Nat.reduceAdd, Nat.reduceSub, Nat.reduceMul, Nat.reduceLeDiff, Nat.reduceLT, Nat.reduceGT, Int.reduceToNat, Int.reduceLE, Int.reduceLT, Int.reduceEq, Int.reduceNe, Int.reduceAdd, Int.reduceSub, Int.reduceMul, Int.reduceNeg, ite_true, ite_false, dite_true, xc10, xc11, xc12, xc13, xc14, xc15, xc16, xc17, xc20, xc21, xc22, xc23, xc24, xc25, xc26, Zm, hr] | simp (maxSteps := 1000000) (disch := omega) only [exE, Int.toNat_natCast, Int.reduceToNat])
            repeat (with_reducible refine And.intro (by first | omega | assumption) ?_)
            (refine Z1 ?_ ?_; (focus (first | with_reducible rfl | (simp only [] <;> with_reducible rfl))); simp only [exF, Nat.reduceEqDiff, if_true, if_false, reduceIte, Option.some.injEq, reduceCtorEq, Int.cast_ofNat_Int])
          · repeat (first | simp only [Qt, Yo, Y0, Nat.reduceBEq, reduceIte, Nat.reduceEqDiff, reduceCtorEq, ne_eq, if_true, if_false, exA, exA, tabs, exB, exD, Zl, Zp, Ze, Zi, Zn, AV.isAggV, AV.parts, AV.one, AV.solid, Zf, Zb, Zj, Zc, Zk, Zh, Zg, bndA, lenA, Zd, rowOf, Za, intsOf, Zo, Nat.reduceAdd, Nat.reduceSub, Nat.reduceMul, Nat.reduceLeDiff, Nat.reduceLT, Nat.reduceGT, Int.reduceToNat, Int.reduceLE, Int.reduceLT, Int.reduceEq, Int.reduceNe, Int.reduceAdd, Int.reduceSub, Int.reduceMul, Int.reduceNeg, ite_true, ite_false, dite_true, xc10, xc11, xc12, xc13, xc14, xc15, xc16, xc17, xc20, xc21, xc22, xc23, xc24, xc25, xc26, Zm, hr] | simp (maxSteps := 1000000) (disch := omega) only [exE, Int.toNat_natCast, Int.reduceToNat])
            (refine Z1 ?_ ?_; (focus (first | with_reducible rfl | (simp only [hlb] <;> with_reducible rfl))); simp only [exF, Nat.reduceEqDiff, if_true, if_false, reduceIte, Option.some.injEq, reduceCtorEq, Int.cast_ofNat_Int, hlb])
            rfl
        omega
      · have hsum := zop q fs L
        obtain ⟨u, hu⟩ : ∃ u, sumS q fs L = u := ⟨_, rfl⟩
        rw [hu] at hsum hpb ⊢
        have hut : List.take 128 u = u := List.take_of_length_le (by omega)
        have hpt2 : List.take 1024 pb = pb := List.take_of_length_le (by omega)
        repeat (first | simp only [Qt, Yo, Y0, Nat.reduceBEq, reduceIte, Nat.reduceEqDiff, reduceCtorEq, ne_eq, if_true, if_false, exA, exA, tabs, exB, exD, Zl, Zp, Ze, Zi, Zn, AV.isAggV, AV.parts, AV.one, AV.solid, Zf, Zb, Zj, Zc, Zk, Zh, Zg, bndA, lenA, Zd, rowOf, Za, intsOf, Zo, Nat.reduceAdd, Nat.reduceSub, Nat.reduceMul, Nat.reduceLeDiff, Nat.reduceLT, Nat.reduceGT, Int.reduceToNat, Int.reduceLE, Int.reduceLT, Int.reduceEq, Int.reduceNe, Int.reduceAdd, Int.reduceSub, Int.reduceMul, Int.reduceNeg, ite_true, ite_false, dite_true, xc10, xc11, xc12, xc13, xc14, xc15, xc16, xc17, xc20, xc21, xc22, xc23, xc24, xc25, xc26, Zm, hr, hsum, hut, ← hpb, hpl, hpt2] | simp (maxSteps := 1000000) (disch := omega) only [exE, Int.toNat_natCast, Int.reduceToNat])
        intro c8 _ c9 _
        exact ⟨_, _, _, _, _, _, _, _, _, _, _, rfl, rfl⟩
theorem z82 {t m L : Nat} (h : okP t m L = true) : 1 ≤ L ∧ L ≤ 4 ∧ 1 ≤ t ∧ t ≤ 8 ∧ m ≤ 256 ∧ 2 ≤ m / (4 * L) ∧ m / (4 * L) ≤ 64 := by
  have h := zk8.1 h
  refine ⟨by omega, by omega, by omega, by omega, by omega, ?_, ?_⟩
  · rw [Nat.le_div_iff_mul_le (by omega)]; omega
  · exact Nat.le_trans (Nat.div_le_div_left (show 4 ≤ 4 * L by omega) (by decide)) (by omega)
theorem key_ok (n t m L : Nat) (a b c d : List Int) (hok : okS n t m L a b c d = true) :
    Zs Try.prog 44 [.v (.int .i64 n), .agg [.v (.int .i64 t), .v (.int .i64 m), .v (.int .i64 L)], .agg [.roI .u8 a, .roI .u8 b, .roI .u8 c, .roI .u8 d]] [] fun v h' => ∃ k, v = .tup [.sl 0 0 1 0 n k, .v (.int .i64 0)] ∧ h' = [some [.arr n .u8 (Qm n (le4 n ++ keyT t L (m / (4 * L)) (za4 n t m L a b c d)))]] := by
  have h0 := zn1.1 hok
  have hp := z82 h0.2.2.1
  refine Zs.weak (C := c26 0) rfl (yll n t m L (m / (4 * L)) (4 * (m / (4 * L))) (4 * (m / (4 * L)) * 128) a b c d _ (by omega) ⟨hp.1, hp.2.1⟩ ⟨hp.2.2.1, hp.2.2.2.1⟩ hp.2.2.2.2.1 hok h0.2.2.1 rfl hp.2.2.2.2.2 rfl rfl rfl (by unfold za4; rw [Qh]) _ rfl (keyT t L (m / (4 * L)) (za4 n t m L a b c d)) rfl (z2z _)) ?_
  rintro v h' ⟨x0, x1, x2, x3, x4, x5, x6, x7, x8, x9, k, rfl, rfl⟩
  exact ⟨_, _, Z2 [10] (by decide) (by simp) (by rfl) rfl ⟨rfl, trivial⟩, _, rfl, rfl⟩
end Go.Proofs.Ytfnfmbikooeiaaa
namespace Go.Proofs.Ytfnfmbikooeiaaa
open Go.Ax Go.Kn
noncomputable def runC {α : Type} (pass slice lane L part : Nat) (a : List Nat) (k : List (List Nat) → α) (n i : Nat) (fs : List (List Nat)) : α :=
  Nat.rec (motive := fun _ => Nat → List (List Nat) → α) (fun _ fs => k fs) (fun _ ih i fs => zrr pass slice lane i L part a fs fun fs => fc (Nat.succ i) fun i => ih i fs) n i fs
theorem z2j {α : Type} (pass slice lane L part : Nat) (a : List Nat) (k : List (List Nat) → α) (n i : Nat) (fs : List (List Nat)) :
    runC pass slice lane L part a k (n + 1) i fs = zrr pass slice lane i L part a fs fun fs => fc (Nat.succ i) fun i => runC pass slice lane L part a k n i fs := rfl
noncomputable def zge (pass slice lane L part : Nat) (a : List Nat) (lo : Nat) (fs : List (List Nat)) : Nat → List (List Nat)
  | 0 => fs
  | k + 1 => zmx pass slice lane (lo + k) L part a (zge pass slice lane L part a lo fs k)
theorem zu1 (pass slice lane L part : Nat) (a : List Nat) (lo : Nat) (fs : List (List Nat)) (k : Nat) : zge pass slice lane L part a lo fs (k + 1) = zmx pass slice lane (lo + k) L part a (zge pass slice lane L part a lo fs k) := rfl
theorem ze1 {pass slice lane L part lo : Nat} {a : List Nat} {fs : List (List Nat)} (hg : GoodN L part fs) (hs : slice < 4) (hl : lane < L) : ∀ k, lo + k ≤ part → GoodN L part (zge pass slice lane L part a lo fs k)
  | 0, _ => hg
  | k + 1, h => zxy (ze1 hg hs hl k (by omega)) hs hl (by omega)
theorem z8w {α : Type} {pass slice lane L part lo : Nat} {a : List Nat} {fs : List (List Nat)} (hg : GoodN L part fs) (hs : slice < 4) (hl : lane < L) (K : List (List Nat) → α) (n : Nat) :
    ∀ k, lo + k + n ≤ part → runC pass slice lane L part a K n (lo + k) (zge pass slice lane L part a lo fs k) = K (zge pass slice lane L part a lo fs (k + n)) := by
  induction n with
  | zero => intro k _; rfl
  | succ n ih =>
    intro k h
    rw [z2j, z4t _ _ (ze1 hg hs hl k (by omega)) hs hl (by omega), zcw, ← zu1, show Nat.succ (lo + k) = lo + (k + 1) from rfl, ih (k + 1) (by omega), show k + 1 + n = k + (n + 1) by omega]
theorem zu0 {pass slice lane t L part : Nat} {a : List Nat} {fs : List (List Nat)} (hg : GoodN L part fs) (hs : slice < 4) (hl : lane < L) (ha : pass = 0 ∧ slice < 2 → a = adrN pass slice lane t L part) :
    ∀ k, loS pass slice + k ≤ part → fsK pass slice lane t L part (zcc fs) k = zcc (zge pass slice lane L part a (loS pass slice) fs k)
  | 0, _ => ylp (by rw [ztd, hg.len]; exact hl)
  | k + 1, h => by
    rw [← z6r (by rw [ztd, hg.len]; exact hl) k, zu0 hg hs hl ha k (by omega), z8l (ze1 hg hs hl k (by omega)) hs hl (by omega) ha]
    rfl
noncomputable def zl5 (pass slice lane t L part : Nat) (fs : List (List Nat)) : List (List Nat) :=
  zge pass slice lane L part (if pass = 0 ∧ slice < 2 then adrN pass slice lane t L part else []) (loS pass slice) fs (part - loS pass slice)
theorem zyq (pass slice : Nat) : loS pass slice ≤ 2 := by unfold loS; split <;> omega
theorem zu5 {pass slice lane t L part : Nat} {fs : List (List Nat)} (hg : GoodN L part fs) (hs : slice < 4) (hl : lane < L) (hp : 2 ≤ part) : GoodN L part (zl5 pass slice lane t L part fs) := by
  have := zyq pass slice
  exact ze1 hg hs hl _ (by omega)
theorem z2d {α : Type} {pass slice lane t L part : Nat} {fs : List (List Nat)} (k : List (List Nat) → α) (hg : GoodN L part fs) (hs : slice < 4) (hl : lane < L) (hp : 2 ≤ part) :
    ztk pass slice lane t L part fs k = k (zl5 pass slice lane t L part fs) := by
  have hlo := zyq pass slice
  unfold ztk
  rw [zcw, z44, zcw, z43, z94]
  have e : (if pass = 0 ∧ slice = 0 then 2 else 0) = loS pass slice := rfl
  rw [e]
  have key : ∀ a, runC pass slice lane L part a k (part - loS pass slice) (loS pass slice) fs = k (zge pass slice lane L part a (loS pass slice) fs (part - loS pass slice)) := by
    intro a
    have h := z8w (lo := loS pass slice) (a := a) (pass := pass) hg hs hl k (part - loS pass slice) 0 (by omega)
    rw [Nat.add_zero, Nat.zero_add] at h
    exact h
  unfold zl5
  by_cases h : pass = 0 ∧ slice < 2
  · rw [if_pos h, if_pos h]; exact key _
  · rw [if_neg h, if_neg h]; exact key _
theorem z4v {pass slice lane t L part : Nat} {fs : List (List Nat)} (hg : GoodN L part fs) (hs : slice < 4) (hl : lane < L) (hp : 2 ≤ part) : zhe pass slice lane t L part (zcc fs) = zcc (zl5 pass slice lane t L part fs) := by
  have hlo := zyq pass slice
  exact zu0 (t := t) hg hs hl (fun h => if_pos h) (part - loS pass slice) (by omega)
noncomputable def zdr (pass slice t L part : Nat) (fs : List (List Nat)) : Nat → List (List Nat)
  | 0 => fs
  | l + 1 => zl5 pass slice l t L part (zdr pass slice t L part fs l)
noncomputable def zbw (pass t L part : Nat) (fs : List (List Nat)) : Nat → List (List Nat)
  | 0 => fs
  | s + 1 => zdr pass s t L part (zbw pass t L part fs s) L
noncomputable def zci (t L part : Nat) (fs : List (List Nat)) : Nat → List (List Nat)
  | 0 => fs
  | p + 1 => zbw p t L part (zci t L part fs p) 4
theorem zfc {t L part : Nat} (hp : 2 ≤ part) {pass slice : Nat} {fs : List (List Nat)} (hg : GoodN L part fs) (hs : slice < 4) : ∀ l, l ≤ L → GoodN L part (zdr pass slice t L part fs l)
  | 0, _ => hg
  | l + 1, h => zu5 (zfc hp hg hs l (by omega)) hs (by omega) hp
theorem zdy {t L part : Nat} (hp : 2 ≤ part) {pass : Nat} {fs : List (List Nat)} (hg : GoodN L part fs) : ∀ s, s ≤ 4 → GoodN L part (zbw pass t L part fs s)
  | 0, _ => hg
  | s + 1, h => zfc hp (zdy hp hg s (by omega)) (by omega) L (Nat.le_refl _)
theorem zbi {t L part : Nat} (hp : 2 ≤ part) {fs : List (List Nat)} (hg : GoodN L part fs) : ∀ p, GoodN L part (zci t L part fs p)
  | 0 => hg
  | p + 1 => zdy hp (zbi hp hg p) 4 (Nat.le_refl _)
theorem zwk {t L part : Nat} (hp : 2 ≤ part) {pass slice : Nat} {fs : List (List Nat)} (hg : GoodN L part fs) (hs : slice < 4) : ∀ l, l ≤ L → zet pass slice t L part (zcc fs) l = zcc (zdr pass slice t L part fs l)
  | 0, _ => rfl
  | l + 1, h => by
    simp only [zet, zdr]
    rw [zwk hp hg hs l (by omega), z4v (zfc hp hg hs l (by omega)) hs (by omega) hp]
theorem zrt {t L part : Nat} (hp : 2 ≤ part) {pass : Nat} {fs : List (List Nat)} (hg : GoodN L part fs) : ∀ s, s ≤ 4 → J2 pass t L part (zcc fs) s = zcc (zbw pass t L part fs s)
  | 0, _ => rfl
  | s + 1, h => by
    simp only [J2, zbw]
    rw [zrt hp hg s (by omega), zwk hp (zdy hp hg s (by omega)) (by omega) L (Nat.le_refl _)]
theorem zr8 {t L part : Nat} (hp : 2 ≤ part) {fs : List (List Nat)} (hg : GoodN L part fs) : ∀ p, J8 t L part (zcc fs) p = zcc (zci t L part fs p)
  | 0 => rfl
  | p + 1 => by
    simp only [J8, zci]
    rw [zr8 hp hg p, zrt hp (zbi hp hg p) 4 (Nat.le_refl _)]
theorem z3c {t L part : Nat} (hp : 2 ≤ part) {α : Type} {pass slice : Nat} {fs : List (List Nat)} (hg : GoodN L part fs) (hs : slice < 4) (K : List (List Nat) → α) (n : Nat) :
    ∀ l, l + n ≤ L → zp4 n l pass slice t L part (zdr pass slice t L part fs l) K = K (zdr pass slice t L part fs (l + n)) := by
  induction n with
  | zero => intro l _; rfl
  | succ n ih =>
    intro l h
    have e : zp4 (n + 1) l pass slice t L part (zdr pass slice t L part fs l) K = ztk pass slice l t L part (zdr pass slice t L part fs l) fun fs => fc (Nat.succ l) fun l => zp4 n l pass slice t L part fs K := rfl
    rw [e, z2d _ (zfc hp hg hs l (by omega)) hs (by omega) hp, zcw, show zl5 pass slice l t L part (zdr pass slice t L part fs l) = zdr pass slice t L part fs (l + 1) from rfl, show Nat.succ l = l + 1 from rfl, ih (l + 1) (by omega), show l + 1 + n = l + (n + 1) by omega]
theorem zx1 {t L part : Nat} (hp : 2 ≤ part) {α : Type} {pass : Nat} {fs : List (List Nat)} (hg : GoodN L part fs) (K : List (List Nat) → α) (n : Nat) :
    ∀ s, s + n ≤ 4 → zif n s pass t L part (zbw pass t L part fs s) K = K (zbw pass t L part fs (s + n)) := by
  induction n with
  | zero => intro s _; rfl
  | succ n ih =>
    intro s h
    have e : zif (n + 1) s pass t L part (zbw pass t L part fs s) K = zp4 L 0 pass s t L part (zbw pass t L part fs s) fun fs => fc (Nat.succ s) fun s => zif n s pass t L part fs K := rfl
    have h2 := z3c (t := t) hp (pass := pass) (slice := s) (zdy (pass := pass) (t := t) hp hg s (by omega)) (by omega) (fun fs => fc (Nat.succ s) fun s => zif n s pass t L part fs K) L 0 (by omega)
    rw [e]
    refine Eq.trans h2 ?_
    rw [zcw, Nat.zero_add, show zdr pass s t L part (zbw pass t L part fs s) L = zbw pass t L part fs (s + 1) from rfl, show Nat.succ s = s + 1 from rfl, ih (s + 1) (by omega), show s + 1 + n = s + (n + 1) by omega]
theorem z5o {t L part : Nat} (hp : 2 ≤ part) {α : Type} {fs : List (List Nat)} (hg : GoodN L part fs) (K : List (List Nat) → α) (n : Nat) :
    ∀ p, zvp n p t L part (zci t L part fs p) K = K (zci t L part fs (p + n)) := by
  induction n with
  | zero => intro p; rfl
  | succ n ih =>
    intro p
    have e : zvp (n + 1) p t L part (zci t L part fs p) K = zif 4 0 p t L part (zci t L part fs p) fun fs => fc (Nat.succ p) fun p => zvp n p t L part fs K := rfl
    have h2 := zx1 (t := t) hp (pass := p) (zbi (t := t) hp hg p) (fun fs => fc (Nat.succ p) fun p => zvp n p t L part fs K) 4 0 (by omega)
    rw [e]
    refine Eq.trans h2 ?_
    rw [zcw, Nat.zero_add, show zbw p t L part (zci t L part fs p) 4 = zci t L part fs (p + 1) from rfl, show Nat.succ p = p + 1 from rfl, ih (p + 1), show p + 1 + n = p + (n + 1) by omega]
noncomputable def zle (sd z : List Nat) (l : Nat) : List Nat := begP sd 0 l ++ (begP sd 1 l ++ z)
theorem zqt (sd : List Nat) (i l : Nat) : (begP sd i l).length = 128 := zgb _ _
noncomputable def zjx (sd z : List Nat) : Nat → Nat → List (List Nat)
  | _, 0 => []
  | l, n + 1 => zle sd z l :: zjx sd z (l + 1) n
theorem z3r {α : Type} {sd : List Nat} (hs : sd.length = 64) (z : List Nat) (n : Nat) : ∀ (l : Nat) (k : List (List Nat) → α), zud n l sd z k = k (zjx sd z l n) := by
  induction n with
  | zero => intro l k; rfl
  | succ n ih =>
    intro l k
    have e : zud (n + 1) l sd z k = begC sd 0 l fun a => begC sd 1 l fun b => apC b z fun f => apC a f fun f => fc (Nat.succ l) fun l => zud n l sd z fun fs => k (f :: fs) := rfl
    rw [e, z1i hs, z1i hs, zj8, zj8, zcw, ih]
    rfl
theorem znm (seed : List Int) (l n k : Nat) : Yi seed l n (k + 1) = putAt (Yi seed l n k) k (zb5 (begB seed k l)) := rfl
theorem z9c {sd : List Nat} (h : BtN sd) (l : Nat) : Yi (zc sd) l 8 2 = zc (zle sd (List.replicate 768 0) l) := by
  have e0 : Yi (zc sd) l 8 0 = zc (List.replicate 1024 0) := by
    rw [zbd, zqe, ztf, Int.natCast_zero]
  have e1 : Yi (zc sd) l 8 2 = putAt (putAt (Yi (zc sd) l 8 0) 0 (zb5 (begB (zc sd) ((0 : Nat) : Int) l))) 1 (zb5 (begB (zc sd) ((1 : Nat) : Int) l)) := by
    rw [show (2 : Nat) = 0 + 1 + 1 from rfl, znm, znm]
  rw [e1, e0, z7o h, z7o h, znx, znx]
  refine congrArg zc ?_
  unfold putN zle
  have ha := zqt sd 0 l
  obtain ⟨a, haa⟩ : ∃ a, begP sd 0 l = a := ⟨_, rfl⟩
  obtain ⟨b, hbb⟩ : ∃ b, begP sd 1 l = b := ⟨_, rfl⟩
  rw [haa] at ha
  rw [haa, hbb]
  simp only [Nat.zero_mul, List.take_zero, List.nil_append, Nat.one_mul, Nat.zero_add, List.drop_replicate]
  rw [List.take_append_of_le_length (by omega), List.take_of_length_le (by omega), List.drop_append, List.drop_of_length_le (by omega), ha, List.nil_append, List.drop_replicate, List.append_assoc]
theorem z7n {sd : List Nat} (h : BtN sd) : zj6 (zc sd) 4 8 = zcc (zjx sd (List.replicate 768 0) 0 4) := by
  unfold zj6
  rw [show List.range 4 = [0, 1, 2, 3] from rfl]
  simp only [List.map_cons, List.map_nil, z9c h, zjx, zcc, Nat.zero_add, Nat.reduceAdd]
theorem zdm (sd : List Nat) : GoodN 4 2 (zjx sd (List.replicate 768 0) 0 4) := by
  refine ⟨rfl, ?_⟩
  have hl : ∀ l, (zle sd (List.replicate 768 0) l).length = 4 * 2 * 128 := fun l => by
    unfold zle
    rw [List.length_append, List.length_append, zqt, zqt, List.length_replicate]
  intro g hg
  have e : zjx sd (List.replicate 768 0) 0 4 = [zle sd (List.replicate 768 0) 0, zle sd (List.replicate 768 0) 1, zle sd (List.replicate 768 0) 2, zle sd (List.replicate 768 0) 3] := rfl
  rw [e] at hg
  simp only [List.mem_cons, List.not_mem_nil, or_false] at hg
  rcases hg with rfl | rfl | rfl | rfl <;> exact hl _
noncomputable def sumN (n : Nat) : List (List Nat) → List Nat → List Nat
  | [], u => u
  | f :: fs, u => sumN n fs (List.zipWith xM u (qgN f (n - 1)))
theorem zz6 {α : Type} {n : Nat} (hn : 0 < n) : ∀ (fs : List (List Nat)) (u : List Nat) (k : List Nat → α), (∀ f ∈ fs, f.length = n * 128) → u.length = 128 → sumC n fs u k = k (sumN n fs u)
  | [], u, k, _, _ => rfl
  | f :: fs, u, k, h, hu => by
    have hf := h f (List.mem_cons_self ..)
    have hq := zan (j := n - 1) hf (by omega)
    have e : sumC n (f :: fs) u k = pgC f (Nat.sub n 1) fun g => zx u g fun u => sumC n fs u k := rfl
    rw [e, show Nat.sub n 1 = n - 1 from rfl, ztv _ hf (by omega), zuf _ _ _ (by omega), zz6 hn fs _ k (fun g hg => h g (List.mem_cons_of_mem _ hg)) (za0 hu hq)]
    rfl
theorem ycj {n : Nat} (hn : 0 < n) {fs : List (List Nat)} (h4 : fs.length = 4) (h : ∀ f ∈ fs, f.length = n * 128) : sumS n (zcc fs) 4 = zc (sumN n fs zeros) := by
  match fs, h4 with
  | [f0, f1, f2, f3], _ =>
    have h0 := zan (j := n - 1) (h f0 (by simp)) (by omega)
    have h1 := zan (j := n - 1) (h f1 (by simp)) (by omega)
    have h2 := zan (j := n - 1) (h f2 (by simp)) (by omega)
    have h3 := zan (j := n - 1) (h f3 (by simp)) (by omega)
    have hz : List.replicate 128 (0 : Int) = zc zeros := by unfold zeros; rw [ztf]; rfl
    have hzl : zeros.length = 128 := rfl
    simp only [sumS, zj9, zk5]
    rw [hz, show [f0, f1, f2, f3].getD 0 [] = f0 from rfl, show [f0, f1, f2, f3].getD 1 [] = f1 from rfl, show [f0, f1, f2, f3].getD 2 [] = f2 from rfl, show [f0, f1, f2, f3].getD 3 [] = f3 from rfl]
    rw [zga hzl h0, zga (za0 hzl h0) h1, zga (za0 (za0 hzl h0) h1) h2, zga (za0 (za0 (za0 hzl h0) h1) h2) h3]
    rfl
theorem zkk {n : Nat} (hn : 0 < n) : ∀ (fs : List (List Nat)) (u : List Nat), (∀ f ∈ fs, f.length = n * 128) → u.length = 128 → (sumN n fs u).length = 128
  | [], u, _, hu => hu
  | f :: fs, u, h, hu => zkk hn fs _ (fun g hg => h g (List.mem_cons_of_mem _ hg)) (za0 hu (zan (h f (List.mem_cons_self ..)) (by omega)))
noncomputable def zp3 (sd : List Nat) : List Nat := zcr (sumN 8 (zci 3 4 2 (zjx sd (List.replicate 768 0) 0 4) 3) zeros)
theorem z9h {sd : List Nat} (h : BtN sd) : keyT 3 4 2 (zc sd) = zc (zp3 sd) := by
  have hg := zbi (t := 3) (show 2 ≤ 2 by omega) (zdm sd) 3
  have hp := zr8 (t := 3) (show 2 ≤ 2 by omega) (zdm sd) 3
  have e8 : 4 * 2 = 8 := rfl
  unfold keyT zp3
  rw [zpn, e8, z7n h, hp, ycj (by decide) hg.len hg.lane]
  have hl := zkk (n := 8) (by decide) _ zeros hg.lane rfl
  unfold Ju
  rw [z7h (by rw [hl]; decide), List.take_of_length_le (by rw [zbb, hl]; decide)]
noncomputable def keyN : List Nat := zcv 32 1028 ([32, 0, 0, 0] ++ zp3 (zcv 64 108 zg9))
theorem z9i {α : Type} (k : List Nat → α) : keyC zg9 108 k = k keyN := by
  have hs : (zcv 64 108 zg9).length = 64 := zsv (Nat.le_refl _) _ _
  obtain ⟨sd, hsd⟩ : ∃ sd, zcv 64 108 zg9 = sd := ⟨_, rfl⟩
  rw [hsd] at hs
  have hg := zbi (t := 3) (show 2 ≤ 2 by omega) (zdm sd) 3
  unfold keyC keyN
  rw [zl0, zlj _ (Nat.le_refl _) (show zg9.length = 108 from rfl), hsd, zl0, z3r hs]
  have h2 := z5o (t := 3) (show 2 ≤ 2 by omega) (zdm sd) (fun fs => allC zeros fun u => sumC 8 fs u fun u => zml u fun b => zlk 32 1028 ([32, 0, 0, 0] ++ b) k) 3 0
  refine Eq.trans h2 ?_
  rw [Nat.zero_add, zl0, zz6 (by decide) _ _ _ hg.lane rfl, zmk, zlj _ (by decide) ?_]
  · rfl
  · rw [List.length_append, zbb, zkk (by decide) _ zeros hg.lane rfl]; rfl
end Go.Proofs.Ytfnfmbikooeiaaa
namespace Go.Proofs.Ytfnfmbikooeiaaa
open Go.Ax Go.Kn
noncomputable def chk (k : List Nat) : Bool := Bool.and (Nat.beq (gt k 0) 13) (Bool.and (Nat.beq (gt k 1) 100) (Bool.and (Nat.beq (gt k 2) 13) (Bool.and (Nat.beq (gt k 30) 230) (Nat.beq (gt k 31) 89))))
theorem zyu : keyC zg9 108 (fun k => chk k) = true := by decide +kernel
theorem yc5 (k : List Nat) (h : chk k = true) : k.getD 0 0 = 13 ∧ k.getD 1 0 = 100 ∧ k.getD 2 0 = 13 ∧ k.getD 30 0 = 230 ∧ k.getD 31 0 = 89 := by
  have h : (Nat.beq (gt k 0) 13 && (Nat.beq (gt k 1) 100 && (Nat.beq (gt k 2) 13 && (Nat.beq (gt k 30) 230 && Nat.beq (gt k 31) 89)))) = true := h
  simp only [Bool.and_eq_true, Nat.beq_eq, z6k] at h
  exact h
theorem z6f : chk keyN = true := (z9i (fun k => chk k)).symm.trans zyu
theorem zlg : keyN.getD 0 0 = 13 ∧ keyN.getD 1 0 = 100 ∧ keyN.getD 2 0 = 13 ∧ keyN.getD 30 0 = 230 ∧ keyN.getD 31 0 = 89 := yc5 _ z6f
end Go.Proofs.Ytfnfmbikooeiaaa
namespace Go.Proofs.Ytfnfmbikooeiaaa
open Go.Ax
noncomputable def keyV (n t m l : Int) (a b c d : List Int) : List Int := Classical.choose (p := fun x => x = Qm n.toNat (le4 n ++ keyT t.toNat l.toNat (m.toNat / (4 * l.toNat)) (za4 n t m l a b c d))) ⟨_, rfl⟩
theorem zt1 (n t m l : Int) (a b c d : List Int) : keyV n t m l a b c d = Qm n.toNat (le4 n ++ keyT t.toNat l.toNat (m.toNat / (4 * l.toNat)) (za4 n t m l a b c d)) :=
  Classical.choose_spec (p := fun x => x = Qm n.toNat (le4 n ++ keyT t.toNat l.toNat (m.toNat / (4 * l.toNat)) (za4 n t m l a b c d))) ⟨_, rfl⟩
theorem zyo (n : Nat) (all : List Int) : (Qm n all).length = n := by
  unfold Qm
  split
  · rw [Qh]
  · rw [List.length_append, zc3, Qh]
    try omega
theorem zwm (n t m l : Int) (a b c d : List Int) : (keyV n t m l a b c d).length = n.toNat := by rw [zt1, zyo]
noncomputable def N44 (h : List Blk) : List AV → Option Out
  | [.v (.int .i64 n), .agg [.v (.int .i64 t), .v (.int .i64 m), .v (.int .i64 l)], .agg [x, y, z, u]] =>
    (u8Of h x).bind fun a => (u8Of h y).bind fun b => (u8Of h z).bind fun c => (u8Of h u).bind fun d =>
      osel (okS n t m l a b c d) (some (.cap 0 fun k => (.tup [.sl h.length 0 1 0 n.toNat k, .v (.int .i64 0)], h ++ [some [.arr n.toNat .u8 (keyV n t m l a b c d)]])))
        (some (.one (.tup [.v (.slice none 0 0), .v (.int .i64 80)]) h))
  | _ => none
theorem ym6 (h : List Blk) (n t m l : Int) (x y z u : AV) : N44 h [.v (.int .i64 n), .agg [.v (.int .i64 t), .v (.int .i64 m), .v (.int .i64 l)], .agg [x, y, z, u]] =
    (u8Of h x).bind fun a => (u8Of h y).bind fun b => (u8Of h z).bind fun c => (u8Of h u).bind fun d =>
      osel (okS n t m l a b c d) (some (.cap 0 fun k => (.tup [.sl h.length 0 1 0 n.toNat k, .v (.int .i64 0)], h ++ [some [.arr n.toNat .u8 (keyV n t m l a b c d)]])))
        (some (.one (.tup [.v (.slice none 0 0), .v (.int .i64 80)]) h)) := rfl
theorem z9d {f : FuncId} (bad : ∀ (n t m l : Int) (a b c d : List Int), okS n t m l a b c d = false → Zs Try.prog f [.v (.int .i64 n), .agg [.v (.int .i64 t), .v (.int .i64 m), .v (.int .i64 l)], .agg [.roI .u8 a, .roI .u8 b, .roI .u8 c, .roI .u8 d]] [] fun v h' => v = .tup [.v (.slice none 0 0), .v (.int .i64 80)] ∧ h' = [])
    (ok : ∀ (n t m l : Int) (a b c d : List Int), okS n t m l a b c d = true → Zs Try.prog f [.v (.int .i64 n), .agg [.v (.int .i64 t), .v (.int .i64 m), .v (.int .i64 l)], .agg [.roI .u8 a, .roI .u8 b, .roI .u8 c, .roI .u8 d]] [] fun v h' => ∃ c0, v = .tup [.sl 0 0 1 0 n.toNat c0, .v (.int .i64 0)] ∧ h' = [some [.arr n.toNat .u8 (keyV n t m l a b c d)]]) :
    ∀ (h : List Blk) (args : List AV) (out : Out), N44 h args = some out → (out.all fun _ h' => ∃ ext, h' = h ++ ext) ∧ ∀ κ, out.all κ → Zs Try.prog f args h κ := by
  intro h args out hN
  unfold N44 at hN
  split at hN
  · rename_i n t m l x y z u
    obtain ⟨a, ha, hN⟩ := Option.bind_eq_some_iff.1 hN
    obtain ⟨b, hb, hN⟩ := Option.bind_eq_some_iff.1 hN
    obtain ⟨c, hc, hN⟩ := Option.bind_eq_some_iff.1 hN
    obtain ⟨d, hd, hN⟩ := Option.bind_eq_some_iff.1 hN
    cases hk : okS n t m l a b c d with
    | true =>
      rw [zcj hk] at hN
      cases hN
      refine ⟨fun c _ => ⟨_, rfl⟩, fun κ hκ => Ql (args := [.v (.int .i64 n), .agg [.v (.int .i64 t), .v (.int .i64 m), .v (.int .i64 l)], .agg [x, y, z, u]]) (ok n t m l a b c d hk) (by rintro _ _ ⟨c, rfl, rfl⟩; exact ⟨rfl, rfl⟩) (fun g => rfl) ⟨Frz.same _, Frz.same _, znt ha hb hc hd, trivial⟩ ?_ hκ⟩
      rintro _ _ ⟨c0, rfl, rfl⟩
      exact ⟨c0, Nat.zero_le _, rfl⟩
    | false =>
      rw [zck hk] at hN
      cases hN
      refine ⟨⟨[], by simp⟩, fun κ hκ => Ql (args := [.v (.int .i64 n), .agg [.v (.int .i64 t), .v (.int .i64 m), .v (.int .i64 l)], .agg [x, y, z, u]]) (bad n t m l a b c d hk) (by rintro _ _ ⟨rfl, rfl⟩; exact ⟨rfl, rfl⟩) (fun g => rfl) ⟨Frz.same _, Frz.same _, znt ha hb hc hd, trivial⟩ ?_ hκ⟩
      rintro _ _ ⟨rfl, rfl⟩
      exact ⟨rfl, by simp⟩
  · cases hN
theorem z9e {f : FuncId} (ok : ∀ (n t m L : Nat) (a b c d : List Int), okS n t m L a b c d = true →
    Zs Try.prog f [.v (.int .i64 n), .agg [.v (.int .i64 t), .v (.int .i64 m), .v (.int .i64 L)], .agg [.roI .u8 a, .roI .u8 b, .roI .u8 c, .roI .u8 d]] [] fun v h' => ∃ k, v = .tup [.sl 0 0 1 0 n k, .v (.int .i64 0)] ∧ h' = [some [.arr n .u8 (Qm n (le4 n ++ keyT t L (m / (4 * L)) (za4 n t m L a b c d)))]])
    (n t m l : Int) (a b c d : List Int) (h : okS n t m l a b c d = true) :
    Zs Try.prog f [.v (.int .i64 n), .agg [.v (.int .i64 t), .v (.int .i64 m), .v (.int .i64 l)], .agg [.roI .u8 a, .roI .u8 b, .roI .u8 c, .roI .u8 d]] [] fun v h' => ∃ c0, v = .tup [.sl 0 0 1 0 n.toNat c0, .v (.int .i64 0)] ∧ h' = [some [.arr n.toNat .u8 (keyV n t m l a b c d)]] := by
  have hk := zn1.1 h
  have hp := zk8.1 hk.2.2.1
  obtain ⟨n, rfl⟩ := Int.eq_ofNat_of_zero_le (show 0 ≤ n by omega)
  obtain ⟨t, rfl⟩ := Int.eq_ofNat_of_zero_le (show 0 ≤ t by omega)
  obtain ⟨m, rfl⟩ := Int.eq_ofNat_of_zero_le (show 0 ≤ m by omega)
  obtain ⟨l, rfl⟩ := Int.eq_ofNat_of_zero_le (show 0 ≤ l by omega)
  have h2 := ok n t m l a b c d h
  rw [zt1]
  simp only [Int.toNat_natCast]
  exact h2
noncomputable def n28 : FuncId → Option (List Blk → List AV → Option Out) := Qz n26 44 N44
noncomputable def c28 (k : Nat) : Cfg := ⟨Try.prog, k, p23, [], n28, none, []⟩
theorem z1f (k : Nat) : (c28 k).odd = [] := rfl
theorem z7c (k : Nat) : (c28 k).ro = [] := rfl
theorem ybn (k : Nat) : (c28 k).P = Try.prog := rfl
theorem yly (k : Nat) : (c28 k).pure = p23 := rfl
theorem ylz (k : Nat) : (c28 k).news = n28 := rfl
theorem xc28 :
  (type_of% @Go.Proofs.Ytfnfmbikooeiaaa.yly) ∧
  (type_of% @Go.Proofs.Ytfnfmbikooeiaaa.ylz) ∧
  (type_of% @Go.Proofs.Ytfnfmbikooeiaaa.n28.eq_1) ∧
  (type_of% @Go.Proofs.Ytfnfmbikooeiaaa.ym6) :=
  ⟨@Go.Proofs.Ytfnfmbikooeiaaa.yly, @Go.Proofs.Ytfnfmbikooeiaaa.ylz, @Go.Proofs.Ytfnfmbikooeiaaa.n28.eq_1, @Go.Proofs.Ytfnfmbikooeiaaa.ym6⟩
theorem z6l (k : Nat) : (c28 k).Good := Cfg.Good.addN (zax k) (z9d z9f (z9e key_ok)) k
end Go.Proofs.Ytfnfmbikooeiaaa
namespace Go.Proofs.Ytfnfmbikooeiaaa
open Go.Ax Go.Kn
theorem z8f : zjd 32 3 32 4 (List.replicate 32 1) (List.replicate 16 2) (List.replicate 8 3) (List.replicate 12 4) = zc zg9 := by decide +kernel
theorem zuv : zg9.length = 108 := by decide +kernel
theorem z8h : ∀ j, j < 108 → zg9.getD j 0 < 256 := by decide +kernel
theorem z8g : BtN zg9 := by
  intro i
  rcases Nat.lt_or_ge i 108 with h | h
  · exact z8h i h
  · rw [List.getD_eq_getElem?_getD, List.getElem?_eq_none (by rw [zuv]; exact h)]; decide
theorem z8t : za4 32 3 32 4 (List.replicate 32 1) (List.replicate 16 2) (List.replicate 8 3) (List.replicate 12 4) = zc (zcv 64 108 zg9) := by
  unfold za4
  rw [z8f, zlw (Nat.le_refl _) z8g, zuv]
theorem z6d (sd : List Nat) : (zp3 sd).length = 1024 := by
  have hg := zbi (t := 3) (show 2 ≤ 2 by omega) (zdm sd) 3
  unfold zp3
  rw [zbb, zkk (by decide) _ zeros hg.lane rfl]
theorem z9b (sd : List Nat) : BtN (zp3 sd) := by unfold zp3; exact zs9 _
theorem ycn : BtN [32, 0, 0, 0] := by
  intro i
  match i with
  | 0 => decide
  | 1 => decide
  | 2 => decide
  | 3 => decide
  | i + 4 => show ([] : List Nat).getD i 0 < 256; simp
theorem z80 (l : List Nat) (h : l.length = 1024) : ([32, 0, 0, 0] ++ l).length = 1028 := by rw [List.length_append, h]; rfl
theorem yct : le4 32 = zc [32, 0, 0, 0] := by decide +kernel
theorem z6e (l : List Nat) (hl : l.length = 1024) (hb : BtN l) : Qm 32 (le4 32 ++ zc l) = zc (zcv 32 1028 ([32, 0, 0, 0] ++ l)) := by
  rw [yct, ← zf9, z56 (by decide) (ycn.app hb), z80 l hl]
theorem z9g (a b c d : List Int) : keyV 32 3 32 4 a b c d = Qm 32 (le4 32 ++ keyT 3 4 2 (za4 32 3 32 4 a b c d)) := by
  have e := zt1 32 3 32 4 a b c d
  have hd : (32 : Int).toNat / (4 * (4 : Int).toNat) = 2 := by decide
  rw [hd] at e
  exact e
theorem zyv : keyV 32 3 32 4 (List.replicate 32 1) (List.replicate 16 2) (List.replicate 8 3) (List.replicate 12 4) = zc keyN := by
  unfold keyN
  rw [z9g, z8t, z9h (zwp _ _ _), z6e _ (z6d _) (z9b _)]
end Go.Proofs.Ytfnfmbikooeiaaa
namespace Go.Proofs.Ytfnfmbikooeiaaa
open Go.Ax Go.Kn
theorem zxd : Zs Try.prog 46 [] [] fun v _ => v = .v (.bool true) := by
  have hok : okS 32 3 32 4 (List.replicate 32 1) (List.replicate 16 2) (List.replicate 8 3) (List.replicate 12 4) = true := by decide
  obtain ⟨K, hK⟩ : ∃ K, keyV 32 3 32 4 (List.replicate 32 1) (List.replicate 16 2) (List.replicate 8 3) (List.replicate 12 4) = K := ⟨_, rfl⟩
  have hKe : K = zc keyN := by rw [← hK, zyv]
  have hKl : K.length = 32 := by rw [← hK, zwm]; rfl
  have a0 : K.getD 0 0 = 13 := by rw [hKe, Y1, zlg.1]; rfl
  have a1 : K.getD 1 0 = 100 := by rw [hKe, Y1, zlg.2.1]; rfl
  have a2 : K.getD 2 0 = 13 := by rw [hKe, Y1, zlg.2.2.1]; rfl
  have a3 : K.getD 30 0 = 230 := by rw [hKe, Y1, zlg.2.2.2.1]; rfl
  have a4 : K.getD 31 0 = 89 := by rw [hKe, Y1, zlg.2.2.2.2]; rfl
  have e80 : errP (okP 0 0 0) = 80 := rfl
  have t1 : List.take 32 (List.replicate 32 (1 : Int)) = List.replicate 32 1 := rfl
  have t2 : List.take 16 (List.replicate 16 (2 : Int)) = List.replicate 16 2 := rfl
  have t3 : List.take 8 (List.replicate 8 (3 : Int)) = List.replicate 8 3 := rfl
  have t4 : List.take 12 (List.replicate 12 (4 : Int)) = List.replicate 12 4 := rfl
  refine Zq (z6l 0) Try.func46 rfl ⟨by kernel_rfl, by show 0 ≤ _; decide, by kernel_rfl, by kernel_rfl⟩ rfl ?_; have hr : Try.f46.results.toList = [.tmp 0] := rfl
  repeat (first | simp only [ybn, z1f, z7c, Nat.reduceBEq, reduceIte, Nat.reduceEqDiff, reduceCtorEq, ne_eq, if_true, if_false, exA, exA, tabs, exB, exD, Zl, Zp, Ze, Zi, Zn, AV.isAggV, AV.parts, AV.one, AV.solid, Zf, Zb, Zj, Zc, Zk, Zh, Zg, bndA, lenA, Zd, rowOf, Za, intsOf, Zo, Nat.reduceAdd, Nat.reduceSub, Nat.reduceMul, Nat.reduceLeDiff, Nat.reduceLT, Nat.reduceGT, Int.reduceToNat, Int.reduceLE, Int.reduceLT, Int.reduceEq, Int.reduceNe, Int.reduceAdd, Int.reduceSub, Int.reduceMul, Int.reduceNeg, ite_true, ite_false, dite_true, xc10, xc11, xc12, xc13, xc14, xc15, xc16, xc17, xc20, xc21, xc22, xc23, xc24, xc25, xc26, xc28, Zm, hr, hok, t1, t2, t3, t4, hK, hKl, a0, a1, a2, a3, a4, e80] | simp (maxSteps := 1000000) (disch := omega) only [exE, Int.toNat_natCast, Int.reduceToNat])
  intro k _
  repeat (first | simp only [ybn, z1f, z7c, Nat.reduceBEq, reduceIte, Nat.reduceEqDiff, reduceCtorEq, ne_eq, if_true, if_false, exA, exA, tabs, exB, exD, Zl, Zp, Ze, Zi, Zn, AV.isAggV, AV.parts, AV.one, AV.solid, Zf, Zb, Zj, Zc, Zk, Zh, Zg, bndA, lenA, Zd, rowOf, Za, intsOf, Zo, Nat.reduceAdd, Nat.reduceSub, Nat.reduceMul, Nat.reduceLeDiff, Nat.reduceLT, Nat.reduceGT, Int.reduceToNat, Int.reduceLE, Int.reduceLT, Int.reduceEq, Int.reduceNe, Int.reduceAdd, Int.reduceSub, Int.reduceMul, Int.reduceNeg, ite_true, ite_false, dite_true, xc10, xc11, xc12, xc13, xc14, xc15, xc16, xc17, xc20, xc21, xc22, xc23, xc24, xc25, xc26, xc28, Zm, hr, hok, t1, t2, t3, t4, hK, hKl, a0, a1, a2, a3, a4, e80] | simp (maxSteps := 1000000) (disch := omega) only [exE, Int.toNat_natCast, Int.reduceToNat])
def F46 : List AV → Option AV
  | [] => some (.v (.bool true))
  | _ => none
theorem ynm : F46 [] = some (.v (.bool true)) := rfl
noncomputable def p29 : FuncId → Option (List AV → Option AV) := Qb p23 46 F46
noncomputable def c29 (k : Nat) : Cfg := ⟨Try.prog, k, p29, [], n28, none, []⟩
theorem zb1 (k : Nat) : (c29 k).odd = [] := rfl
theorem zdu (k : Nat) : (c29 k).ro = [] := rfl
theorem zg5 (k : Nat) : (c29 k).P = Try.prog := rfl
theorem ylw (k : Nat) : (c29 k).pure = p29 := rfl
theorem ylx (k : Nat) : (c29 k).news = n28 := rfl
theorem xc29 :
  (type_of% @Go.Proofs.Ytfnfmbikooeiaaa.ylw) ∧
  (type_of% @Go.Proofs.Ytfnfmbikooeiaaa.ylx) ∧
  (type_of% @Go.Proofs.Ytfnfmbikooeiaaa.p29.eq_1) ∧
  (type_of% @Go.Proofs.Ytfnfmbikooeiaaa.ynm) :=
  ⟨@Go.Proofs.Ytfnfmbikooeiaaa.ylw, @Go.Proofs.Ytfnfmbikooeiaaa.ylx, @Go.Proofs.Ytfnfmbikooeiaaa.p29.eq_1, @Go.Proofs.Ytfnfmbikooeiaaa.ynm⟩
theorem zjz (k : Nat) : (c29 k).Good := by
  refine Cfg.Good.add (z6l k) ?_ k
  intro args v hF h κ hκ
  unfold F46 at hF
  split at hF
  · cases hF
    exact Yn zxd (fun g => rfl) (fun g => rfl) h κ hκ
  · cases hF
theorem z3p (l : List Int) (h : l.length = 64) : l.take 64 = l := List.take_of_length_le (by omega)
theorem z2g (n t m l : Int) (a b c d : List Int) : (za4 n t m l a b c d).length = 64 := by unfold za4; rw [Qh]
theorem z3a (n t m l : Int) (a b c d : List Int) :
    Zs Try.prog 17 [.v (.int .i64 n), .agg [.v (.int .i64 t), .v (.int .i64 m), .v (.int .i64 l)], .agg [.roI .u8 a, .roI .u8 b, .roI .u8 c, .roI .u8 d]] [] fun v _ => v = .v (.bool true) := by
  obtain ⟨S, hS⟩ : ∃ S, za4 n t m l a b c d = S := ⟨_, rfl⟩
  have hSl : S.length = 64 := by rw [← hS, z2g]
  have hSt := z3p S hSl
  cases hk : okS n t m l a b c d with
  | true =>
    refine Zq (zjz 0) Try.func17 rfl ⟨by kernel_rfl, by show 3 ≤ _; decide, by kernel_rfl, by kernel_rfl⟩ rfl ?_; have hr : Try.f17.results.toList = [.tmp 6] := rfl
    repeat (first | simp only [zg5, zb1, zdu, Nat.reduceBEq, reduceIte, Nat.reduceEqDiff, reduceCtorEq, ne_eq, if_true, if_false, exA, exA, tabs, exB, exD, Zl, Zp, Ze, Zi, Zn, AV.isAggV, AV.parts, AV.one, AV.solid, Zf, Zb, Zj, Zc, Zk, Zh, Zg, bndA, lenA, Zd, rowOf, Za, intsOf, Zo, Nat.reduceAdd, Nat.reduceSub, Nat.reduceMul, Nat.reduceLeDiff, Nat.reduceLT, Nat.reduceGT, Int.reduceToNat, Int.reduceLE, Int.reduceLT, Int.reduceEq, Int.reduceNe, Int.reduceAdd, Int.reduceSub, Int.reduceMul, Int.reduceNeg, ite_true, ite_false, dite_true, xc10, xc11, xc12, xc13, xc14, xc15, xc16, xc17, xc20, xc21, xc22, xc23, xc24, xc25, xc26, xc28, xc29, Zm, hr, hk, hS] | simp (maxSteps := 1000000) (disch := omega) only [exE, Int.toNat_natCast, Int.reduceToNat])
    intro k1 _
    repeat (first | simp only [zg5, zb1, zdu, Nat.reduceBEq, reduceIte, Nat.reduceEqDiff, reduceCtorEq, ne_eq, if_true, if_false, exA, exA, tabs, exB, exD, Zl, Zp, Ze, Zi, Zn, AV.isAggV, AV.parts, AV.one, AV.solid, Zf, Zb, Zj, Zc, Zk, Zh, Zg, bndA, lenA, Zd, rowOf, Za, intsOf, Zo, Nat.reduceAdd, Nat.reduceSub, Nat.reduceMul, Nat.reduceLeDiff, Nat.reduceLT, Nat.reduceGT, Int.reduceToNat, Int.reduceLE, Int.reduceLT, Int.reduceEq, Int.reduceNe, Int.reduceAdd, Int.reduceSub, Int.reduceMul, Int.reduceNeg, ite_true, ite_false, dite_true, xc10, xc11, xc12, xc13, xc14, xc15, xc16, xc17, xc20, xc21, xc22, xc23, xc24, xc25, xc26, xc28, xc29, Zm, hr, hk, hS] | simp (maxSteps := 1000000) (disch := omega) only [exE, Int.toNat_natCast, Int.reduceToNat])
    intro k2 _
    repeat (first | simp only [zg5, zb1, zdu, Nat.reduceBEq, reduceIte, Nat.reduceEqDiff, reduceCtorEq, ne_eq, if_true, if_false, exA, exA, tabs, exB, exD, Zl, Zp, Ze, Zi, Zn, AV.isAggV, AV.parts, AV.one, AV.solid, Zf, Zb, Zj, Zc, Zk, Zh, Zg, bndA, lenA, Zd, rowOf, Za, intsOf, Zo, Nat.reduceAdd, Nat.reduceSub, Nat.reduceMul, Nat.reduceLeDiff, Nat.reduceLT, Nat.reduceGT, Int.reduceToNat, Int.reduceLE, Int.reduceLT, Int.reduceEq, Int.reduceNe, Int.reduceAdd, Int.reduceSub, Int.reduceMul, Int.reduceNeg, ite_true, ite_false, dite_true, xc10, xc11, xc12, xc13, xc14, xc15, xc16, xc17, xc20, xc21, xc22, xc23, xc24, xc25, xc26, xc28, xc29, Zm, hr, hk, hS, hSl, hSt] | simp (maxSteps := 1000000) (disch := omega) only [exE, Int.toNat_natCast, Int.reduceToNat])
  | false =>
    refine Zq (zjz 0) Try.func17 rfl ⟨by kernel_rfl, by show 3 ≤ _; decide, by kernel_rfl, by kernel_rfl⟩ rfl ?_; have hr : Try.f17.results.toList = [.tmp 6] := rfl
    repeat (first | simp only [zg5, zb1, zdu, Nat.reduceBEq, reduceIte, Nat.reduceEqDiff, reduceCtorEq, ne_eq, if_true, if_false, exA, exA, tabs, exB, exD, Zl, Zp, Ze, Zi, Zn, AV.isAggV, AV.parts, AV.one, AV.solid, Zf, Zb, Zj, Zc, Zk, Zh, Zg, bndA, lenA, Zd, rowOf, Za, intsOf, Zo, Nat.reduceAdd, Nat.reduceSub, Nat.reduceMul, Nat.reduceLeDiff, Nat.reduceLT, Nat.reduceGT, Int.reduceToNat, Int.reduceLE, Int.reduceLT, Int.reduceEq, Int.reduceNe, Int.reduceAdd, Int.reduceSub, Int.reduceMul, Int.reduceNeg, ite_true, ite_false, dite_true, xc10, xc11, xc12, xc13, xc14, xc15, xc16, xc17, xc20, xc21, xc22, xc23, xc24, xc25, xc26, xc28, xc29, Zm, hr, hk] | simp (maxSteps := 1000000) (disch := omega) only [exE, Int.toNat_natCast, Int.reduceToNat])
theorem z3b (n : Int) (a b c d : List Int) :
    Zs Try.prog 18 [.v (.int .i64 n), .agg [.roI .u8 a, .roI .u8 b, .roI .u8 c, .roI .u8 d]] [] fun v _ => v = .v (.bool true) := by
  obtain ⟨S, hS⟩ : ∃ S, keyV n 1 8 1 a b c d = S := ⟨_, rfl⟩
  have hSl : S.length = n.toNat := by rw [← hS, zwm]
  have hSt : List.take n.toNat S = S := List.take_of_length_le (by omega)
  cases hk : okS n 1 8 1 a b c d with
  | true =>
    refine Zq (zjz 0) Try.func18 rfl ⟨by kernel_rfl, by show 2 ≤ _; decide, by kernel_rfl, by kernel_rfl⟩ rfl ?_; have hr : Try.f18.results.toList = [.tmp 4] := rfl
    repeat (first | simp only [zg5, zb1, zdu, Nat.reduceBEq, reduceIte, Nat.reduceEqDiff, reduceCtorEq, ne_eq, if_true, if_false, exA, exA, tabs, exB, exD, Zl, Zp, Ze, Zi, Zn, AV.isAggV, AV.parts, AV.one, AV.solid, Zf, Zb, Zj, Zc, Zk, Zh, Zg, bndA, lenA, Zd, rowOf, Za, intsOf, Zo, Nat.reduceAdd, Nat.reduceSub, Nat.reduceMul, Nat.reduceLeDiff, Nat.reduceLT, Nat.reduceGT, Int.reduceToNat, Int.reduceLE, Int.reduceLT, Int.reduceEq, Int.reduceNe, Int.reduceAdd, Int.reduceSub, Int.reduceMul, Int.reduceNeg, ite_true, ite_false, dite_true, xc10, xc11, xc12, xc13, xc14, xc15, xc16, xc17, xc20, xc21, xc22, xc23, xc24, xc25, xc26, xc28, xc29, Zm, hr, hk, hS] | simp (maxSteps := 1000000) (disch := omega) only [exE, Int.toNat_natCast, Int.reduceToNat])
    intro k1 _
    repeat (first | simp only [zg5, zb1, zdu, Nat.reduceBEq, reduceIte, Nat.reduceEqDiff, reduceCtorEq, ne_eq, if_true, if_false, exA, exA, tabs, exB, exD, Zl, Zp, Ze, Zi, Zn, AV.isAggV, AV.parts, AV.one, AV.solid, Zf, Zb, Zj, Zc, Zk, Zh, Zg, bndA, lenA, Zd, rowOf, Za, intsOf, Zo, Nat.reduceAdd, Nat.reduceSub, Nat.reduceMul, Nat.reduceLeDiff, Nat.reduceLT, Nat.reduceGT, Int.reduceToNat, Int.reduceLE, Int.reduceLT, Int.reduceEq, Int.reduceNe, Int.reduceAdd, Int.reduceSub, Int.reduceMul, Int.reduceNeg, ite_true, ite_false, dite_true, xc10, xc11, xc12, xc13, xc14, xc15, xc16, xc17, xc20, xc21, xc22, xc23, xc24, xc25, xc26, xc28, xc29, Zm, hr, hk, hS] | simp (maxSteps := 1000000) (disch := omega) only [exE, Int.toNat_natCast, Int.reduceToNat])
    intro k2 _
    repeat (first | simp only [zg5, zb1, zdu, Nat.reduceBEq, reduceIte, Nat.reduceEqDiff, reduceCtorEq, ne_eq, if_true, if_false, exA, exA, tabs, exB, exD, Zl, Zp, Ze, Zi, Zn, AV.isAggV, AV.parts, AV.one, AV.solid, Zf, Zb, Zj, Zc, Zk, Zh, Zg, bndA, lenA, Zd, rowOf, Za, intsOf, Zo, Nat.reduceAdd, Nat.reduceSub, Nat.reduceMul, Nat.reduceLeDiff, Nat.reduceLT, Nat.reduceGT, Int.reduceToNat, Int.reduceLE, Int.reduceLT, Int.reduceEq, Int.reduceNe, Int.reduceAdd, Int.reduceSub, Int.reduceMul, Int.reduceNeg, ite_true, ite_false, dite_true, xc10, xc11, xc12, xc13, xc14, xc15, xc16, xc17, xc20, xc21, xc22, xc23, xc24, xc25, xc26, xc28, xc29, Zm, hr, hk, hS, hSl, hSt] | simp (maxSteps := 1000000) (disch := omega) only [exE, Int.toNat_natCast, Int.reduceToNat])
  | false =>
    refine Zq (zjz 0) Try.func18 rfl ⟨by kernel_rfl, by show 2 ≤ _; decide, by kernel_rfl, by kernel_rfl⟩ rfl ?_; have hr : Try.f18.results.toList = [.tmp 4] := rfl
    repeat (first | simp only [zg5, zb1, zdu, Nat.reduceBEq, reduceIte, Nat.reduceEqDiff, reduceCtorEq, ne_eq, if_true, if_false, exA, exA, tabs, exB, exD, Zl, Zp, Ze, Zi, Zn, AV.isAggV, AV.parts, AV.one, AV.solid, Zf, Zb, Zj, Zc, Zk, Zh, Zg, bndA, lenA, Zd, rowOf, Za, intsOf, Zo, Nat.reduceAdd, Nat.reduceSub, Nat.reduceMul, Nat.reduceLeDiff, Nat.reduceLT, Nat.reduceGT, Int.reduceToNat, Int.reduceLE, Int.reduceLT, Int.reduceEq, Int.reduceNe, Int.reduceAdd, Int.reduceSub, Int.reduceMul, Int.reduceNeg, ite_true, ite_false, dite_true, xc10, xc11, xc12, xc13, xc14, xc15, xc16, xc17, xc20, xc21, xc22, xc23, xc24, xc25, xc26, xc28, xc29, Zm, hr, hk] | simp (maxSteps := 1000000) (disch := omega) only [exE, Int.toNat_natCast, Int.reduceToNat])
theorem zys (n t m l : Int) (a b c d : List Int) :
    Zs Try.prog 19 [.v (.int .i64 n), .agg [.v (.int .i64 t), .v (.int .i64 m), .v (.int .i64 l)], .agg [.roI .u8 a, .roI .u8 b, .roI .u8 c, .roI .u8 d]] [] fun v _ => v = .v (.bool true) := by
  have h0 : okS n 0 0 0 a b c d = false := by simp [okS, okP]
  cases hp : okP t m l with
  | false =>
    have he : errP false = 80 := rfl
    have hpg : pgN t m l = 0 := by unfold pgN; rw [if_neg (by rw [hp]; decide)]
    have hk : okS n t m l a b c d = false := by simp [okS, hp]
    refine Zq (zjz 0) Try.func19 rfl ⟨by kernel_rfl, by show 3 ≤ _; decide, by kernel_rfl, by kernel_rfl⟩ rfl ?_; have hr : Try.f19.results.toList = [.tmp 6] := rfl
    repeat (first | simp only [zg5, zb1, zdu, Nat.reduceBEq, reduceIte, Nat.reduceEqDiff, reduceCtorEq, ne_eq, if_true, if_false, exA, exA, tabs, exB, exD, Zl, Zp, Ze, Zi, Zn, AV.isAggV, AV.parts, AV.one, AV.solid, Zf, Zb, Zj, Zc, Zk, Zh, Zg, bndA, lenA, Zd, rowOf, Za, intsOf, Zo, Nat.reduceAdd, Nat.reduceSub, Nat.reduceMul, Nat.reduceLeDiff, Nat.reduceLT, Nat.reduceGT, Int.reduceToNat, Int.reduceLE, Int.reduceLT, Int.reduceEq, Int.reduceNe, Int.reduceAdd, Int.reduceSub, Int.reduceMul, Int.reduceNeg, ite_true, ite_false, dite_true, xc10, xc11, xc12, xc13, xc14, xc15, xc16, xc17, xc20, xc21, xc22, xc23, xc24, xc25, xc26, xc28, xc29, Zm, hr, hk, h0, hp, he, hpg] | simp (maxSteps := 1000000) (disch := omega) only [exE, Int.toNat_natCast, Int.reduceToNat])
  | true =>
    have he : errP true = 0 := rfl
    have hb := zk8.1 hp
    obtain ⟨t, rfl⟩ := Int.eq_ofNat_of_zero_le (show 0 ≤ t by omega)
    obtain ⟨m, rfl⟩ := Int.eq_ofNat_of_zero_le (show 0 ≤ m by omega)
    obtain ⟨l, rfl⟩ := Int.eq_ofNat_of_zero_le (show 0 ≤ l by omega)
    obtain ⟨q, hq⟩ : ∃ q, m / (4 * l) = q := ⟨_, rfl⟩
    obtain ⟨k, hkk⟩ : ∃ k, q * (4 * l) = k := ⟨_, rfl⟩
    have hpg : pgN t m l = (k : Int) := by
      unfold pgN; rw [if_pos hp]; simp only [Int.toNat_natCast]
      rw [hq, ← hkk, Nat.mul_assoc]
    have hm := Nat.div_add_mod m (4 * l)
    have hml : m % (4 * l) < 4 * l := Nat.mod_lt _ (by omega)
    rw [hq, Nat.mul_comm, hkk] at hm
    have hq1 : 1 ≤ q := by rw [← hq, Nat.le_div_iff_mul_le (by omega)]; omega
    have hk1 : 1 * (4 * l) ≤ k := by rw [← hkk]; exact Nat.mul_le_mul_right _ hq1
    have w4 : IntKind.i64.wrap (4 * (l : Int)) = ((4 * l : Nat) : Int) := by rw [Zz _ (by omega)]; omega
    have hl0 : (((4 * l : Nat) : Int) = 0) = False := by simp; omega
    have hmd : ((k : Int)).tmod ((4 * l : Nat) : Int) = 0 := by rw [← Int.ofNat_tmod, ← hkk, Nat.mul_mod_left]; rfl
    have wk : IntKind.i64.wrap ((m : Int) - (k : Int)) = (m : Int) - (k : Int) := Zz _ (by omega)
    have c1 : ((0 : Int) < (k : Int)) = True := by simp; omega
    have c2 : ((k : Int) ≤ (m : Int)) = True := by simp; omega
    have c3 : (((m : Int) - (k : Int)) < ((4 * l : Nat) : Int)) = True := by simp; omega
    cases hk : okS n t m l a b c d with
    | true =>
      refine Zq (zjz 0) Try.func19 rfl ⟨by kernel_rfl, by show 3 ≤ _; decide, by kernel_rfl, by kernel_rfl⟩ rfl ?_; have hr : Try.f19.results.toList = [.tmp 6] := rfl
      simp only [zg5, zb1, zdu, Nat.reduceBEq, reduceIte, Nat.reduceEqDiff, reduceCtorEq, ne_eq, if_true, if_false, exA, exA, tabs, exB, exD, Zl, Zp, Ze, Zi, Zn, AV.isAggV, AV.parts, AV.one, AV.solid, Zf, Zb, Zj, Zc, Zk, Zh, Zg, bndA, lenA, Zd, rowOf, Za, intsOf, Zo, Nat.reduceAdd, Nat.reduceSub, Nat.reduceMul, Nat.reduceLeDiff, Nat.reduceLT, Nat.reduceGT, Int.reduceToNat, Int.reduceLE, Int.reduceLT, Int.reduceEq, Int.reduceNe, Int.reduceAdd, Int.reduceSub, Int.reduceMul, Int.reduceNeg, ite_true, ite_false, dite_true, xc10, xc11, xc12, xc13, xc14, xc15, xc16, xc17, xc20, xc21, xc22, xc23, xc24, xc25, xc26, xc28, xc29, Zm, hr, hk, h0, hp, he, hpg, w4, hl0, hmd, wk, c1, c2, c3]
      intro k1 _
      simp only [zg5, zb1, zdu, Nat.reduceBEq, reduceIte, Nat.reduceEqDiff, reduceCtorEq, ne_eq, if_true, if_false, exA, exA, tabs, exB, exD, Zl, Zp, Ze, Zi, Zn, AV.isAggV, AV.parts, AV.one, AV.solid, Zf, Zb, Zj, Zc, Zk, Zh, Zg, bndA, lenA, Zd, rowOf, Za, intsOf, Zo, Nat.reduceAdd, Nat.reduceSub, Nat.reduceMul, Nat.reduceLeDiff, Nat.reduceLT, Nat.reduceGT, Int.reduceToNat, Int.reduceLE, Int.reduceLT, Int.reduceEq, Int.reduceNe, Int.reduceAdd, Int.reduceSub, Int.reduceMul, Int.reduceNeg, ite_true, ite_false, dite_true, xc10, xc11, xc12, xc13, xc14, xc15, xc16, xc17, xc20, xc21, xc22, xc23, xc24, xc25, xc26, xc28, xc29, Zm, hr, hk, h0, hp, he, hpg, w4, hl0, hmd, wk, c1, c2, c3]
    | false =>
      refine Zq (zjz 0) Try.func19 rfl ⟨by kernel_rfl, by show 3 ≤ _; decide, by kernel_rfl, by kernel_rfl⟩ rfl ?_; have hr : Try.f19.results.toList = [.tmp 6] := rfl
      simp only [zg5, zb1, zdu, Nat.reduceBEq, reduceIte, Nat.reduceEqDiff, reduceCtorEq, ne_eq, if_true, if_false, exA, exA, tabs, exB, exD, Zl, Zp, Ze, Zi, Zn, AV.isAggV, AV.parts, AV.one, AV.solid, Zf, Zb, Zj, Zc, Zk, Zh, Zg, bndA, lenA, Zd, rowOf, Za, intsOf, Zo, Nat.reduceAdd, Nat.reduceSub, Nat.reduceMul, Nat.reduceLeDiff, Nat.reduceLT, Nat.reduceGT, Int.reduceToNat, Int.reduceLE, Int.reduceLT, Int.reduceEq, Int.reduceNe, Int.reduceAdd, Int.reduceSub, Int.reduceMul, Int.reduceNeg, ite_true, ite_false, dite_true, xc10, xc11, xc12, xc13, xc14, xc15, xc16, xc17, xc20, xc21, xc22, xc23, xc24, xc25, xc26, xc28, xc29, Zm, hr, hk, h0, hp, he, hpg, w4, hl0, hmd, wk, c1, c2, c3]
end Go.Proofs.Ytfnfmbikooeiaaa
namespace Go.Proofs.Ytfnfmbikooeiaaa
open Go.Ax
open Go.ChangeShapes Go.WideShapes Go.ChangeAt Go.RowKit
theorem zpp : ownKnob Try.prog.godebug = none := by kernel_rfl
namespace bulks
end bulks
theorem zl9 {X : Nat → Prop} {w : World} {ρ : List (Option Nat)} : Z9 X w ρ [] [] := by simp only [Z9]
theorem zdj {X : Nat → Prop} {w : World} {ρ : List (Option Nat)} {x : AV} {xs : List AV} {v : Value} {vs : List Value} (h : AV.relV X w ρ x v) (hs : Z9 X w ρ xs vs) : Z9 X w ρ (x :: xs) (v :: vs) := by
  simp only [Z9]; exact ⟨v, vs, rfl, h, hs⟩
theorem cel5 : Try.prog.cellsOf 5 = 1 := by kernel_rfl
end Go.Proofs.Ytfnfmbikooeiaaa
namespace Go.Proofs.Ytfnfmbikooeiaaa
open Go.Ax
open Go.ChangeShapes Go.WideShapes Go.ChangeAt Go.RowKit
theorem ybj : Try.prog.cellsOf 66 = 3 := by kernel_rfl
theorem z67 : Try.prog.cellsOf 68 = 4 := by kernel_rfl
theorem cel3 : Try.prog.cellsOf 3 = 1 := by kernel_rfl
theorem z68 : Try.prog.cellsOf 22 = 1 := by kernel_rfl
end Go.Proofs.Ytfnfmbikooeiaaa
