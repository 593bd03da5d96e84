/- Part of the proof. -/
import Derived.Test.YtfnfmbikooeiaaaAc
import Derived.RangeFuncCalls
import Derived.RangeFuncLeaves
import Derived.Shelf.Abstract
import Derived.Shelf.RegionOpen
import Derived.WalkKit
import Derived.OwnWalkIn
import Derived.TacticsInMore
import Derived.LoopNIn
import Derived.LoopIn
import Derived.RangeFuncSeq
import Derived.Test.YtfnfmbikooeiaaaProg
set_option linter.unusedSimpArgs false
set_option linter.unusedVariables false
set_option maxHeartbeats 4000000
set_option maxRecDepth 100000
namespace Go.Proofs.Ytfnfmbikooeiaaa
open Go.Ax
def sumL (size : Nat) (hh r : List Int) (t : Int) : List Int := (List.range size).map (byteAt (pieceL hh (padL r) (IntKind.u64.wrap (t + r.length)) true))
theorem sumL_len (size : Nat) (hh r : List Int) (t : Int) : (sumL size hh r t).length = size := by simp [sumL]
theorem sumL_all (size : Nat) (h0 all : List Int) (hb : all.length ≤ 1099511627776) : sumL size (pieces h0 all (qOf all.length)) (all.drop (128 * qOf all.length)) ((128 * qOf all.length : Nat) : Int) = digestL h0 size all := by
  have hq := qOf_le all.length
  have hl : (all.drop (128 * qOf all.length)).length = all.length - 128 * qOf all.length := by simp
  unfold sumL digestL
  rw [hl, ar_addu _ _ (by omega)]
  simp only [Int.toNat_natCast]
  rw [show 128 * qOf all.length + (all.length - 128 * qOf all.length) = all.length from by omega]
def hashR (b b2 len c size : Nat) (hh : List Int) (t : Int) : Option (List AV) → Option (List Int × Nat × List Int × Int × Nat × Nat)
  | some [.arr n .u8 r] => if b ≠ b2 ∧ len = n ∧ r.length = n ∧ hh.length = 8 ∧ 0 < size ∧ size ≤ 64 ∧ r.length ≤ 128 then some (hh, size, r, t, b2, c) else none
  | _ => none
def hashK (h : List Blk) (b : Nat) : Option (List AV) → Option (List Int × Nat × List Int × Int × Nat × Nat)
  | some [.arr 8 .u64 hh, .v (.int .i64 size), .sl b2 0 1 0 len c, .v (.int .u64 t)] => if 0 ≤ size then hashR b b2 len c size.toNat hh t (row h b2) else none
  | _ => none
def N30 (h : List Blk) : List AV → Option Out
  | [.v (.pointer none)] => some (.one (.v (.slice none 0 0)) h)
  | [.ptr b 0 0] => (hashK h b (row h b)).bind fun x => some (.one (.sl h.length 0 1 0 x.2.1 x.2.1) (h ++ [some [.arr x.2.1 .u8 (sumL x.2.1 x.1 x.2.2.1 x.2.2.2.1)]]))
  | _ => none
theorem N30_nil (h : List Blk) : N30 h [.v (.pointer none)] = some (.one (.v (.slice none 0 0)) h) := rfl
theorem N30_ptr (h : List Blk) (b : Nat) : N30 h [.ptr b 0 0] = (hashK h b (row h b)).bind fun x => some (.one (.sl h.length 0 1 0 x.2.1 x.2.1) (h ++ [some [.arr x.2.1 .u8 (sumL x.2.1 x.1 x.2.2.1 x.2.2.2.1)]])) := rfl
def N28 (h : List Blk) : List AV → Option Out
  | [.v (.pointer none)] => some (.one (.v (.pointer none)) h)
  | [.ptr b 0 0] => (hashK h b (row h b)).bind fun x => some (.cap 0 fun c => (.ptr h.length 0 0, h ++ [some [.arr 8 .u64 x.1, .v (.int .i64 x.2.1), .sl (h.length + 1) 0 1 0 x.2.2.1.length c, .v (.int .u64 x.2.2.2.1)], some [.arr x.2.2.1.length .u8 x.2.2.1]]))
  | _ => none
theorem N28_nil (h : List Blk) : N28 h [.v (.pointer none)] = some (.one (.v (.pointer none)) h) := rfl
theorem N28_ptr (h : List Blk) (b : Nat) : N28 h [.ptr b 0 0] = (hashK h b (row h b)).bind fun x => some (.cap 0 fun c => (.ptr h.length 0 0, h ++ [some [.arr 8 .u64 x.1, .v (.int .i64 x.2.1), .sl (h.length + 1) 0 1 0 x.2.2.1.length c, .v (.int .u64 x.2.2.2.1)], some [.arr x.2.2.1.length .u8 x.2.2.1]])) := rfl
theorem hashK_eq (h : List Blk) (b : Nat) (hh : List Int) (size : Int) (b2 len c : Nat) (t : Int) : hashK h b (some [.arr 8 .u64 hh, .v (.int .i64 size), .sl b2 0 1 0 len c, .v (.int .u64 t)]) = oguard (0 ≤ size) (hashR b b2 len c size.toNat hh t (row h b2)) := rfl
theorem hashR_eq (b b2 len c size : Nat) (hh : List Int) (t : Int) (n : Nat) (r : List Int) : hashR b b2 len c size hh t (some [.arr n .u8 r]) = oguard (b ≠ b2 ∧ len = n ∧ r.length = n ∧ hh.length = 8 ∧ 0 < size ∧ size ≤ 64 ∧ r.length ≤ 128) (some (hh, size, r, t, b2, c)) := rfl
theorem hashK_ok {h : List Blk} {b : Nat} {x : List Int × Nat × List Int × Int × Nat × Nat} (e : hashK h b (row h b) = some x) :
    row h b = some [.arr 8 .u64 x.1, .v (.int .i64 x.2.1), .sl x.2.2.2.2.1 0 1 0 x.2.2.1.length x.2.2.2.2.2, .v (.int .u64 x.2.2.2.1)] ∧ row h x.2.2.2.2.1 = some [.arr x.2.2.1.length .u8 x.2.2.1] ∧ b ≠ x.2.2.2.2.1 ∧
      x.1.length = 8 ∧ (0 < x.2.1 ∧ x.2.1 ≤ 64) ∧ x.2.2.1.length ≤ 128 := by
  unfold hashK at e
  split at e
  · rename_i hh size b2 len c t hr
    split at e
    · rename_i h0
      unfold hashR at e
      split at e
      · rename_i n r hr2
        split at e
        · rename_i hc
          obtain ⟨h1, rfl, h3, h4, h5, h6, h7⟩ := hc
          cases e
          simp only
          refine ⟨?_, ?_, h1, h4, ⟨h5, h6⟩, h7⟩
          · rw [h3, Int.toNat_of_nonneg h0, hr]
          · rw [h3, hr2]
        · cases e
      · cases e
    · cases e
  · cases e
theorem set_self {α : Type} {h : List α} {b : Nat} {x : α} (e : h[b]? = some x) : h.set b x = h := by
  apply List.ext_getElem?
  intro i
  by_cases hi : b = i
  · subst hi
    rw [List.getElem?_set_self (List.getElem?_eq_some_iff.1 e).1, e]
  · rw [List.getElem?_set_ne hi]
theorem fork_gen (hh r : List Int) (size c : Nat) (t : Int) (h8 : hh.length = 8) (hrl : r.length ≤ 128) :
    ACall Try.prog 28 [.ptr 0 0 0] [some [.arr 8 .u64 hh, .v (.int .i64 size), .sl 1 0 1 0 r.length c, .v (.int .u64 t)], some [.arr r.length .u8 r]]
      fun v h' => v = .ptr 2 0 0 ∧ ∃ c', h' = [some [.arr 8 .u64 hh, .v (.int .i64 size), .sl 1 0 1 0 r.length c, .v (.int .u64 t)], some [.arr r.length .u8 r],
        some [.arr 8 .u64 hh, .v (.int .i64 size), .sl 3 0 1 0 r.length c', .v (.int .u64 t)], some [.arr r.length .u8 r]] := by
  refine ACall.weak (C := c8 2) rfl (κ := fun v h' => v = .ptr 3 0 0 ∧ ∃ c', h' = [some [.arr 8 .u64 hh, .v (.int .i64 size), .sl 1 0 1 0 r.length c, .v (.int .u64 t)], some [.arr r.length .u8 r],
        some [.arr r.length .u8 r], some [.arr 8 .u64 hh, .v (.int .i64 size), .sl 2 0 1 0 r.length c', .v (.int .u64 t)]]) ?_ ?_
  · refine bd (good8 2) Try.func28 ?_
    refine go8 h8 ?_
    repeat with_reducible refine gd ?_
    intro c3 _
    exact ⟨c3, rfl⟩
  · rintro v h' ⟨rfl, c', rfl⟩
    exact ⟨_, _, weak_gc' [0, 1, 3, 2] (by decide) (by simp) (by rfl) rfl ⟨rfl, trivial⟩, rfl, c', rfl⟩
noncomputable def n8 : FuncId → Option (List Blk → List AV → Option Out) := addNews (addNews n7 30 N30) 28 N28
noncomputable def c9 (k : Nat) : Cfg := ⟨Try.prog, k, p5, [], n8, none, []⟩
theorem c9_odd (k : Nat) : (c9 k).odd = [] := rfl
theorem c9_ro (k : Nat) : (c9 k).ro = [] := rfl
theorem c9_P (k : Nat) : (c9 k).P = Try.prog := rfl
theorem c9_pure (k : Nat) : (c9 k).pure = p5 := rfl
theorem c9_news (k : Nat) : (c9 k).news = n8 := rfl
theorem go9 {F A B : Prop} (f : F) (b : B) (h : F → A = B := by intro f; (repeat (first | simp only [c9_P, c9_odd, c9_ro, Nat.reduceBEq, reduceIte, Nat.reduceEqDiff, reduceCtorEq, ne_eq, if_true, if_false, exA, exA, tabs, exB, exD, buildA, rowOr, rowSetAt, rowAgg, mkAgg, AV.isAggV, AV.parts, AV.one, AV.solid, headSize, indexAddrA, indexA, fieldAddrA, fieldA, sliceA, boundsA, bndA, lenA, arrayAtA, rowOf, makeSliceA, intsOf, copyA, Nat.reduceAdd, Nat.reduceSub, Nat.reduceMul, Nat.reduceLeDiff, Nat.reduceLT, Nat.reduceGT, Int.reduceToNat, Int.reduceLE, Int.reduceLT, Int.reduceEq, Int.reduceNe, Int.reduceAdd, Int.reduceSub, Int.reduceMul, Int.reduceNeg, ite_true, ite_false, dite_true, take_app, take_blakeL, blakeL_len, c9_pure, c9_news, p5, F22_eq, p4, p3, p2, p1, F80_eq, F70_eq, F53_eq, F55_eq, F25_eq, F56_eq, F23_eq, n8, N30_nil, N30_ptr, N28_nil, N28_ptr, hashK_eq, hashR_eq, n7, n6, n5, N57_eq, N27_eq, N20_eq, N21_eq, exR, f] | simp (maxSteps := 1000000) (disch := omega) only [exE, Int.toNat_natCast, Int.reduceToNat])); all_goals rfl) : A := Eq.mpr (h f) b
theorem good9 (k : Nat) : (c9 k).Good := by
  have key : ∀ (h : List Blk) (b b2 : Nat) (row0 rest0 : List AV), row h b = some (renL (frameMap [b, b2] h.length) row0) → row h b2 = some (renL (frameMap [b, b2] h.length) rest0) → b ≠ b2 →
      ∀ k, k < [b, b2].length → h[[b, b2].getD k 0]? = (([some row0, some rest0] : List Blk)[k]?).map (renB (frameMap [b, b2] h.length)) := by
    intro h b b2 row0 rest0 h1 h2 _ k hk
    match k, hk with
    | 0, _ => exact row_some h1
    | 1, _ => exact row_some h2
  have lt : ∀ {h : List Blk} {b b2 : Nat} {p q : List AV}, row h b = some p → row h b2 = some q → ∀ x ∈ [b, b2], x < h.length := by
    intro h b b2 p q h1 h2 x hx
    simp only [List.mem_cons, List.not_mem_nil, or_false] at hx
    rcases hx with rfl | rfl
    · exact row_lt h1
    · exact row_lt h2
  refine Cfg.Good.addN (Cfg.Good.addN (good8 k) ?_ k) ?_ k
  · intro h args out hN
    unfold N30 at hN
    split at hN
    · cases hN
      refine ⟨⟨[], by simp⟩, fun κ hκ => news_ok (args := [.v (.pointer none)]) hsum_nil (by rintro _ _ ⟨rfl, rfl⟩; exact ⟨rfl, rfl⟩) (fun g => rfl) ⟨Frz.same _, trivial⟩ ?_ hκ⟩
      rintro _ _ ⟨rfl, rfl⟩
      exact ⟨rfl, by simp⟩
    · rename_i b
      obtain ⟨x, hx, hN⟩ := Option.bind_eq_some_iff.1 hN
      cases hN
      obtain ⟨h1, h2, h3, h4, h5, h6⟩ := hashK_ok hx
      obtain ⟨hh, size, r, t, b2, c⟩ := x
      simp only at h1 h2 h3 h4 h5 h6 ⊢
      refine ⟨⟨_, rfl⟩, fun κ hκ => ?_⟩
      refine ACall.frame (hsum_spec hh r size c t h4 h5 h6) [b, b2] rfl rfl (by simp [h3]) (lt h1 h2) (key h b b2 _ _ h1 h2 h3) ?_
      rintro _ _ ⟨rfl, rfl⟩
      have e1 : (h.set b (some [.arr 8 .u64 hh, .v (.int .i64 size), .sl b2 0 1 0 r.length c, .v (.int .u64 t)])).set b2 (some [.arr r.length .u8 r]) = h := by
        rw [set_self (row_some h1), set_self (row_some h2)]
      simp only [overwrite, List.map_cons, List.map_nil, renB, Option.map_some, renL, AV.ren, frameMap, List.length_cons, List.length_nil, List.getD_cons_zero, List.getD_cons_succ, Nat.reduceAdd, Nat.reduceLT, Nat.reduceSub, if_true, if_false, Nat.lt_irrefl, Nat.add_zero, Nat.sub_self]
      rw [e1]
      exact hκ
    · cases hN
  · intro h args out hN
    unfold N28 at hN
    split at hN
    · cases hN
      refine ⟨⟨[], by simp⟩, fun κ hκ => news_ok (args := [.v (.pointer none)]) fork_nil (by rintro _ _ ⟨rfl, rfl⟩; exact ⟨rfl, rfl⟩) (fun g => rfl) ⟨Frz.same _, trivial⟩ ?_ hκ⟩
      rintro _ _ ⟨rfl, rfl⟩
      exact ⟨rfl, by simp⟩
    · rename_i b
      obtain ⟨x, hx, hN⟩ := Option.bind_eq_some_iff.1 hN
      cases hN
      obtain ⟨h1, h2, h3, h4, h5, h6⟩ := hashK_ok hx
      obtain ⟨hh, size, r, t, b2, c⟩ := x
      simp only at h1 h2 h3 h4 h5 h6 ⊢
      refine ⟨fun c' _ => ⟨_, rfl⟩, fun κ hκ => ?_⟩
      refine ACall.frame (fork_gen hh r size c t h4 h6) [b, b2] rfl rfl (by simp [h3]) (lt h1 h2) (key h b b2 _ _ h1 h2 h3) ?_
      rintro _ _ ⟨rfl, c', rfl⟩
      have e1 : (h.set b (some [.arr 8 .u64 hh, .v (.int .i64 size), .sl b2 0 1 0 r.length c, .v (.int .u64 t)])).set b2 (some [.arr r.length .u8 r]) = h := by
        rw [set_self (row_some h1), set_self (row_some h2)]
      simp only [overwrite, List.map_cons, List.map_nil, renB, Option.map_some, renL, AV.ren, frameMap, List.length_cons, List.length_nil, List.getD_cons_zero, List.getD_cons_succ, Nat.reduceAdd, Nat.reduceLT, Nat.reduceSub, if_true, if_false, Nat.lt_irrefl, Nat.add_zero, Nat.sub_self]
      rw [e1]
      exact hκ c' (Nat.zero_le _)
    · cases hN
end Go.Proofs.Ytfnfmbikooeiaaa

namespace Go.Proofs.Ytfnfmbikooeiaaa
open Go.Ax
def whichN (n j : Nat) : Nat := n - 1 - n * (j * j / 4294967296) / 4294967296
theorem which_facts (n j : Nat) (h1 : 1 ≤ n) (h2 : n ≤ 2147483647) (hj : j < 4294967296) :
    j * j < 18446744073709551616 ∧ j * j / 4294967296 < 4294967296 ∧ n * (j * j / 4294967296) < 9223372036854775808 ∧ n * (j * j / 4294967296) / 4294967296 < n := by
  have a1 : j * j ≤ 4294967295 * 4294967295 := Nat.mul_le_mul (by omega) (by omega)
  have a2 : j * j / 4294967296 < 4294967296 := by omega
  have a3 : n * (j * j / 4294967296) ≤ n * 4294967295 := Nat.mul_le_mul_left _ (by omega)
  omega
theorem shr_u64_32 (a : Nat) : shr IntKind.u64 (a : Int) 32 = ((a / 4294967296 : Nat) : Int) := by
  have h1 : (2 : Int) ^ min (32 : Int).toNat IntKind.u64.bits = 4294967296 := by decide
  unfold shr
  rw [h1, Int.fdiv_eq_ediv_of_nonneg _ (by omega)]
  omega
theorem tdiv_32 (a : Nat) : (a : Int).tdiv 4294967296 = ((a / 4294967296 : Nat) : Int) := rfl
theorem nat_mul_cast (a b : Nat) : ((a : Int) * (b : Int)) = ((a * b : Nat) : Int) := (Int.natCast_mul a b).symm
theorem which_bad (n j : Int) (hb : n < 1 ∨ 2147483647 < n) : ACall Try.prog 34 [.v (.int .i64 n), .v (.int .u32 j)] [] fun v _ => v = .v (.int .i64 0) := by
  refine bd (good9 0) Try.func34 ?_
  rcases hb with hb | hb
  · exact go9 hb trivial
  · have h1 : ¬ n < 1 := by omega
    exact go9 (an hb h1) trivial
theorem which_ok (n j : Nat) (h1 : 1 ≤ n) (h2 : n ≤ 2147483647) (hj : j < 4294967296) : ACall Try.prog 34 [.v (.int .i64 n), .v (.int .u32 j)] [] fun v _ => v = .v (.int .i64 (whichN n j : Nat)) := by
  obtain ⟨f1, f2, f3, f4⟩ := which_facts n j h1 h2 hj
  have g1 : ¬ (n : Int) < 1 := by omega
  have g2 : ¬ (2147483647 : Int) < n := by omega
  have w1 : IntKind.u64.wrap (j : Int) = j := ar_u64 _ (by omega)
  have w2 : IntKind.u64.wrap ((j * j : Nat) : Int) = ((j * j : Nat) : Int) := ar_u64 _ (by omega)
  have w3 : IntKind.u64.wrap (n : Int) = n := ar_u64 _ (by omega)
  have w4 : IntKind.u64.wrap ((n * (j * j / 4294967296) : Nat) : Int) = ((n * (j * j / 4294967296) : Nat) : Int) := ar_u64 _ (by omega)
  have w5 : IntKind.i64.wrap ((n * (j * j / 4294967296) / 4294967296 : Nat) : Int) = ((n * (j * j / 4294967296) / 4294967296 : Nat) : Int) := ar_nat _ (by omega)
  have w6 : IntKind.i64.wrap ((n : Int) - 1) = ((n - 1 : Nat) : Int) := by rw [wrap_i64_id _ (by omega)]; omega
  have w7 : IntKind.i64.wrap (((n - 1 : Nat) : Int) - ((n * (j * j / 4294967296) / 4294967296 : Nat) : Int)) = (whichN n j : Nat) := by
    rw [wrap_i64_id _ (by omega)]; unfold whichN; omega
  refine bd (good9 0) Try.func34 ?_
  simp only [c9_P, c9_odd, c9_ro, Nat.reduceBEq, condR_bool, wantR_bool, reduceIte, Nat.reduceEqDiff, reduceCtorEq, ne_eq, if_true, if_false, exA, tabs, exB, exD, buildA, rowOr, rowSetAt, rowAgg, mkAgg, AV.isAggV, AV.parts, AV.one, AV.solid, headSize, indexAddrA, indexA, fieldAddrA, fieldA, sliceA, boundsA, bndA, lenA, arrayAtA, rowOf, makeSliceA, intsOf, copyA, Nat.reduceAdd, Nat.reduceSub, Nat.reduceMul, Nat.reduceLeDiff, Nat.reduceLT, Nat.reduceGT, Int.reduceToNat, Int.reduceLE, Int.reduceLT, Int.reduceEq, Int.reduceNe, Int.reduceAdd, Int.reduceSub, Int.reduceMul, Int.reduceNeg, ite_true, ite_false, dite_true, exR, g1, g2, w1, w2, w3, w4, w5, w6, w7, nat_mul_cast, shr_u64_32]
theorem rwhich_bad (n j : Int) (hb : n < 1 ∨ 2147483647 < n) : ACall Try.prog 35 [.v (.int .i64 n), .v (.int .u32 j)] [] fun v _ => v = .v (.int .i64 0) := by
  refine bd (good9 0) Try.func35 ?_
  rcases hb with hb | hb
  · exact go9 hb trivial
  · have h1 : ¬ n < 1 := by omega
    exact go9 (an hb h1) trivial
theorem rwhich_ok (n j : Nat) (h1 : 1 ≤ n) (h2 : n ≤ 2147483647) (hj : j < 4294967296) : ACall Try.prog 35 [.v (.int .i64 n), .v (.int .u32 j)] [] fun v _ => v = .v (.int .i64 (whichN n j : Nat)) := by
  obtain ⟨f1, f2, f3, f4⟩ := which_facts n j h1 h2 hj
  have g1 : ¬ (n : Int) < 1 := by omega
  have g2 : ¬ (2147483647 : Int) < n := by omega
  have w1 : IntKind.u64.wrap (j : Int) = j := ar_u64 _ (by omega)
  have w2 : IntKind.u64.wrap ((j * j : Nat) : Int) = ((j * j : Nat) : Int) := ar_u64 _ (by omega)
  have w3 : IntKind.u64.wrap (n : Int) = n := ar_u64 _ (by omega)
  have w4 : IntKind.u64.wrap ((n * (j * j / 4294967296) : Nat) : Int) = ((n * (j * j / 4294967296) : Nat) : Int) := ar_u64 _ (by omega)
  have w5 : IntKind.i64.wrap ((n * (j * j / 4294967296) / 4294967296 : Nat) : Int) = ((n * (j * j / 4294967296) / 4294967296 : Nat) : Int) := ar_nat _ (by omega)
  have w6 : IntKind.i64.wrap ((n : Int) - 1) = ((n - 1 : Nat) : Int) := by rw [wrap_i64_id _ (by omega)]; omega
  have w7 : IntKind.i64.wrap (((n - 1 : Nat) : Int) - ((n * (j * j / 4294967296) / 4294967296 : Nat) : Int)) = (whichN n j : Nat) := by
    rw [wrap_i64_id _ (by omega)]; unfold whichN; omega
  have w8 : IntKind.u64.wrap ((j * j / 4294967296 : Nat) : Int) = ((j * j / 4294967296 : Nat) : Int) := ar_u64 _ (by omega)
  have w9 : IntKind.u64.wrap ((n * (j * j / 4294967296) / 4294967296 : Nat) : Int) = ((n * (j * j / 4294967296) / 4294967296 : Nat) : Int) := ar_u64 _ (by omega)
  refine bd (good9 0) Try.func35 ?_
  simp only [c9_P, c9_odd, c9_ro, Nat.reduceBEq, condR_bool, wantR_bool, reduceIte, Nat.reduceEqDiff, reduceCtorEq, ne_eq, if_true, if_false, exA, tabs, exB, exD, buildA, rowOr, rowSetAt, rowAgg, mkAgg, AV.isAggV, AV.parts, AV.one, AV.solid, headSize, indexAddrA, indexA, fieldAddrA, fieldA, sliceA, boundsA, bndA, lenA, arrayAtA, rowOf, makeSliceA, intsOf, copyA, Nat.reduceAdd, Nat.reduceSub, Nat.reduceMul, Nat.reduceLeDiff, Nat.reduceLT, Nat.reduceGT, Int.reduceToNat, Int.reduceLE, Int.reduceLT, Int.reduceEq, Int.reduceNe, Int.reduceAdd, Int.reduceSub, Int.reduceMul, Int.reduceNeg, ite_true, ite_false, dite_true, exR, g1, g2, w1, w2, w3, w4, w5, w6, w7, w8, w9, nat_mul_cast, tdiv_32]
def F34 : List AV → Option AV
  | [.v (.int .i64 n), .v (.int .u32 j)] => osel (decide (n < 1 ∨ 2147483647 < n)) (some (.v (.int .i64 0))) (oguard (0 ≤ j ∧ j < 4294967296) (some (.v (.int .i64 (whichN n.toNat j.toNat : Nat)))))
  | _ => none
theorem F34_eq (n j : Int) : F34 [.v (.int .i64 n), .v (.int .u32 j)] = osel (decide (n < 1 ∨ 2147483647 < n)) (some (.v (.int .i64 0))) (oguard (0 ≤ j ∧ j < 4294967296) (some (.v (.int .i64 (whichN n.toNat j.toNat : Nat))))) := rfl
noncomputable def p6 : FuncId → Option (List AV → Option AV) := addPure (addPure p5 34 F34) 35 F34
noncomputable def c10 (k : Nat) : Cfg := ⟨Try.prog, k, p6, [], n8, none, []⟩
theorem c10_odd (k : Nat) : (c10 k).odd = [] := rfl
theorem c10_ro (k : Nat) : (c10 k).ro = [] := rfl
theorem c10_P (k : Nat) : (c10 k).P = Try.prog := rfl
theorem c10_pure (k : Nat) : (c10 k).pure = p6 := rfl
theorem c10_news (k : Nat) : (c10 k).news = n8 := rfl
theorem xc10 :
  (type_of% @Go.Proofs.Ytfnfmbikooeiaaa.take_app) ∧
  (type_of% @Go.Proofs.Ytfnfmbikooeiaaa.take_blakeL) ∧
  (type_of% @Go.Proofs.Ytfnfmbikooeiaaa.blakeL_len) ∧
  (type_of% @Go.Proofs.Ytfnfmbikooeiaaa.c10_pure) ∧
  (type_of% @Go.Proofs.Ytfnfmbikooeiaaa.c10_news) ∧
  (type_of% @p6.eq_1) ∧
  (type_of% @Go.Proofs.Ytfnfmbikooeiaaa.F34_eq) ∧
  (type_of% @p5.eq_1) ∧
  (type_of% @Go.Proofs.Ytfnfmbikooeiaaa.F22_eq) ∧
  (type_of% @p4.eq_1) ∧
  (type_of% @p3.eq_1) ∧
  (type_of% @p2.eq_1) ∧
  (type_of% @p1.eq_1) ∧
  (type_of% @Go.Proofs.Ytfnfmbikooeiaaa.F80_eq) ∧
  (type_of% @Go.Proofs.Ytfnfmbikooeiaaa.F70_eq) ∧
  (type_of% @Go.Proofs.Ytfnfmbikooeiaaa.F53_eq) ∧
  (type_of% @Go.Proofs.Ytfnfmbikooeiaaa.F55_eq) ∧
  (type_of% @Go.Proofs.Ytfnfmbikooeiaaa.F25_eq) ∧
  (type_of% @Go.Proofs.Ytfnfmbikooeiaaa.F56_eq) ∧
  (type_of% @Go.Proofs.Ytfnfmbikooeiaaa.F23_eq) ∧
  (type_of% @n8.eq_1) ∧
  (type_of% @Go.Proofs.Ytfnfmbikooeiaaa.N30_nil) ∧
  (type_of% @Go.Proofs.Ytfnfmbikooeiaaa.N30_ptr) ∧
  (type_of% @Go.Proofs.Ytfnfmbikooeiaaa.N28_nil) ∧
  (type_of% @Go.Proofs.Ytfnfmbikooeiaaa.N28_ptr) ∧
  (type_of% @Go.Proofs.Ytfnfmbikooeiaaa.hashK_eq) ∧
  (type_of% @Go.Proofs.Ytfnfmbikooeiaaa.hashR_eq) ∧
  (type_of% @n7.eq_1) ∧
  (type_of% @n6.eq_1) ∧
  (type_of% @n5.eq_1) ∧
  (type_of% @Go.Proofs.Ytfnfmbikooeiaaa.N57_eq) ∧
  (type_of% @Go.Proofs.Ytfnfmbikooeiaaa.N27_eq) ∧
  (type_of% @Go.Proofs.Ytfnfmbikooeiaaa.N20_eq) ∧
  (type_of% @Go.Proofs.Ytfnfmbikooeiaaa.N21_eq) :=
  ⟨@Go.Proofs.Ytfnfmbikooeiaaa.take_app, @Go.Proofs.Ytfnfmbikooeiaaa.take_blakeL, @Go.Proofs.Ytfnfmbikooeiaaa.blakeL_len, @Go.Proofs.Ytfnfmbikooeiaaa.c10_pure, @Go.Proofs.Ytfnfmbikooeiaaa.c10_news, @p6.eq_1, @Go.Proofs.Ytfnfmbikooeiaaa.F34_eq, @p5.eq_1, @Go.Proofs.Ytfnfmbikooeiaaa.F22_eq, @p4.eq_1, @p3.eq_1, @p2.eq_1, @p1.eq_1, @Go.Proofs.Ytfnfmbikooeiaaa.F80_eq, @Go.Proofs.Ytfnfmbikooeiaaa.F70_eq, @Go.Proofs.Ytfnfmbikooeiaaa.F53_eq, @Go.Proofs.Ytfnfmbikooeiaaa.F55_eq, @Go.Proofs.Ytfnfmbikooeiaaa.F25_eq, @Go.Proofs.Ytfnfmbikooeiaaa.F56_eq, @Go.Proofs.Ytfnfmbikooeiaaa.F23_eq, @n8.eq_1, @Go.Proofs.Ytfnfmbikooeiaaa.N30_nil, @Go.Proofs.Ytfnfmbikooeiaaa.N30_ptr, @Go.Proofs.Ytfnfmbikooeiaaa.N28_nil, @Go.Proofs.Ytfnfmbikooeiaaa.N28_ptr, @Go.Proofs.Ytfnfmbikooeiaaa.hashK_eq, @Go.Proofs.Ytfnfmbikooeiaaa.hashR_eq, @n7.eq_1, @n6.eq_1, @n5.eq_1, @Go.Proofs.Ytfnfmbikooeiaaa.N57_eq, @Go.Proofs.Ytfnfmbikooeiaaa.N27_eq, @Go.Proofs.Ytfnfmbikooeiaaa.N20_eq, @Go.Proofs.Ytfnfmbikooeiaaa.N21_eq⟩
theorem go10 {F A B : Prop} (f : F) (b : B) (h : F → A = B := by intro f; (repeat (first | simp only [c10_P, c10_odd, c10_ro, Nat.reduceBEq, reduceIte, Nat.reduceEqDiff, reduceCtorEq, ne_eq, if_true, if_false, exA, exA, tabs, exB, exD, buildA, rowOr, rowSetAt, rowAgg, mkAgg, AV.isAggV, AV.parts, AV.one, AV.solid, headSize, indexAddrA, indexA, fieldAddrA, fieldA, sliceA, boundsA, bndA, lenA, arrayAtA, rowOf, makeSliceA, intsOf, copyA, Nat.reduceAdd, Nat.reduceSub, Nat.reduceMul, Nat.reduceLeDiff, Nat.reduceLT, Nat.reduceGT, Int.reduceToNat, Int.reduceLE, Int.reduceLT, Int.reduceEq, Int.reduceNe, Int.reduceAdd, Int.reduceSub, Int.reduceMul, Int.reduceNeg, ite_true, ite_false, dite_true, xc10, exR, f] | simp (maxSteps := 1000000) (disch := omega) only [exE, Int.toNat_natCast, Int.reduceToNat])); all_goals rfl) : A := Eq.mpr (h f) b
theorem F34_cases {f : FuncId} {args : List AV} {v : AV} (hbad : ∀ n j : Int, (n < 1 ∨ 2147483647 < n) → ACall Try.prog f [.v (.int .i64 n), .v (.int .u32 j)] [] fun v _ => v = .v (.int .i64 0))
    (hok : ∀ n j : Nat, 1 ≤ n → n ≤ 2147483647 → j < 4294967296 → ACall Try.prog f [.v (.int .i64 n), .v (.int .u32 j)] [] fun v _ => v = .v (.int .i64 (whichN n j : Nat)))
    (hF : F34 args = some v) : ACall Try.prog f args [] (fun v' _ => v' = v) ∧ ∃ n j r, args = [.v (.int .i64 n), .v (.int .u32 j)] ∧ v = .v (.int .i64 r) := by
  unfold F34 at hF
  split at hF
  · rename_i n j
    by_cases hb : n < 1 ∨ 2147483647 < n
    · rw [osel_pos (decide_eq_true hb)] at hF
      cases hF
      exact ⟨hbad n j hb, _, _, _, rfl, rfl⟩
    · rw [osel_neg (decide_eq_false hb)] at hF
      obtain ⟨⟨j1, j2⟩, hF⟩ := oguard_some hF
      cases hF
      obtain ⟨n, rfl⟩ := Int.eq_ofNat_of_zero_le (show 0 ≤ n by omega)
      obtain ⟨j, rfl⟩ := Int.eq_ofNat_of_zero_le j1
      exact ⟨hok n j (by omega) (by omega) (by omega), _, _, _, rfl, rfl⟩
  · cases hF
theorem good10 (k : Nat) : (c10 k).Good := by
  refine Cfg.Good.add (Cfg.Good.add (good9 k) ?_ k) ?_ k
  · intro args v hF h κ hκ
    obtain ⟨hc, n, j, r, rfl, rfl⟩ := F34_cases which_bad which_ok hF
    exact pure_call hc (fun g => rfl) (fun g => rfl) h κ hκ
  · intro args v hF h κ hκ
    obtain ⟨hc, n, j, r, rfl, rfl⟩ := F34_cases rwhich_bad rwhich_ok hF
    exact pure_call hc (fun g => rfl) (fun g => rfl) h κ hκ
end Go.Proofs.Ytfnfmbikooeiaaa

namespace Go.Proofs.Ytfnfmbikooeiaaa
open Go.Ax
def lowU (x : Int) : Int := IntKind.u64.wrap ((BitVec.ofInt IntKind.u64.bits x &&& BitVec.ofInt IntKind.u64.bits 4294967295).toNat : Int)
theorem low_spec (x : Int) : ACall Try.prog 82 [.v (.int .u64 x)] [] fun v _ => v = .v (.int .u64 (lowU x)) := by
  refine bd (good10 0) Try.func82 ?_
  refine go10 nf ?_
  rfl
def F82 : List AV → Option AV
  | [.v (.int .u64 x)] => some (.v (.int .u64 (lowU x)))
  | _ => none
theorem F82_eq (x : Int) : F82 [.v (.int .u64 x)] = some (.v (.int .u64 (lowU x))) := rfl
noncomputable def p7 : FuncId → Option (List AV → Option AV) := addPure p6 82 F82
noncomputable def c11 (k : Nat) : Cfg := ⟨Try.prog, k, p7, [], n8, none, []⟩
theorem c11_odd (k : Nat) : (c11 k).odd = [] := rfl
theorem c11_ro (k : Nat) : (c11 k).ro = [] := rfl
theorem c11_P (k : Nat) : (c11 k).P = Try.prog := rfl
theorem c11_pure (k : Nat) : (c11 k).pure = p7 := rfl
theorem c11_news (k : Nat) : (c11 k).news = n8 := rfl
theorem xc11 :
  (type_of% @Go.Proofs.Ytfnfmbikooeiaaa.c11_pure) ∧
  (type_of% @Go.Proofs.Ytfnfmbikooeiaaa.c11_news) ∧
  (type_of% @p7.eq_1) ∧
  (type_of% @Go.Proofs.Ytfnfmbikooeiaaa.F82_eq) :=
  ⟨@Go.Proofs.Ytfnfmbikooeiaaa.c11_pure, @Go.Proofs.Ytfnfmbikooeiaaa.c11_news, @p7.eq_1, @Go.Proofs.Ytfnfmbikooeiaaa.F82_eq⟩
theorem go11 {F A B : Prop} (f : F) (b : B) (h : F → A = B := by intro f; (repeat (first | simp only [c11_P, c11_odd, c11_ro, Nat.reduceBEq, reduceIte, Nat.reduceEqDiff, reduceCtorEq, ne_eq, if_true, if_false, exA, exA, tabs, exB, exD, buildA, rowOr, rowSetAt, rowAgg, mkAgg, AV.isAggV, AV.parts, AV.one, AV.solid, headSize, indexAddrA, indexA, fieldAddrA, fieldA, sliceA, boundsA, bndA, lenA, arrayAtA, rowOf, makeSliceA, intsOf, copyA, Nat.reduceAdd, Nat.reduceSub, Nat.reduceMul, Nat.reduceLeDiff, Nat.reduceLT, Nat.reduceGT, Int.reduceToNat, Int.reduceLE, Int.reduceLT, Int.reduceEq, Int.reduceNe, Int.reduceAdd, Int.reduceSub, Int.reduceMul, Int.reduceNeg, ite_true, ite_false, dite_true, xc10, xc11, exR, f] | simp (maxSteps := 1000000) (disch := omega) only [exE, Int.toNat_natCast, Int.reduceToNat])); all_goals rfl) : A := Eq.mpr (h f) b
theorem good11 (k : Nat) : (c11 k).Good := by
  refine Cfg.Good.add (good10 k) ?_ k
  intro args v hF h κ hκ
  unfold F82 at hF
  split at hF
  · cases hF
    exact pure_call (low_spec _) (fun g => rfl) (fun g => rfl) h κ hκ
  · cases hF
def growL (v : List Int) (x y : Nat) : List Int :=
  v.set x (IntKind.u64.wrap (v.getD x 0 + IntKind.u64.wrap (v.getD y 0 + shl .u64 (IntKind.u64.wrap (lowU (v.getD x 0) * lowU (v.getD y 0))) 1)))
def turnL (v : List Int) (z x : Nat) (n : Int) : List Int := v.set z (rotL (xorU (v.getD z 0) (v.getD x 0)) n)
def stepL (v : List Int) (x y z : Nat) (n : Int) : List Int := turnL (growL v x y) z x n
theorem step_spec (m : Nat) (v : List Int) (x y z : Nat) (n : Int) (hx : x < m) (hy : y < m) (hz : z < m) :
    ACall Try.prog 81 [.ptr 0 0 x, .ptr 0 0 y, .ptr 0 0 z, .v (.int .i64 n)] [some [.arr m .u64 v]]
      fun r h => r = .tup [] ∧ h = [some [.arr m .u64 (stepL v x y z (IntKind.i64.wrap (0 - n)))]] := by
  have na : ∀ n : Nat, (0 : Int) ≤ n := fun n => Int.natCast_nonneg n
  refine bd (good11 1) Try.func81 ?_
  refine go11 (an na (an hx (an hy (an hz @xorU_eq)))) ?_
  rfl
end Go.Proofs.Ytfnfmbikooeiaaa

namespace Go.Proofs.Ytfnfmbikooeiaaa
open Go.Ax
def stirL (v : List Int) (a b c d : Nat) : List Int := stepL (stepL (stepL (stepL v a b d (-32)) c d b (-24)) a b d (-16)) c d b (-63)
theorem stir_spec (m : Nat) (v : List Int) (a b c d : Nat) (ha : a < m) (hb : b < m) (hc : c < m) (hd : d < m) :
    ACall Try.prog 73 [.ptr 0 0 a, .ptr 0 0 b, .ptr 0 0 c, .ptr 0 0 d] [some [.arr m .u64 v]] fun r h => r = .tup [] ∧ h = [some [.arr m .u64 (stirL v a b c d)]] := by
  refine bd (good11 1) Try.func73 ?_
  refine go11 nf ?_
  refine callC_fr [0] (step_spec m v a b d 32 ha hb hd) rfl rfl (by decide) ?_
  rintro _ _ ⟨rfl, rfl⟩
  refine go11 exG ?_
  refine callC_fr [0] (step_spec m _ c d b 24 hc hd hb) rfl rfl (by decide) ?_
  rintro _ _ ⟨rfl, rfl⟩
  refine go11 exG ?_
  refine callC_fr [0] (step_spec m _ a b d 16 ha hb hd) rfl rfl (by decide) ?_
  rintro _ _ ⟨rfl, rfl⟩
  refine go11 exG ?_
  refine callC_fr [0] (step_spec m _ c d b 63 hc hd hb) rfl rfl (by decide) ?_
  rintro _ _ ⟨rfl, rfl⟩
  refine go11 exG ?_
  rfl
end Go.Proofs.Ytfnfmbikooeiaaa

namespace Go.Proofs.Ytfnfmbikooeiaaa
open Go.Ax
theorem rowSet_ones : ∀ (ps : List AV) (i : Nat) (b c d : Nat), (∀ p ∈ ps, p.one = true) → i < ps.length → rowSet ps i (.ptr b c d) = some (ps.set i (.ptr b c d))
  | [], i, b, c, d, _, h => by simp at h
  | p :: ps, i, b, c, d, hp, h => by
    have h1 := hp p (by simp)
    cases i with
    | zero => cases p <;> first | rfl | cases h1
    | succ i =>
      have ih := rowSet_ones ps i b c d (fun q hq => hp q (by simp [hq])) (by simpa using h)
      cases p <;> first | (simp only [rowSet, h1, ih, if_true, Option.map_some, List.set_cons_succ]; done) | cases h1
theorem rowCell_ones : ∀ (ps : List AV) (i : Nat) (v : AV), (∀ p ∈ ps, p.one = true) → ps[i]? = some v → rowCell ps i = some v
  | [], i, v, _, h => by simp at h
  | p :: ps, i, v, hp, h => by
    have h1 := hp p (by simp)
    cases i with
    | zero =>
      simp only [List.getElem?_cons_zero, Option.some.injEq] at h
      subst h
      cases p <;> first | rfl | cases h1
    | succ i =>
      have ih := rowCell_ones ps i v (fun q hq => hp q (by simp [hq])) (by simpa using h)
      cases p <;> first | (simp only [rowCell, h1, ih, if_true]; done) | cases h1
def allK (z : List Int) (q : Nat → Nat) : Nat → List Int
  | 0 => z
  | i + 1 => stirL (allK z q i) (q (i % 4)) (q (4 + (i % 4 + i / 4) % 4)) (q (8 + (i % 4 + 2 * (i / 4)) % 4)) (q (12 + (i % 4 + 3 * (i / 4)) % 4))
def ptr16 (b : Nat) (q : Nat → Nat) : List AV := (List.range 16).map fun j => .ptr b 0 (q j)
theorem ptr16_cell (b : Nat) (q : Nat → Nat) (j : Nat) (h : j < 16) : rowCell (ptr16 b q) j = some (.ptr b 0 (q j)) := by
  refine rowCell_ones _ _ _ ?_ ?_
  · intro p hp
    obtain ⟨j, _, rfl⟩ := List.mem_map.1 hp
    rfl
  · simp [ptr16, h]
theorem ptr16_ren (b : Nat) (q : Nat → Nat) (f : Nat → Nat) : renL f (ptr16 b q) = ptr16 (f b) q := rfl
theorem all_spec (m : Nat) (z : List Int) (q : Nat → Nat) (hq : ∀ j, j < 16 → q j < m) :
    ACall Try.prog 60 [.ptr 0 0 0] [some (ptr16 1 q), some [.arr m .u64 z]] fun r h => r = .tup [] ∧ h = [some (ptr16 1 q), some [.arr m .u64 (allK z q 8)]] := by
  have hc := ptr16_cell 1 q
  refine bd (good11 2) Try.func60 ?_
  refine go11 nf ?_
  refine loop_count (good11 2) (fun t => ⟨envL [(0, .ptr 0 0 0), (4, .v (.int .i64 t))], [some (ptr16 1 q), some [.arr m .u64 (allK z q (4 * t))]]⟩) 2 (by kernel_rfl) ?_ ?_ ?_
  · (refine weak_of ?_ ?_; (focus (first | with_reducible rfl | (simp only [allK, Nat.mul_zero] <;> with_reducible rfl))); simp only [exF, Nat.reduceEqDiff, if_true, if_false, reduceIte, Option.some.injEq, reduceCtorEq, Int.cast_ofNat_Int, allK, Nat.mul_zero])
  · intro t ht
    refine go11 nf ?_
    refine loop_count (good11 2) (fun k => ⟨envL [(0, .ptr 0 0 0), (2, .v (.int .i64 t)), (4, .v (.int .i64 t)), (7, .v (.int .i64 k))], [some (ptr16 1 q), some [.arr m .u64 (allK z q (4 * t + k))]]⟩) 4 (by kernel_rfl) ?_ ?_ ?_
    · exact wk nf
    · intro k hk
      repeat (first | simp only [c11_P, c11_odd, c11_ro, Nat.reduceBEq, reduceIte, Nat.reduceEqDiff, reduceCtorEq, ne_eq, if_true, if_false, exA, exA, tabs, exB, exD, buildA, rowOr, rowSetAt, rowAgg, mkAgg, AV.isAggV, AV.parts, AV.one, AV.solid, headSize, indexAddrA, indexA, fieldAddrA, fieldA, sliceA, boundsA, bndA, lenA, arrayAtA, rowOf, makeSliceA, intsOf, copyA, Nat.reduceAdd, Nat.reduceSub, Nat.reduceMul, Nat.reduceLeDiff, Nat.reduceLT, Nat.reduceGT, Int.reduceToNat, Int.reduceLE, Int.reduceLT, Int.reduceEq, Int.reduceNe, Int.reduceAdd, Int.reduceSub, Int.reduceMul, Int.reduceNeg, ite_true, ite_false, dite_true, xc10, xc11, exR] | simp (maxSteps := 1000000) (disch := omega) only [exE, Int.toNat_natCast, Int.reduceToNat, hc])
      repeat with_reducible refine gd ?_
      refine callC_fr [1] (stir_spec m _ (q k) (q (4 + (k + t) % 4)) (q (8 + (k + 2 * t) % 4)) (q (12 + (k + 3 * t) % 4)) (hq _ (by omega)) (hq _ (by omega)) (hq _ (by omega)) (hq _ (by omega))) rfl rfl (by decide) ?_
      rintro _ _ ⟨rfl, rfl⟩
      refine go11 (an exG @ptr16_ren) ?_
      have e : allK z q (4 * t + (k + 1)) = stirL (allK z q (4 * t + k)) (q k) (q (4 + (k + t) % 4)) (q (8 + (k + 2 * t) % 4)) (q (12 + (k + 3 * t) % 4)) := by
        show allK z q ((4 * t + k) + 1) = _
        simp only [allK]
        rw [show (4 * t + k) % 4 = k by omega, show (4 * t + k) / 4 = t by omega]
      have e2 : ptr16 (frameMap [1] 2 0) q = ptr16 1 q := rfl
      exact wk (an e e2)
    · refine go11 nf ?_
      exact wk @Nat.mul_succ
  · exact go11 nf trivial
end Go.Proofs.Ytfnfmbikooeiaaa

namespace Go.Proofs.Ytfnfmbikooeiaaa
open Go.Ax
def atK (f g : Nat → AV) (k : Nat) : List AV := (List.range 16).map fun j => if j < k then f j else g j
theorem atK_set {f g : Nat → AV} (hf : ∀ j, (f j).one = true) (hg : ∀ j, (g j).one = true) (k : Nat) (hk : k < 16) {b c d : Nat} (h : f k = .ptr b c d) : rowSet (atK f g k) k (.ptr b c d) = some (atK f g (k + 1)) := by
  rw [rowSet_ones _ _ _ _ _ ?_ (by simp [atK, hk]), ← h]
  · congr 1
    apply List.ext_getElem
    · simp [atK]
    · intro i h1 h2
      simp only [atK, List.getElem_set, List.getElem_map, List.getElem_range]
      by_cases hik : k = i
      · subst hik; simp
      · rw [if_neg hik]
        by_cases hi : i < k
        · rw [if_pos hi, if_pos (by omega)]
        · rw [if_neg hi, if_neg (by omega)]
  · intro p hp
    obtain ⟨j, _, rfl⟩ := List.mem_map.1 hp
    split
    · exact hf j
    · exact hg j
theorem stirL_len (v : List Int) (a b c d : Nat) : (stirL v a b c d).length = v.length := by simp [stirL, stepL, growL, turnL]
theorem allK_len (z : List Int) (q : Nat → Nat) : ∀ i, (allK z q i).length = z.length
  | 0 => rfl
  | i + 1 => by simp only [allK, stirL_len]; exact allK_len z q i
def idP (j : Nat) : AV := .ptr 0 0 j
def nilP (j : Nat) : AV := .v (.pointer none)
theorem Stir_spec (v : List Int) (hv : v.length = 16) : ACall Try.prog 42 [.arr 16 .u64 v] [] fun r _ => r = .arr 16 .u64 (allK v (fun j => j) 8) := by
  have ht : ∀ l : List Int, l.length = 16 → l.take 16 = l := fun l h => List.take_of_length_le (by omega)
  have hset : ∀ k, k < 16 → rowSet (atK idP nilP k) k (.ptr 0 0 k) = some (atK idP nilP (k + 1)) := fun k hk => atK_set (fun _ => rfl) (fun _ => rfl) k hk rfl
  have e0 : [AV.v (.pointer none), .v (.pointer none), .v (.pointer none), .v (.pointer none), .v (.pointer none), .v (.pointer none), .v (.pointer none), .v (.pointer none), .v (.pointer none), .v (.pointer none), .v (.pointer none), .v (.pointer none), .v (.pointer none), .v (.pointer none), .v (.pointer none), .v (.pointer none)] = atK idP nilP 0 := rfl
  refine bd (good11 0) Try.func42 ?_
  refine go11 nf ?_
  refine loop_count (good11 0) (fun i => ⟨envL [(1, .ptr 0 0 0), (2, .ptr 1 0 0), (3, .ptr 2 0 0), (5, .v (.int .i64 i))], [some [.arr 16 .u64 v], some [.arr 16 .u64 (List.replicate 16 0)], some (atK idP nilP i)]⟩) 16 (by kernel_rfl) ?_ ?_ ?_
  · exact wk e0
  · intro i hi
    repeat (first | simp only [c11_P, c11_odd, c11_ro, Nat.reduceBEq, reduceIte, Nat.reduceEqDiff, reduceCtorEq, ne_eq, if_true, if_false, exA, exA, tabs, exB, exD, buildA, rowOr, rowSetAt, rowAgg, mkAgg, AV.isAggV, AV.parts, AV.one, AV.solid, headSize, indexAddrA, indexA, fieldAddrA, fieldA, sliceA, boundsA, bndA, lenA, arrayAtA, rowOf, makeSliceA, intsOf, copyA, Nat.reduceAdd, Nat.reduceSub, Nat.reduceMul, Nat.reduceLeDiff, Nat.reduceLT, Nat.reduceGT, Int.reduceToNat, Int.reduceLE, Int.reduceLT, Int.reduceEq, Int.reduceNe, Int.reduceAdd, Int.reduceSub, Int.reduceMul, Int.reduceNeg, ite_true, ite_false, dite_true, xc10, xc11, exR] | simp (maxSteps := 1000000) (disch := omega) only [exE, Int.toNat_natCast, Int.reduceToNat, hset])
    repeat with_reducible refine gd ?_
    exact wk hset
  · refine go11 nf ?_
    refine callC_fr [2, 0] (all_spec 16 v (fun j => j) (fun j h => h)) rfl rfl (by decide) ?_
    rintro _ _ ⟨rfl, rfl⟩
    refine go11 exG ?_
    rw [ht (allK v (fun j => j) 8) (by rw [allK_len, hv]), ht (allK v (fun j => j) 8) (by rw [allK_len, hv])]
end Go.Proofs.Ytfnfmbikooeiaaa

namespace Go.Proofs.Ytfnfmbikooeiaaa
open Go.Ax
def plusU (x y : Int) : Int := IntKind.u64.wrap (IntKind.u64.wrap (x + y) + IntKind.u64.wrap (IntKind.u64.wrap (2 * x.tmod 4294967296) * y.tmod 4294967296))
theorem plus_spec (x y : Int) : ACall Try.prog 74 [.v (.int .u64 x), .v (.int .u64 y)] [] fun r _ => r = .v (.int .u64 (plusU x y)) := by
  refine bd (good11 0) Try.func74 ?_
  refine go11 nf ?_
  rfl
theorem rturn_spec (n x : Int) (h : 0 ≤ n ∧ 0 ≤ IntKind.i64.wrap (64 - n)) : ACall Try.prog 75 [.v (.int .i64 n), .v (.int .u64 x)] [] fun r _ => r = .v (.int .u64 (rotR n x)) := by
  refine bd (good11 0) Try.func75 ?_
  refine go11 h ?_
  rfl
def F74 : List AV → Option AV
  | [.v (.int .u64 x), .v (.int .u64 y)] => some (.v (.int .u64 (plusU x y)))
  | _ => none
theorem F74_eq (x y : Int) : F74 [.v (.int .u64 x), .v (.int .u64 y)] = some (.v (.int .u64 (plusU x y))) := rfl
def F75 : List AV → Option AV
  | [.v (.int .i64 n), .v (.int .u64 x)] => oguard (0 ≤ n ∧ 0 ≤ IntKind.i64.wrap (64 - n)) (some (.v (.int .u64 (rotR n x))))
  | _ => none
theorem F75_32 (x : Int) : F75 [.v (.int .i64 32), .v (.int .u64 x)] = some (.v (.int .u64 (rotR 32 x))) := rfl
theorem F75_24 (x : Int) : F75 [.v (.int .i64 24), .v (.int .u64 x)] = some (.v (.int .u64 (rotR 24 x))) := rfl
theorem F75_16 (x : Int) : F75 [.v (.int .i64 16), .v (.int .u64 x)] = some (.v (.int .u64 (rotR 16 x))) := rfl
theorem F75_63 (x : Int) : F75 [.v (.int .i64 63), .v (.int .u64 x)] = some (.v (.int .u64 (rotR 63 x))) := rfl
noncomputable def p8 : FuncId → Option (List AV → Option AV) := addPure (addPure p7 74 F74) 75 F75
noncomputable def c12 (k : Nat) : Cfg := ⟨Try.prog, k, p8, [], n8, none, []⟩
theorem c12_odd (k : Nat) : (c12 k).odd = [] := rfl
theorem c12_ro (k : Nat) : (c12 k).ro = [] := rfl
theorem c12_P (k : Nat) : (c12 k).P = Try.prog := rfl
theorem c12_pure (k : Nat) : (c12 k).pure = p8 := rfl
theorem c12_news (k : Nat) : (c12 k).news = n8 := rfl
theorem xc12 :
  (type_of% @Go.Proofs.Ytfnfmbikooeiaaa.c12_pure) ∧
  (type_of% @Go.Proofs.Ytfnfmbikooeiaaa.c12_news) ∧
  (type_of% @p8.eq_1) ∧
  (type_of% @Go.Proofs.Ytfnfmbikooeiaaa.F74_eq) ∧
  (type_of% @Go.Proofs.Ytfnfmbikooeiaaa.F75_32) ∧
  (type_of% @Go.Proofs.Ytfnfmbikooeiaaa.F75_24) ∧
  (type_of% @Go.Proofs.Ytfnfmbikooeiaaa.F75_16) ∧
  (type_of% @Go.Proofs.Ytfnfmbikooeiaaa.F75_63) :=
  ⟨@Go.Proofs.Ytfnfmbikooeiaaa.c12_pure, @Go.Proofs.Ytfnfmbikooeiaaa.c12_news, @p8.eq_1, @Go.Proofs.Ytfnfmbikooeiaaa.F74_eq, @Go.Proofs.Ytfnfmbikooeiaaa.F75_32, @Go.Proofs.Ytfnfmbikooeiaaa.F75_24, @Go.Proofs.Ytfnfmbikooeiaaa.F75_16, @Go.Proofs.Ytfnfmbikooeiaaa.F75_63⟩
theorem go12 {F A B : Prop} (f : F) (b : B) (h : F → A = B := by intro f; (repeat (first | simp only [c12_P, c12_odd, c12_ro, Nat.reduceBEq, reduceIte, Nat.reduceEqDiff, reduceCtorEq, ne_eq, if_true, if_false, exA, exA, tabs, exB, exD, buildA, rowOr, rowSetAt, rowAgg, mkAgg, AV.isAggV, AV.parts, AV.one, AV.solid, headSize, indexAddrA, indexA, fieldAddrA, fieldA, sliceA, boundsA, bndA, lenA, arrayAtA, rowOf, makeSliceA, intsOf, copyA, Nat.reduceAdd, Nat.reduceSub, Nat.reduceMul, Nat.reduceLeDiff, Nat.reduceLT, Nat.reduceGT, Int.reduceToNat, Int.reduceLE, Int.reduceLT, Int.reduceEq, Int.reduceNe, Int.reduceAdd, Int.reduceSub, Int.reduceMul, Int.reduceNeg, ite_true, ite_false, dite_true, xc10, xc11, xc12, exR, f] | simp (maxSteps := 1000000) (disch := omega) only [exE, Int.toNat_natCast, Int.reduceToNat])); all_goals rfl) : A := Eq.mpr (h f) b
theorem good12 (k : Nat) : (c12 k).Good := by
  refine Cfg.Good.add (Cfg.Good.add (good11 k) ?_ k) ?_ k
  · intro args v hF h κ hκ
    unfold F74 at hF
    split at hF
    · cases hF
      exact pure_call (plus_spec _ _) (fun g => rfl) (fun g => rfl) h κ hκ
    · cases hF
  · intro args v hF h κ hκ
    unfold F75 at hF
    split at hF
    · obtain ⟨h1, hF⟩ := oguard_some hF
      cases hF
      exact pure_call (rturn_spec _ _ h1) (fun g => rfl) (fun g => rfl) h κ hκ
    · cases hF
def plusP (v : List Int) (a b : Nat) : List Int := v.set a (plusU (v.getD a 0) (v.getD b 0))
def turnP (v : List Int) (z x : Nat) (n : Int) : List Int := v.set z (rotR n (xorU (v.getD z 0) (v.getD x 0)))
theorem plusP_eq (v : List Int) (a b : Nat) : v.set a (plusU (v.getD a 0) (v.getD b 0)) = plusP v a b := rfl
theorem turnP_eq (v : List Int) (z x : Nat) (n : Int) : v.set z (rotR n (xorU (v.getD z 0) (v.getD x 0))) = turnP v z x n := rfl
theorem plusP_len (v : List Int) (a b : Nat) : (plusP v a b).length = v.length := by simp [plusP]
theorem turnP_len (v : List Int) (z x : Nat) (n : Int) : (turnP v z x n).length = v.length := by simp [turnP]
def fourL (v : List Int) (a b c d : Nat) : List Int :=
  turnP (plusP (turnP (plusP (turnP (plusP (turnP (plusP v a b) d a 32) c d) b c 24) a b) d a 16) c d) b c 63
theorem four_spec (v : List Int) (a b c d : Nat) (hv : v.length = 16) (ha : a < 16) (hb : b < 16) (hc : c < 16) (hd : d < 16) :
    ACall Try.prog 61 [.arr 16 .u64 v, .v (.int .i64 a), .v (.int .i64 b), .v (.int .i64 c), .v (.int .i64 d)] [] fun r _ => r = .arr 16 .u64 (fourL v a b c d) := by
  have na : ∀ n : Nat, (0 : Int) ≤ n := fun n => Int.natCast_nonneg n
  have ha' : (a : Int) < 16 := by omega
  have hb' : (b : Int) < 16 := by omega
  have hc' : (c : Int) < 16 := by omega
  have hd' : (d : Int) < 16 := by omega
  refine bd (good12 0) Try.func61 ?_
  repeat (first | simp only [c12_P, c12_odd, c12_ro, Nat.reduceBEq, reduceIte, Nat.reduceEqDiff, reduceCtorEq, ne_eq, if_true, if_false, exA, exA, tabs, exB, exD, buildA, rowOr, rowSetAt, rowAgg, mkAgg, AV.isAggV, AV.parts, AV.one, AV.solid, headSize, indexAddrA, indexA, fieldAddrA, fieldA, sliceA, boundsA, bndA, lenA, arrayAtA, rowOf, makeSliceA, intsOf, copyA, Nat.reduceAdd, Nat.reduceSub, Nat.reduceMul, Nat.reduceLeDiff, Nat.reduceLT, Nat.reduceGT, Int.reduceToNat, Int.reduceLE, Int.reduceLT, Int.reduceEq, Int.reduceNe, Int.reduceAdd, Int.reduceSub, Int.reduceMul, Int.reduceNeg, ite_true, ite_false, dite_true, xc10, xc11, xc12, exR, na, ha, hb, hc, hd, ha', hb', hc', hd', plusP_eq, turnP_eq] | simp (maxSteps := 1000000) (disch := omega) only [exE, Int.toNat_natCast, Int.reduceToNat])
  have ht : ∀ l : List Int, l.length = 16 → l.take 16 = l := fun l h => List.take_of_length_le (by omega)
  have hl : (fourL v a b c d).length = 16 := by simp only [fourL, plusP_len, turnP_len, hv]
  show AV.arr 16 .u64 (List.take 16 (List.take 16 (fourL v a b c d))) = _
  rw [ht (fourL v a b c d) hl, ht (fourL v a b c d) hl]
end Go.Proofs.Ytfnfmbikooeiaaa

namespace Go.Proofs.Ytfnfmbikooeiaaa
open Go.Ax
theorem fourL_len (v : List Int) (a b c d : Nat) : (fourL v a b c d).length = v.length := by simp only [fourL, plusP_len, turnP_len]
def F61 : List AV → Option AV
  | [.arr 16 .u64 v, .v (.int .i64 a), .v (.int .i64 b), .v (.int .i64 c), .v (.int .i64 d)] =>
    oguard (v.length = 16 ∧ (0 ≤ a ∧ a < 16) ∧ (0 ≤ b ∧ b < 16) ∧ (0 ≤ c ∧ c < 16) ∧ (0 ≤ d ∧ d < 16)) (some (.arr 16 .u64 (fourL v a.toNat b.toNat c.toNat d.toNat)))
  | _ => none
theorem F61_eq (v : List Int) (a b c d : Int) : F61 [.arr 16 .u64 v, .v (.int .i64 a), .v (.int .i64 b), .v (.int .i64 c), .v (.int .i64 d)] =
    oguard (v.length = 16 ∧ (0 ≤ a ∧ a < 16) ∧ (0 ≤ b ∧ b < 16) ∧ (0 ≤ c ∧ c < 16) ∧ (0 ≤ d ∧ d < 16)) (some (.arr 16 .u64 (fourL v a.toNat b.toNat c.toNat d.toNat))) := rfl
noncomputable def p9 : FuncId → Option (List AV → Option AV) := addPure p8 61 F61
noncomputable def c13 (k : Nat) : Cfg := ⟨Try.prog, k, p9, [], n8, none, []⟩
theorem c13_odd (k : Nat) : (c13 k).odd = [] := rfl
theorem c13_ro (k : Nat) : (c13 k).ro = [] := rfl
theorem c13_P (k : Nat) : (c13 k).P = Try.prog := rfl
theorem c13_pure (k : Nat) : (c13 k).pure = p9 := rfl
theorem c13_news (k : Nat) : (c13 k).news = n8 := rfl
theorem xc13 :
  (type_of% @Go.Proofs.Ytfnfmbikooeiaaa.c13_pure) ∧
  (type_of% @Go.Proofs.Ytfnfmbikooeiaaa.c13_news) ∧
  (type_of% @p9.eq_1) ∧
  (type_of% @Go.Proofs.Ytfnfmbikooeiaaa.F61_eq) ∧
  (type_of% @Go.Proofs.Ytfnfmbikooeiaaa.fourL_len) :=
  ⟨@Go.Proofs.Ytfnfmbikooeiaaa.c13_pure, @Go.Proofs.Ytfnfmbikooeiaaa.c13_news, @p9.eq_1, @Go.Proofs.Ytfnfmbikooeiaaa.F61_eq, @Go.Proofs.Ytfnfmbikooeiaaa.fourL_len⟩
theorem go13 {F A B : Prop} (f : F) (b : B) (h : F → A = B := by intro f; (repeat (first | simp only [c13_P, c13_odd, c13_ro, Nat.reduceBEq, reduceIte, Nat.reduceEqDiff, reduceCtorEq, ne_eq, if_true, if_false, exA, exA, tabs, exB, exD, buildA, rowOr, rowSetAt, rowAgg, mkAgg, AV.isAggV, AV.parts, AV.one, AV.solid, headSize, indexAddrA, indexA, fieldAddrA, fieldA, sliceA, boundsA, bndA, lenA, arrayAtA, rowOf, makeSliceA, intsOf, copyA, Nat.reduceAdd, Nat.reduceSub, Nat.reduceMul, Nat.reduceLeDiff, Nat.reduceLT, Nat.reduceGT, Int.reduceToNat, Int.reduceLE, Int.reduceLT, Int.reduceEq, Int.reduceNe, Int.reduceAdd, Int.reduceSub, Int.reduceMul, Int.reduceNeg, ite_true, ite_false, dite_true, xc10, xc11, xc12, xc13, exR, f] | simp (maxSteps := 1000000) (disch := omega) only [exE, Int.toNat_natCast, Int.reduceToNat])); all_goals rfl) : A := Eq.mpr (h f) b
theorem good13 (k : Nat) : (c13 k).Good := by
  refine Cfg.Good.add (good12 k) ?_ k
  intro args v hF h κ hκ
  unfold F61 at hF
  split at hF
  · rename_i v0 a b c d
    obtain ⟨⟨h0, ⟨a1, a2⟩, ⟨b1, b2⟩, ⟨c1, c2⟩, d1, d2⟩, h5⟩ := oguard_some hF
    cases h5
    obtain ⟨a, rfl⟩ := Int.eq_ofNat_of_zero_le a1
    obtain ⟨b, rfl⟩ := Int.eq_ofNat_of_zero_le b1
    obtain ⟨c, rfl⟩ := Int.eq_ofNat_of_zero_le c1
    obtain ⟨d, rfl⟩ := Int.eq_ofNat_of_zero_le d1
    exact pure_call (four_spec v0 a b c d h0 (by omega) (by omega) (by omega) (by omega)) (fun g => rfl) (fun g => rfl) h κ hκ
  · cases hF
def rstirL (v : List Int) : List Int :=
  fourL (fourL (fourL (fourL (fourL (fourL (fourL (fourL v 0 4 8 12) 1 5 9 13) 2 6 10 14) 3 7 11 15) 0 5 10 15) 1 6 11 12) 2 7 8 13) 3 4 9 14
theorem rStir_spec (v : List Int) (hv : v.length = 16) : ACall Try.prog 43 [.arr 16 .u64 v] [] fun r _ => r = .arr 16 .u64 (rstirL v) := by
  have ht : ∀ l : List Int, l.length = 16 → l.take 16 = l := fun l h => List.take_of_length_le (by omega)
  have hf : ∀ (l : List Int) a b c d, l.length = 16 → (fourL l a b c d).take 16 = fourL l a b c d := fun l a b c d h => ht _ (by rw [fourL_len, h])
  have hv2 : v.take 16 = v := ht v hv
  refine bd (good13 0) Try.func43 ?_
  refine go13 (an hv hv2) ?_
  simp only [hf, fourL_len, hv]
  rfl
theorem lowU_eq (x : Int) : lowU x = x % 4294967296 := by
  have h1 : (BitVec.ofInt 64 x &&& BitVec.ofInt 64 4294967295).toNat = (x % 4294967296).toNat := by
    have h2 : ((4294967295 : Int) % ((2 ^ 64 : Nat) : Int)).toNat = 2 ^ 32 - 1 := by decide
    rw [BitVec.toNat_and, BitVec.toNat_ofInt, BitVec.toNat_ofInt, h2, Nat.and_two_pow_sub_one_eq_mod]
    omega
  unfold lowU
  show IntKind.u64.wrap (((BitVec.ofInt 64 x &&& BitVec.ofInt 64 4294967295).toNat : Nat) : Int) = _
  rw [h1, wrap_u64']
  omega
theorem grow_plus (x y : Int) (hx : 0 ≤ x) (hy : 0 ≤ y) :
    IntKind.u64.wrap (x + IntKind.u64.wrap (y + shl .u64 (IntKind.u64.wrap (lowU x * lowU y)) 1)) = plusU x y := by
  have h1 : (2 : Int) ^ min (1 : Int).toNat IntKind.u64.bits = 2 := by decide
  unfold plusU shl
  rw [h1, lowU_eq, lowU_eq, Int.tmod_eq_emod_of_nonneg hx, Int.tmod_eq_emod_of_nonneg hy]
  simp only [wrap_u64']
  have ha : 0 ≤ x % 4294967296 ∧ x % 4294967296 < 4294967296 := by omega
  generalize x % 4294967296 = a at ha
  generalize y % 4294967296 = b
  have h2 : 2 * a % 18446744073709551616 = 2 * a := by omega
  rw [h2, Int.mul_assoc]
  generalize a * b = p
  omega
end Go.Proofs.Ytfnfmbikooeiaaa

namespace Go.Proofs.Ytfnfmbikooeiaaa
open Go.Ax
def NonNeg (v : List Int) : Prop := ∀ i : Nat, 0 ≤ v.getD i 0
theorem NonNeg.set {v : List Int} (h : NonNeg v) (i : Nat) {x : Int} (hx : 0 ≤ x) : NonNeg (v.set i x) := by
  intro j
  have hj := h j
  rw [List.getD_eq_getElem?_getD] at hj ⊢
  rw [List.getElem?_set]
  split
  · split
    · simpa using hx
    · simp
  · exact hj
theorem u64_nn (x : Int) : 0 ≤ IntKind.u64.wrap x := by rw [wrap_u64']; omega
theorem plusP_nn {v : List Int} (h : NonNeg v) (a b : Nat) : NonNeg (plusP v a b) := h.set a (u64_nn _)
theorem turnP_nn {v : List Int} (h : NonNeg v) (z x : Nat) (n : Int) : NonNeg (turnP v z x n) := h.set z (u64_nn _)
theorem fourL_nn {v : List Int} (h : NonNeg v) (a b c d : Nat) : NonNeg (fourL v a b c d) :=
  turnP_nn (plusP_nn (turnP_nn (plusP_nn (turnP_nn (plusP_nn (turnP_nn (plusP_nn h _ _) _ _ _) _ _) _ _ _) _ _) _ _ _) _ _) _ _ _
theorem growL_eq {v : List Int} (h : NonNeg v) (x y : Nat) : growL v x y = plusP v x y := by
  unfold growL plusP
  rw [grow_plus _ _ (h x) (h y)]
theorem turnL_32 (v : List Int) (z x : Nat) : turnL v z x (-32) = turnP v z x 32 := by
  have h : IntKind.i64.wrap (-32) = -32 := by decide
  have h2 := rot32 (xorU (v.getD z 0) (v.getD x 0))
  rw [h] at h2
  unfold turnL turnP; rw [h2]
theorem turnL_24 (v : List Int) (z x : Nat) : turnL v z x (-24) = turnP v z x 24 := by
  have h : IntKind.i64.wrap (-24) = -24 := by decide
  have h2 := rot24 (xorU (v.getD z 0) (v.getD x 0))
  rw [h] at h2
  unfold turnL turnP; rw [h2]
theorem turnL_16 (v : List Int) (z x : Nat) : turnL v z x (-16) = turnP v z x 16 := by
  have h : IntKind.i64.wrap (-16) = -16 := by decide
  have h2 := rot16 (xorU (v.getD z 0) (v.getD x 0))
  rw [h] at h2
  unfold turnL turnP; rw [h2]
theorem turnL_63 (v : List Int) (z x : Nat) : turnL v z x (-63) = turnP v z x 63 := by
  have h : IntKind.i64.wrap (-63) = -63 := by decide
  have h2 := rot63 (xorU (v.getD z 0) (v.getD x 0))
  rw [h] at h2
  unfold turnL turnP; rw [h2]
theorem stirL_eq {v : List Int} (h : NonNeg v) (a b c d : Nat) : stirL v a b c d = fourL v a b c d := by
  unfold stirL stepL fourL
  rw [growL_eq h, turnL_32]
  have h1 := turnP_nn (plusP_nn h a b) d a 32
  rw [growL_eq h1, turnL_24]
  have h2 := turnP_nn (plusP_nn h1 c d) b c 24
  rw [growL_eq h2, turnL_16]
  have h3 := turnP_nn (plusP_nn h2 a b) d a 16
  rw [growL_eq h3, turnL_63]
theorem allK_nn {z : List Int} (h : NonNeg z) (q : Nat → Nat) : ∀ i, NonNeg (allK z q i)
  | 0 => h
  | i + 1 => by
    simp only [allK]
    rw [stirL_eq (allK_nn h q i)]
    exact fourL_nn (allK_nn h q i) _ _ _ _
theorem stir_law {v : List Int} (h : NonNeg v) : allK v (fun j => j) 8 = rstirL v := by
  have hs : ∀ i, allK v (fun j => j) (i + 1) = fourL (allK v (fun j => j) i) (i % 4) (4 + (i % 4 + i / 4) % 4) (8 + (i % 4 + 2 * (i / 4)) % 4) (12 + (i % 4 + 3 * (i / 4)) % 4) := by
    intro i
    have := stirL_eq (allK_nn h (fun j => j) i) (i % 4) (4 + (i % 4 + i / 4) % 4) (8 + (i % 4 + 2 * (i / 4)) % 4) (12 + (i % 4 + 3 * (i / 4)) % 4)
    rw [← this]; rfl
  rw [hs 7, hs 6, hs 5, hs 4, hs 3, hs 2, hs 1, hs 0]
  rfl
end Go.Proofs.Ytfnfmbikooeiaaa

namespace Go.Proofs.Ytfnfmbikooeiaaa
open Go.Ax
def le4 (n : Int) : List Int := [IntKind.u8.wrap n, IntKind.u8.wrap (shr .i64 n 8), IntKind.u8.wrap (shr .i64 n 16), IntKind.u8.wrap (shr .i64 n 24)]
def b64 (all : List Int) : Nat → List Int
  | 0 => all
  | i + 1 => blakeL 64 [] (b64 all i)
def out64 (all : List Int) : Nat → List Int
  | 0 => []
  | i + 1 => out64 all i ++ (b64 all (i + 1)).take 32
def longL (n : Nat) (all : List Int) : List Int :=
  if n ≤ 64 then blakeL n [] all else out64 all ((n - 33) / 32) ++ blakeL (n - 32 * ((n - 33) / 32)) [] (b64 all ((n - 33) / 32))
def vAt (n : Nat) (all : List Int) (i : Nat) : List Int := if i < (n - 33) / 32 then b64 all (i + 1) else blakeL (n - 32 * ((n - 33) / 32)) [] (b64 all ((n - 33) / 32))
def vLen (n i : Nat) : Nat := if i < (n - 33) / 32 then 64 else n - 32 * ((n - 33) / 32)
theorem vAt_len (n : Nat) (all : List Int) (i : Nat) : (vAt n all i).length = vLen n i := by
  unfold vAt vLen
  split
  · simp only [b64]; exact blakeL_len _ _ _
  · exact blakeL_len _ _ _
theorem vAt_succ (n : Nat) (all : List Int) (i : Nat) (h : i < (n - 33) / 32) : vAt n all (i + 1) = blakeL (vLen n (i + 1)) [] (vAt n all i) := by
  unfold vAt vLen
  rw [if_pos h]
  by_cases h2 : i + 1 < (n - 33) / 32
  · rw [if_pos h2, if_pos h2]; rfl
  · rw [if_neg h2, if_neg h2]
    have : (n - 33) / 32 = i + 1 := by omega
    rw [this]
theorem out64_len (all : List Int) (i : Nat) : (out64 all i).length = 32 * i := by
  induction i with
  | zero => rfl
  | succ i ih => simp only [out64, List.length_append, List.length_take, ih, b64, blakeL_len]; omega
theorem long_bad (n : Int) (ms : List (List Int)) (hb : n < 1 ∨ 65536 < n) :
    ACall Try.prog 31 [.v (.int .i64 n), .roL 1 (ms.map (AV.roI .u8))] [] fun v h' => v = .tup [.v (.slice none 0 0), .v (.int .i64 1)] ∧ h' = [] := by
  refine bd (good10 0) Try.func31 ?_
  rcases hb with hb | hb
  · exact go10 hb trivial
  · have h1 : ¬ n < 1 := by omega
    exact go10 (an hb h1) trivial
theorem long_small (n : Nat) (ms : List (List Int)) (hn : 1 ≤ n ∧ n ≤ 64) (hb : ms.flatten.length ≤ 274877906944 ∧ ms.length ≤ 274877906944) :
    ACall Try.prog 31 [.v (.int .i64 n), .roL 1 (ms.map (AV.roI .u8))] [] fun v h' => v = .tup [.sl 0 0 1 0 n n, .v (.int .i64 0)] ∧ h' = [some [.arr n .u8 (longL n (le4 n ++ ms.flatten))]] := by
  refine ACall.weak (C := c10 0) rfl (κ := fun v h' => v = .tup [.sl 3 0 1 0 n n, .v (.int .i64 0)] ∧ ∃ x y z, h' = [x, y, z, some [.arr n .u8 (longL n (le4 n ++ ms.flatten))]]) ?_ ?_
  · have hL : longL n (le4 n ++ ms.flatten) = blakeL n [] (le4 n ++ ms.flatten) := by unfold longL; rw [if_pos hn.2]
    rw [hL]
    refine bd (good10 0) Try.func31 ?_
    refine go10 nf ?_
    repeat with_reducible refine gd ?_
    intro c0 _
    have hso : (ms.map (AV.roI .u8)).all AV.solid = true := by simp [AV.solid, AV.one]
    have htk : List.take (1 + ms.length) (AV.sl 0 0 1 0 4 4 :: List.map (AV.roI .u8) ms) = AV.sl 0 0 1 0 4 4 :: List.map (AV.roI .u8) ms := List.take_of_length_le (by simp; omega)
    refine go10 (an hso htk) ?_
    repeat with_reducible refine gd ?_
    exact ⟨_, _, _, rfl⟩
  · rintro v h' ⟨rfl, x, y, z, rfl⟩
    exact ⟨_, _, weak_gc' [3] (by decide) (by simp) (by rfl) rfl ⟨rfl, trivial⟩, rfl, rfl⟩
def outB (n : Nat) (all : List Int) (i : Nat) : List Int := if i = 0 then List.replicate (n + 32) 0 else out64 all i
theorem outB_take (n : Nat) (all : List Int) (i : Nat) : (outB n all i).take (32 * i) = out64 all i := by
  unfold outB
  split
  · subst i; rfl
  · exact List.take_of_length_le (by rw [out64_len]; omega)
theorem outB_len (n : Nat) (all : List Int) (i : Nat) : 32 * i ≤ (outB n all i).length := by
  unfold outB
  split
  · subst i; simp
  · rw [out64_len]; omega
theorem long_big (n : Nat) (ms : List (List Int)) (hn : 64 < n ∧ n ≤ 65536) (hb : ms.flatten.length ≤ 274877906944 ∧ ms.length ≤ 274877906944) :
    ACall Try.prog 31 [.v (.int .i64 n), .roL 1 (ms.map (AV.roI .u8))] [] fun v h' => ∃ c, n ≤ c ∧ v = .tup [.sl 0 0 1 0 n c, .v (.int .i64 0)] ∧ h' = [some [.arr n .u8 (longL n (le4 n ++ ms.flatten))]] := by
  refine ACall.weak (C := c10 0) rfl (κ := fun v h' => ∃ c x y, n ≤ c ∧ v = .tup [.sl 2 0 1 0 n c, .v (.int .i64 0)] ∧ h' = [x, y, some [.arr n .u8 (longL n (le4 n ++ ms.flatten))]]) ?_ ?_
  · have h64 : ¬ n ≤ 64 := by omega
    refine bd (good10 0) Try.func31 ?_
    refine go10 nf ?_
    repeat with_reducible refine gd ?_
    intro c0 _
    have hso : (ms.map (AV.roI .u8)).all AV.solid = true := by simp [AV.solid, AV.one]
    have htk : List.take (1 + ms.length) (AV.sl 0 0 1 0 4 4 :: List.map (AV.roI .u8) ms) = AV.sl 0 0 1 0 4 4 :: List.map (AV.roI .u8) ms := List.take_of_length_le (by simp; omega)
    refine go10 (an hso htk) ?_
    repeat with_reducible refine gd ?_
    refine loop_countE (good10 0) (fun i c => ⟨envL [(0, .v (.int .i64 n)), (7, .sl 0 0 1 0 (32 * i) c), (8, .sl 1 0 1 0 (vLen n i) (vLen n i))],
      [some [.arr (outB n (le4 n ++ ms.flatten) i).length .u8 (outB n (le4 n ++ ms.flatten) i)], some [.arr (vLen n i) .u8 (vAt n (le4 n ++ ms.flatten) i)]]⟩) ((n - 33) / 32) (by kernel_rfl) ⟨n + 32, ?_⟩ ?_ ?_
    · have e0 : vLen n 0 = 64 := by unfold vLen; rw [if_pos (by omega)]
      have e1 : ∀ all, outB n all 0 = List.replicate (n + 32) 0 := fun all => rfl
      have e2 : ∀ all, vAt n all 0 = blakeL 64 [] all := by intro all; unfold vAt; rw [if_pos (by omega)]; rfl
      rw [e0, e1, e2, List.length_replicate]
      (refine weak_gc' [3, 4] (by decide) (by simp) (by rfl) ?_ ?_; (focus (first | with_reducible rfl | (simp only [List.map_cons, List.map_nil, List.cons_append, List.nil_append, List.getElem?_cons_zero, List.getElem?_cons_succ, renB, renL, Option.map_some, Option.map_none, AV.ren, gcMap, List.getD_cons_zero, List.getD_cons_succ, le4, List.cons_append, List.nil_append, Nat.mul_zero] <;> with_reducible rfl))); simp only [exF, List.map_cons, List.map_nil, List.length_cons, List.length_nil, Nat.reduceAdd, AV.ren, renL, gcMap, Nat.reduceEqDiff, if_true, if_false, reduceIte, Option.some.injEq, reduceCtorEq, Int.cast_ofNat_Int, le4, List.cons_append, List.nil_append, Nat.mul_zero])
    · intro i c hi
      have v1 : vLen n i = 64 := by unfold vLen; rw [if_pos hi]
      have ho := outB_len n (le4 n ++ ms.flatten) i
      have ht := outB_take n (le4 n ++ ms.flatten) i
      have hvl := vAt_len n (le4 n ++ ms.flatten) i
      rw [v1] at hvl
      have hmin : min 32 64 = 32 := rfl
      have hvb : 33 ≤ vLen n (i + 1) ∧ vLen n (i + 1) ≤ 64 := by unfold vLen; split <;> omega
      have hm : (if ((n - (32 * i + 32) : Nat) : Int) < 64 then ((n - (32 * i + 32) : Nat) : Int) else 64) = ((vLen n (i + 1) : Nat) : Int) := by unfold vLen; split <;> split <;> omega
      refine go10 (an v1 (an ht (an hvl (an hmin hm)))) ?_
      repeat with_reducible refine gd ?_
      intro c1 _
      refine ⟨c1, ?_⟩
      have e1 : outB n (le4 n ++ ms.flatten) (i + 1) = out64 (le4 n ++ ms.flatten) i ++ List.take 32 (vAt n (le4 n ++ ms.flatten) i) := by
        unfold outB vAt
        rw [if_neg (by omega), if_pos hi]
        rfl
      have e2 : (outB n (le4 n ++ ms.flatten) (i + 1)).length = 32 * i + 32 := by
        unfold outB
        rw [if_neg (by omega), out64_len]; omega
      rw [e2, e1, vAt_succ n _ i hi, show 32 * (i + 1) = 32 * i + 32 by omega]
      exact wgc [2, 4] e1
    · intro c
      have vR : vLen n ((n - 33) / 32) = n - 32 * ((n - 33) / 32) := by unfold vLen; rw [if_neg (by omega)]
      have ho := outB_len n (le4 n ++ ms.flatten) ((n - 33) / 32)
      have ht := outB_take n (le4 n ++ ms.flatten) ((n - 33) / 32)
      have hvl := vAt_len n (le4 n ++ ms.flatten) ((n - 33) / 32)
      rw [vR] at hvl
      have hvt : List.take (n - 32 * ((n - 33) / 32)) (vAt n (le4 n ++ ms.flatten) ((n - 33) / 32)) = vAt n (le4 n ++ ms.flatten) ((n - 33) / 32) := List.take_of_length_le (by omega)
      refine go10 (an vR (an ht (an hvl hvt))) ?_
      repeat with_reducible refine gd ?_
      intro c1 hc1
      have eN : 32 * ((n - 33) / 32) + (n - 32 * ((n - 33) / 32)) = n := by omega
      have eL : longL n (le4 n ++ ms.flatten) = out64 (le4 n ++ ms.flatten) ((n - 33) / 32) ++ vAt n (le4 n ++ ms.flatten) ((n - 33) / 32) := by
        unfold longL vAt
        rw [if_neg h64, if_neg (by omega)]
      rw [eN, eL]
      exact ⟨_, _, _, by omega, rfl, rfl⟩
  · rintro v h' ⟨c, x, y, hc, rfl, rfl⟩
    exact ⟨_, _, weak_gc' [2] (by decide) (by simp) (by rfl) rfl ⟨rfl, trivial⟩, _, hc, rfl, rfl⟩
def N31 (h : List Blk) : List AV → Option Out
  | [.v (.int .i64 n), m] => (u8sOf h m).bind fun ms => osel (decide (n < 1 ∨ 65536 < n)) (some (.one (.tup [.v (.slice none 0 0), .v (.int .i64 1)]) h))
      (oguard (ms.flatten.length ≤ 274877906944 ∧ ms.length ≤ 274877906944) (some (.cap n.toNat fun c => (.tup [.sl h.length 0 1 0 n.toNat c, .v (.int .i64 0)], h ++ [some [.arr n.toNat .u8 (longL n.toNat (le4 n ++ ms.flatten))]]))))
  | _ => none
theorem N31_eq (h : List Blk) (n : Int) (m : AV) : N31 h [.v (.int .i64 n), m] = (u8sOf h m).bind fun ms => osel (decide (n < 1 ∨ 65536 < n)) (some (.one (.tup [.v (.slice none 0 0), .v (.int .i64 1)]) h))
      (oguard (ms.flatten.length ≤ 274877906944 ∧ ms.length ≤ 274877906944) (some (.cap n.toNat fun c => (.tup [.sl h.length 0 1 0 n.toNat c, .v (.int .i64 0)], h ++ [some [.arr n.toNat .u8 (longL n.toNat (le4 n ++ ms.flatten))]])))) := rfl
theorem good31 {C : Cfg} (hP : C.P = Try.prog) (h : List Blk) (args : List AV) (out : Out) (hN : N31 h args = some out) : (out.all fun _ h' => ∃ ext, h' = h ++ ext) ∧ ∀ κ, out.all κ → ACall C.P 31 args h κ := by
  rw [hP]
  unfold N31 at hN
  split at hN
  · rename_i n m
    obtain ⟨ms, hm, hN⟩ := Option.bind_eq_some_iff.1 hN
    by_cases hb : n < 1 ∨ 65536 < n
    · rw [osel_pos (decide_eq_true hb)] at hN
      cases hN
      refine ⟨⟨[], by simp⟩, fun κ hκ => news_ok (args := [.v (.int .i64 n), m]) (long_bad n ms hb) (by rintro _ _ ⟨rfl, rfl⟩; exact ⟨rfl, rfl⟩) (fun g => rfl) ⟨Frz.same _, u8sOf_frz hm, trivial⟩ ?_ hκ⟩
      rintro _ _ ⟨rfl, rfl⟩
      exact ⟨rfl, by simp⟩
    · rw [osel_neg (decide_eq_false hb)] at hN
      obtain ⟨h2, hN⟩ := oguard_some hN
      cases hN
      obtain ⟨n, rfl⟩ := Int.eq_ofNat_of_zero_le (show 0 ≤ n by omega)
      refine ⟨fun c _ => ⟨_, rfl⟩, fun κ hκ => news_ok (args := [.v (.int .i64 n), m]) (args0 := [.v (.int .i64 n), .roL 1 (ms.map (AV.roI .u8))]) (R := fun v h' => ∃ c, n ≤ c ∧ v = .tup [.sl 0 0 1 0 n c, .v (.int .i64 0)] ∧ h' = [some [.arr n .u8 (longL n (le4 n ++ ms.flatten))]]) ?_ (by rintro _ _ ⟨c, _, rfl, rfl⟩; exact ⟨rfl, rfl⟩) (fun g => rfl) ⟨Frz.same _, u8sOf_frz hm, trivial⟩ ?_ hκ⟩
      · by_cases h0 : n ≤ 64
        · refine (long_small n ms (by omega) h2).mono ?_
          rintro _ _ ⟨rfl, rfl⟩
          exact ⟨_, Nat.le_refl _, rfl, rfl⟩
        · exact long_big n ms (by omega) h2
      · rintro _ _ ⟨c, hc, rfl, rfl⟩
        exact ⟨c, by simpa using hc, rfl⟩
  · cases hN
end Go.Proofs.Ytfnfmbikooeiaaa

namespace Go.Proofs.Ytfnfmbikooeiaaa
open Go.Ax
theorem four4_spec (n : Int) : ACall Try.prog 58 [.v (.int .i64 n)] [] fun v h' => v = .sl 0 0 1 0 4 4 ∧ h' = [some [.arr 4 .u8 (le4 n)]] := by
  refine bd (good13 0) Try.func58 ?_
  refine go13 nf ?_
  rfl
def N58 (h : List Blk) : List AV → Option Out
  | [.v (.int .i64 n)] => some (.one (.sl h.length 0 1 0 4 4) (h ++ [some [.arr 4 .u8 (le4 n)]]))
  | _ => none
theorem N58_eq (h : List Blk) (n : Int) : N58 h [.v (.int .i64 n)] = some (.one (.sl h.length 0 1 0 4 4) (h ++ [some [.arr 4 .u8 (le4 n)]])) := rfl
noncomputable def n9 : FuncId → Option (List Blk → List AV → Option Out) := addNews (addNews n8 31 N31) 58 N58
noncomputable def c14 (k : Nat) : Cfg := ⟨Try.prog, k, p9, [], n9, none, []⟩
theorem c14_odd (k : Nat) : (c14 k).odd = [] := rfl
theorem c14_ro (k : Nat) : (c14 k).ro = [] := rfl
theorem c14_P (k : Nat) : (c14 k).P = Try.prog := rfl
theorem c14_pure (k : Nat) : (c14 k).pure = p9 := rfl
theorem c14_news (k : Nat) : (c14 k).news = n9 := rfl
theorem xc14 :
  (type_of% @Go.Proofs.Ytfnfmbikooeiaaa.c14_pure) ∧
  (type_of% @Go.Proofs.Ytfnfmbikooeiaaa.c14_news) ∧
  (type_of% @n9.eq_1) ∧
  (type_of% @Go.Proofs.Ytfnfmbikooeiaaa.N31_eq) ∧
  (type_of% @Go.Proofs.Ytfnfmbikooeiaaa.N58_eq) :=
  ⟨@Go.Proofs.Ytfnfmbikooeiaaa.c14_pure, @Go.Proofs.Ytfnfmbikooeiaaa.c14_news, @n9.eq_1, @Go.Proofs.Ytfnfmbikooeiaaa.N31_eq, @Go.Proofs.Ytfnfmbikooeiaaa.N58_eq⟩
theorem go14 {F A B : Prop} (f : F) (b : B) (h : F → A = B := by intro f; (repeat (first | simp only [c14_P, c14_odd, c14_ro, Nat.reduceBEq, reduceIte, Nat.reduceEqDiff, reduceCtorEq, ne_eq, if_true, if_false, exA, exA, tabs, exB, exD, buildA, rowOr, rowSetAt, rowAgg, mkAgg, AV.isAggV, AV.parts, AV.one, AV.solid, headSize, indexAddrA, indexA, fieldAddrA, fieldA, sliceA, boundsA, bndA, lenA, arrayAtA, rowOf, makeSliceA, intsOf, copyA, Nat.reduceAdd, Nat.reduceSub, Nat.reduceMul, Nat.reduceLeDiff, Nat.reduceLT, Nat.reduceGT, Int.reduceToNat, Int.reduceLE, Int.reduceLT, Int.reduceEq, Int.reduceNe, Int.reduceAdd, Int.reduceSub, Int.reduceMul, Int.reduceNeg, ite_true, ite_false, dite_true, xc10, xc11, xc12, xc13, xc14, exR, f] | simp (maxSteps := 1000000) (disch := omega) only [exE, Int.toNat_natCast, Int.reduceToNat])); all_goals rfl) : A := Eq.mpr (h f) b
theorem good14 (k : Nat) : (c14 k).Good := by
  refine Cfg.Good.addN (Cfg.Good.addN (good13 k) ?_ k) ?_ k
  · intro h args out hN
    exact good31 rfl h args out hN
  · intro h args out hN
    unfold N58 at hN
    split at hN
    · rename_i n
      cases hN
      refine ⟨⟨_, rfl⟩, fun κ hκ => news_ok (args := [.v (.int .i64 n)]) (four4_spec n) (by rintro _ _ ⟨rfl, rfl⟩; exact ⟨rfl, rfl⟩) (fun g => rfl) ⟨Frz.same _, trivial⟩ ?_ hκ⟩
      rintro _ _ ⟨rfl, rfl⟩
      exact ⟨rfl, rfl⟩
    · cases hN
theorem rlong_bad (n : Int) (b : List Int) (hb : n < 1 ∨ 65536 < n) :
    ACall Try.prog 32 [.v (.int .i64 n), .roI .u8 b] [] fun v h' => v = .tup [.v (.slice none 0 0), .v (.int .i64 1)] ∧ h' = [] := by
  refine bd (good14 0) Try.func32 ?_
  rcases hb with hb | hb
  · exact go14 hb trivial
  · have h1 : ¬ n < 1 := by omega
    exact go14 (an hb h1) trivial
theorem rlong_small (n : Nat) (b : List Int) (hn : 1 ≤ n ∧ n ≤ 64) (hb : b.length ≤ 274877906944) :
    ACall Try.prog 32 [.v (.int .i64 n), .roI .u8 b] [] fun v h' => ∃ c, v = .tup [.sl 0 0 1 0 n c, .v (.int .i64 0)] ∧ h' = [some [.arr n .u8 (longL n (le4 n ++ b))]] := by
  refine ACall.weak (C := c14 0) rfl (κ := fun v h' => ∃ c x y, v = .tup [.sl 2 0 1 0 n c, .v (.int .i64 0)] ∧ h' = [x, y, some [.arr n .u8 (longL n (le4 n ++ b))]]) ?_ ?_
  · have hL : longL n (le4 n ++ b) = blakeL n [] (le4 n ++ b) := by unfold longL; rw [if_pos hn.2]
    have h4 : (le4 n).length = 4 := rfl
    have ht4 : (le4 n).take 4 = le4 n := rfl
    have htb : List.take (4 + b.length) (le4 n ++ b) = le4 n ++ b := List.take_of_length_le (by simp [h4])
    rw [hL]
    refine bd (good14 0) Try.func32 ?_
    refine go14 (an h4 (an ht4 htb)) ?_
    repeat with_reducible refine gd ?_
    intro c0 _
    refine go14 (an h4 (an ht4 htb)) ?_
    repeat with_reducible refine gd ?_
    intro c1 _
    exact ⟨_, _, _, rfl, rfl⟩
  · rintro v h' ⟨c, x, y, rfl, rfl⟩
    exact ⟨_, _, weak_gc' [2] (by decide) (by simp) (by rfl) rfl ⟨rfl, trivial⟩, _, rfl, rfl⟩
end Go.Proofs.Ytfnfmbikooeiaaa

namespace Go.Proofs.Ytfnfmbikooeiaaa
open Go.Ax
theorem rlong_big (n : Nat) (b : List Int) (hn : 64 < n ∧ n ≤ 65536) (hb : b.length ≤ 274877906944) :
    ACall Try.prog 32 [.v (.int .i64 n), .roI .u8 b] [] fun v h' => ∃ c, v = .tup [.sl 0 0 1 0 n c, .v (.int .i64 0)] ∧ h' = [some [.arr n .u8 (longL n (le4 n ++ b))]] := by
  refine ACall.weak (C := c14 0) rfl (κ := fun v h' => ∃ c x y z, v = .tup [.sl 3 0 1 0 n c, .v (.int .i64 0)] ∧ h' = [x, y, z, some [.arr n .u8 (longL n (le4 n ++ b))]]) ?_ ?_
  · have h64 : ¬ n ≤ 64 := by omega
    have h4 : (le4 n).length = 4 := rfl
    have ht4 : (le4 n).take 4 = le4 n := rfl
    have hR : (n + 31) / 32 - 2 = (n - 33) / 32 := by omega
    refine bd (good14 0) Try.func32 ?_
    refine go14 (an h4 (an ht4 hR)) ?_
    repeat with_reducible refine gd ?_
    intro c0 _
    refine go14 (an h4 (an ht4 hR)) ?_
    repeat with_reducible refine gd ?_
    refine loop_countE (good14 0) (α := Nat × Nat) (fun i c => ⟨envL [(0, .v (.int .i64 n)), (7, .v (.int .i64 ((n - 33) / 32 : Nat))), (8, .sl 0 0 1 0 (32 * i) c.1), (9, .sl 1 0 1 0 (b64 (le4 n ++ b) i).length c.2), (10, .v (.int .i64 i))],
      [some [.arr (32 * i) .u8 (out64 (le4 n ++ b) i)], some [.arr (b64 (le4 n ++ b) i).length .u8 (b64 (le4 n ++ b) i)]]⟩) ((n - 33) / 32) (by kernel_rfl) ⟨(0, c0), ?_⟩ ?_ ?_
    · refine Weak.trans (weak_nil_slot 8 .u8 rfl (fun j => get_put _ _ _ _)) ?_
      have e0 : (b64 (le4 n ++ b) 0).length = 4 + b.length := by simp [b64, h4]
      rw [e0]
      (refine weak_gc' [2, 1] (by decide) (by simp) (by rfl) ?_ ?_; (focus (first | with_reducible rfl | (simp only [List.map_cons, List.map_nil, List.cons_append, List.nil_append, List.getElem?_cons_zero, List.getElem?_cons_succ, renB, renL, Option.map_some, Option.map_none, AV.ren, gcMap, List.getD_cons_zero, List.getD_cons_succ, b64, out64, Nat.mul_zero] <;> with_reducible rfl))); simp only [exF, List.map_cons, List.map_nil, List.length_cons, List.length_nil, Nat.reduceAdd, AV.ren, renL, gcMap, Nat.reduceEqDiff, if_true, if_false, reduceIte, Option.some.injEq, reduceCtorEq, Int.cast_ofNat_Int, b64, out64, Nat.mul_zero])
    · rintro i ⟨c1, c2⟩ hi
      have hbl : (b64 (le4 n ++ b) i).length ≤ 549755813888 := by cases i <;> simp [b64, blakeL_len, h4] <;> omega
      have hol := out64_len (le4 n ++ b) i
      have hot : (out64 (le4 n ++ b) i).take (32 * i) = out64 (le4 n ++ b) i := List.take_of_length_le (by omega)
      have hmin : min 32 64 = 32 := rfl
      refine go14 (an hol (an hot hmin)) ?_
      repeat with_reducible refine gd ?_
      intro c3 hc3
      refine ⟨by omega, ?_⟩
      intro c4 _
      refine ⟨(c4, c3), ?_⟩
      have e1 : (b64 (le4 n ++ b) (i + 1)).length = 64 := by simp [b64, blakeL_len]
      rw [e1, show 32 * (i + 1) = 32 * i + 32 by omega]
      (refine weak_gc' [3, 2] (by decide) (by simp) (by rfl) ?_ ?_; (focus (first | with_reducible rfl | (simp only [List.map_cons, List.map_nil, List.cons_append, List.nil_append, List.getElem?_cons_zero, List.getElem?_cons_succ, renB, renL, Option.map_some, Option.map_none, AV.ren, gcMap, List.getD_cons_zero, List.getD_cons_succ, b64, out64] <;> with_reducible rfl))); simp only [exF, List.map_cons, List.map_nil, List.length_cons, List.length_nil, Nat.reduceAdd, AV.ren, renL, gcMap, Nat.reduceEqDiff, if_true, if_false, reduceIte, Option.some.injEq, reduceCtorEq, Int.cast_ofNat_Int, b64, out64])
    · rintro ⟨c1, c2⟩
      have hbl : (b64 (le4 n ++ b) ((n - 33) / 32)).length ≤ 549755813888 := by
        generalize (n - 33) / 32 = i
        cases i <;> simp [b64, blakeL_len, h4] <;> omega
      have hol := out64_len (le4 n ++ b) ((n - 33) / 32)
      have hot : (out64 (le4 n ++ b) ((n - 33) / 32)).take (32 * ((n - 33) / 32)) = out64 (le4 n ++ b) ((n - 33) / 32) := List.take_of_length_le (by omega)
      have eN : 32 * ((n - 33) / 32) + (n - 32 * ((n - 33) / 32)) = n := by omega
      have eL : longL n (le4 n ++ b) = out64 (le4 n ++ b) ((n - 33) / 32) ++ blakeL (n - 32 * ((n - 33) / 32)) [] (b64 (le4 n ++ b) ((n - 33) / 32)) := by
        unfold longL
        rw [if_neg h64]
      refine go14 (an hol hot) ?_
      repeat with_reducible refine gd ?_
      intro c3 hc3
      refine go14 (an hol hot) ?_
      repeat with_reducible refine gd ?_
      intro c4 _
      rw [eN, eL]
      exact ⟨_, _, _, _, rfl, rfl⟩
  · rintro v h' ⟨c, x, y, z, rfl, rfl⟩
    exact ⟨_, _, weak_gc' [3] (by decide) (by simp) (by rfl) rfl ⟨rfl, trivial⟩, _, rfl, rfl⟩
end Go.Proofs.Ytfnfmbikooeiaaa

namespace Go.Proofs.Ytfnfmbikooeiaaa
open Go.Ax
def N32 (h : List Blk) : List AV → Option Out
  | [.v (.int .i64 n), m] => (u8Of h m).bind fun b => osel (decide (n < 1 ∨ 65536 < n)) (some (.one (.tup [.v (.slice none 0 0), .v (.int .i64 1)]) h))
      (oguard (b.length ≤ 274877906944) (some (.cap 0 fun c => (.tup [.sl h.length 0 1 0 n.toNat c, .v (.int .i64 0)], h ++ [some [.arr n.toNat .u8 (longL n.toNat (le4 n ++ b))]]))))
  | _ => none
theorem N32_eq (h : List Blk) (n : Int) (m : AV) : N32 h [.v (.int .i64 n), m] = (u8Of h m).bind fun b => osel (decide (n < 1 ∨ 65536 < n)) (some (.one (.tup [.v (.slice none 0 0), .v (.int .i64 1)]) h))
      (oguard (b.length ≤ 274877906944) (some (.cap 0 fun c => (.tup [.sl h.length 0 1 0 n.toNat c, .v (.int .i64 0)], h ++ [some [.arr n.toNat .u8 (longL n.toNat (le4 n ++ b))]])))) := rfl
noncomputable def n10 : FuncId → Option (List Blk → List AV → Option Out) := addNews n9 32 N32
noncomputable def c15 (k : Nat) : Cfg := ⟨Try.prog, k, p9, [], n10, none, []⟩
theorem c15_odd (k : Nat) : (c15 k).odd = [] := rfl
theorem c15_ro (k : Nat) : (c15 k).ro = [] := rfl
theorem c15_P (k : Nat) : (c15 k).P = Try.prog := rfl
theorem c15_pure (k : Nat) : (c15 k).pure = p9 := rfl
theorem c15_news (k : Nat) : (c15 k).news = n10 := rfl
theorem xc15 :
  (type_of% @Go.Proofs.Ytfnfmbikooeiaaa.c15_pure) ∧
  (type_of% @Go.Proofs.Ytfnfmbikooeiaaa.c15_news) ∧
  (type_of% @n10.eq_1) ∧
  (type_of% @Go.Proofs.Ytfnfmbikooeiaaa.N32_eq) :=
  ⟨@Go.Proofs.Ytfnfmbikooeiaaa.c15_pure, @Go.Proofs.Ytfnfmbikooeiaaa.c15_news, @n10.eq_1, @Go.Proofs.Ytfnfmbikooeiaaa.N32_eq⟩
theorem go15 {F A B : Prop} (f : F) (b : B) (h : F → A = B := by intro f; (repeat (first | simp only [c15_P, c15_odd, c15_ro, Nat.reduceBEq, reduceIte, Nat.reduceEqDiff, reduceCtorEq, ne_eq, if_true, if_false, exA, exA, tabs, exB, exD, buildA, rowOr, rowSetAt, rowAgg, mkAgg, AV.isAggV, AV.parts, AV.one, AV.solid, headSize, indexAddrA, indexA, fieldAddrA, fieldA, sliceA, boundsA, bndA, lenA, arrayAtA, rowOf, makeSliceA, intsOf, copyA, Nat.reduceAdd, Nat.reduceSub, Nat.reduceMul, Nat.reduceLeDiff, Nat.reduceLT, Nat.reduceGT, Int.reduceToNat, Int.reduceLE, Int.reduceLT, Int.reduceEq, Int.reduceNe, Int.reduceAdd, Int.reduceSub, Int.reduceMul, Int.reduceNeg, ite_true, ite_false, dite_true, xc10, xc11, xc12, xc13, xc14, xc15, run_range, exR, f] | simp (maxSteps := 1000000) (disch := omega) only [exE, Int.toNat_natCast, Int.reduceToNat])); all_goals rfl) : A := Eq.mpr (h f) b
theorem good15 (k : Nat) : (c15 k).Good := by
  refine Cfg.Good.addN (good14 k) ?_ k
  intro h args out hN
  unfold N32 at hN
  split at hN
  · rename_i n m
    obtain ⟨b, hm, hN⟩ := Option.bind_eq_some_iff.1 hN
    by_cases hb : n < 1 ∨ 65536 < n
    · rw [osel_pos (decide_eq_true hb)] at hN
      cases hN
      refine ⟨⟨[], by simp⟩, fun κ hκ => news_ok (args := [.v (.int .i64 n), m]) (rlong_bad n b hb) (by rintro _ _ ⟨rfl, rfl⟩; exact ⟨rfl, rfl⟩) (fun g => rfl) ⟨Frz.same _, u8Of_frz hm, trivial⟩ ?_ hκ⟩
      rintro _ _ ⟨rfl, rfl⟩
      exact ⟨rfl, by simp⟩
    · rw [osel_neg (decide_eq_false hb)] at hN
      obtain ⟨h2, hN⟩ := oguard_some hN
      cases hN
      obtain ⟨n, rfl⟩ := Int.eq_ofNat_of_zero_le (show 0 ≤ n by omega)
      refine ⟨fun c _ => ⟨_, rfl⟩, fun κ hκ => news_ok (args := [.v (.int .i64 n), m]) (args0 := [.v (.int .i64 n), .roI .u8 b]) (R := fun v h' => ∃ c, v = .tup [.sl 0 0 1 0 n c, .v (.int .i64 0)] ∧ h' = [some [.arr n .u8 (longL n (le4 n ++ b))]]) ?_ (by rintro _ _ ⟨c, rfl, rfl⟩; exact ⟨rfl, rfl⟩) (fun g => rfl) ⟨Frz.same _, u8Of_frz hm, trivial⟩ ?_ hκ⟩
      · by_cases h0 : n ≤ 64
        · exact rlong_small n b (by omega) h2
        · exact rlong_big n b (by omega) h2
      · rintro _ _ ⟨c, rfl, rfl⟩
        exact ⟨c, Nat.zero_le _, rfl⟩
  · cases hN
end Go.Proofs.Ytfnfmbikooeiaaa

namespace Go.Proofs.Ytfnfmbikooeiaaa
open Go.Ax
theorem rstirL_len (v : List Int) : (rstirL v).length = v.length := by simp only [rstirL, fourL_len]
def F42 : List AV → Option AV
  | [.arr 16 .u64 v] => oguard (v.length = 16) (some (.arr 16 .u64 (allK v (fun j => j) 8)))
  | _ => none
theorem F42_eq (v : List Int) : F42 [.arr 16 .u64 v] = oguard (v.length = 16) (some (.arr 16 .u64 (allK v (fun j => j) 8))) := rfl
def F43 : List AV → Option AV
  | [.arr 16 .u64 v] => oguard (v.length = 16) (some (.arr 16 .u64 (rstirL v)))
  | _ => none
theorem F43_eq (v : List Int) : F43 [.arr 16 .u64 v] = oguard (v.length = 16) (some (.arr 16 .u64 (rstirL v))) := rfl
noncomputable def p10 : FuncId → Option (List AV → Option AV) := addPure (addPure p9 42 F42) 43 F43
noncomputable def c16 (k : Nat) : Cfg := ⟨Try.prog, k, p10, [], n10, none, []⟩
theorem c16_odd (k : Nat) : (c16 k).odd = [] := rfl
theorem c16_ro (k : Nat) : (c16 k).ro = [] := rfl
theorem c16_P (k : Nat) : (c16 k).P = Try.prog := rfl
theorem c16_pure (k : Nat) : (c16 k).pure = p10 := rfl
theorem c16_news (k : Nat) : (c16 k).news = n10 := rfl
theorem xc16 :
  (type_of% @Go.Proofs.Ytfnfmbikooeiaaa.c16_pure) ∧
  (type_of% @Go.Proofs.Ytfnfmbikooeiaaa.c16_news) ∧
  (type_of% @p10.eq_1) ∧
  (type_of% @Go.Proofs.Ytfnfmbikooeiaaa.F42_eq) ∧
  (type_of% @Go.Proofs.Ytfnfmbikooeiaaa.F43_eq) :=
  ⟨@Go.Proofs.Ytfnfmbikooeiaaa.c16_pure, @Go.Proofs.Ytfnfmbikooeiaaa.c16_news, @p10.eq_1, @Go.Proofs.Ytfnfmbikooeiaaa.F42_eq, @Go.Proofs.Ytfnfmbikooeiaaa.F43_eq⟩
theorem go16 {F A B : Prop} (f : F) (b : B) (h : F → A = B := by intro f; (repeat (first | simp only [c16_P, c16_odd, c16_ro, Nat.reduceBEq, reduceIte, Nat.reduceEqDiff, reduceCtorEq, ne_eq, if_true, if_false, exA, exA, tabs, exB, exD, buildA, rowOr, rowSetAt, rowAgg, mkAgg, AV.isAggV, AV.parts, AV.one, AV.solid, headSize, indexAddrA, indexA, fieldAddrA, fieldA, sliceA, boundsA, bndA, lenA, arrayAtA, rowOf, makeSliceA, intsOf, copyA, Nat.reduceAdd, Nat.reduceSub, Nat.reduceMul, Nat.reduceLeDiff, Nat.reduceLT, Nat.reduceGT, Int.reduceToNat, Int.reduceLE, Int.reduceLT, Int.reduceEq, Int.reduceNe, Int.reduceAdd, Int.reduceSub, Int.reduceMul, Int.reduceNeg, ite_true, ite_false, dite_true, xc10, xc11, xc12, xc13, xc14, xc15, xc16, run_range, exR, f] | simp (maxSteps := 1000000) (disch := omega) only [exE, Int.toNat_natCast, Int.reduceToNat])); all_goals rfl) : A := Eq.mpr (h f) b
theorem good16 (k : Nat) : (c16 k).Good := by
  refine Cfg.Good.add (Cfg.Good.add (good15 k) ?_ k) ?_ k
  · intro args v hF h κ hκ
    unfold F42 at hF
    split at hF
    · obtain ⟨h1, hF⟩ := oguard_some hF
      cases hF
      exact pure_call (Stir_spec _ h1) (fun g => rfl) (fun g => rfl) h κ hκ
    · cases hF
  · intro args v hF h κ hκ
    unfold F43 at hF
    split at hF
    · obtain ⟨h1, hF⟩ := oguard_some hF
      cases hF
      exact pure_call (rStir_spec _ h1) (fun g => rfl) (fun g => rfl) h κ hκ
    · cases hF
end Go.Proofs.Ytfnfmbikooeiaaa

namespace Go.Proofs.Ytfnfmbikooeiaaa
open Go.Ax
def wordB (p : List Int) (j : Nat) (c : Int) (k : Nat) : List Int := p.set j (orU (p.getD j 0) (shl .u64 (IntKind.u64.wrap c) ((8 * k : Nat) : Int)))
theorem wordB_len (p : List Int) (j : Nat) (c : Int) (k : Nat) : (wordB p j c k).length = p.length := by simp [wordB]
def rpageK (b : List Int) : Nat → List Int
  | 0 => List.replicate 128 0
  | i + 1 => wordB (rpageK b i) (i / 8) (b.getD i 0) (i % 8)
theorem rpageK_len (b : List Int) : ∀ i, (rpageK b i).length = 128
  | 0 => by simp [rpageK]
  | i + 1 => by simp only [rpageK, wordB_len]; exact rpageK_len b i
theorem take128 {l : List Int} (h : l.length = 128) : l.take 128 = l := List.take_of_length_le (by omega)
theorem rpage_bad (b : List Int) (hb : b.length ≠ 1024) :
    ACall Try.prog 38 [.roI .u8 b] [] fun v _ => v = .tup [.arr 128 .u64 (List.replicate 128 0), .v (.int .i64 1)] := by
  have h1 : ((b.length : Int) != 1024) = true := by simp; omega
  refine bd (good15 0) Try.func38 ?_
  refine go15 h1 ?_
  rfl
theorem rpage_spec (b : List Int) (hb : b.length = 1024) :
    ACall Try.prog 38 [.roI .u8 b] [] fun v _ => v = .tup [.arr 128 .u64 (rpageK b 1024), .v (.int .i64 0)] := by
  have na : ∀ n : Nat, (0 : Int) ≤ n := fun n => Int.natCast_nonneg n
  refine bd (good15 0) Try.func38 ?_
  refine go15 hb ?_
  refine loop_count (good15 0) (fun i => ⟨envL [(0, .roI .u8 b), (2, .ptr 0 0 0), (4, .ptr 1 0 0), (5, .v (.int .i64 i))], [some [.arr 128 .u64 (List.replicate 128 0)], some [.arr 128 .u64 (rpageK b i)]]⟩) 1024 (by kernel_rfl) ?_ ?_ ?_
  · (refine weak_of ?_ ?_; (focus (first | with_reducible rfl | (simp only [rpageK] <;> with_reducible rfl))); simp only [exF, Nat.reduceEqDiff, if_true, if_false, reduceIte, Option.some.injEq, reduceCtorEq, Int.cast_ofNat_Int, rpageK])
  · intro i hi
    refine go15 (an hb na) ?_
    repeat with_reducible refine gd ?_
    (refine weak_of ?_ ?_; (focus (first | with_reducible rfl | (simp only [rpageK, wordB] <;> with_reducible rfl))); simp only [exF, Nat.reduceEqDiff, if_true, if_false, reduceIte, Option.some.injEq, reduceCtorEq, Int.cast_ofNat_Int, rpageK, wordB])
  · refine go15 (an hb na) ?_
    rw [take128 (rpageK_len b 1024), take128 (rpageK_len b 1024)]
def byteAt (p : List Int) (i : Nat) : Int := IntKind.u8.wrap (shr .u64 (p.getD (i / 8) 0) ((8 * (i % 8) : Nat) : Int))
def bytesP (p : List Int) (n : Nat) : List Int := (List.range n).map (byteAt p)
theorem bytesP_len (p : List Int) (n : Nat) : (bytesP p n).length = n := by simp [bytesP]
theorem bytesP_0 (p : List Int) : bytesP p 0 = [] := rfl
theorem bytesP_succ (p : List Int) (n : Nat) : bytesP p (n + 1) = bytesP p n ++ [byteAt p n] := by unfold bytesP; rw [range_snoc]
theorem bytesP_take (p : List Int) (n : Nat) : (bytesP p n).take n = bytesP p n := List.take_of_length_le (by rw [bytesP_len]; omega)
theorem rbytes_spec (p : List Int) (hp : p.length = 128) :
    ACall Try.prog 39 [.arr 128 .u64 p] [] fun v h' => ∃ c, v = .sl 0 0 1 0 1024 c ∧ h' = [some [.arr 1024 .u8 (bytesP p 1024)]] := by
  refine ACall.weak (C := c15 0) rfl (κ := fun v h' => ∃ c x, v = .sl 1 0 1 0 1024 c ∧ h' = [x, some [.arr 1024 .u8 (bytesP p 1024)]]) ?_ ?_
  · have na : ∀ n : Nat, (0 : Int) ≤ n := fun n => Int.natCast_nonneg n
    refine bd (good15 0) Try.func39 ?_
    refine go15 nf ?_
    refine loop_countE (good15 0) (fun i c => ⟨envL [(1, .ptr 0 0 0), (3, .sl 1 0 1 0 i c), (4, .v (.int .i64 i))], [some [.arr 128 .u64 p], some [.arr i .u8 (bytesP p i)]]⟩) 1024 (by kernel_rfl) ⟨0, ?_⟩ ?_ ?_
    · refine Weak.trans (weak_nil_slot 3 .u8 rfl (fun j => get_put _ _ _ _)) ?_
      exact wgc [0, 1] @bytesP_0
    · intro i c hi
      have h1 := bytesP_take p i
      refine go15 (an na h1) ?_
      repeat with_reducible refine gd ?_
      intro c1 _
      refine ⟨c1, ?_⟩
      rw [bytesP_succ]
      (refine weak_gc' [0, 3] (by decide) (by simp) (by rfl) ?_ ?_; (focus (first | with_reducible rfl | (simp only [List.map_cons, List.map_nil, List.cons_append, List.nil_append, List.getElem?_cons_zero, List.getElem?_cons_succ, renB, renL, Option.map_some, Option.map_none, AV.ren, gcMap, List.getD_cons_zero, List.getD_cons_succ, byteAt] <;> with_reducible rfl))); simp only [exF, List.map_cons, List.map_nil, List.length_cons, List.length_nil, Nat.reduceAdd, AV.ren, renL, gcMap, Nat.reduceEqDiff, if_true, if_false, reduceIte, Option.some.injEq, reduceCtorEq, Int.cast_ofNat_Int, byteAt])
    · intro c
      refine go15 na ?_
      exact ⟨_, _, rfl, rfl⟩
  · rintro v h' ⟨c, x, rfl, rfl⟩
    exact ⟨_, _, weak_gc' [1] (by decide) (by simp) (by rfl) rfl ⟨rfl, trivial⟩, _, rfl, rfl⟩
end Go.Proofs.Ytfnfmbikooeiaaa

namespace Go.Proofs.Ytfnfmbikooeiaaa
open Go.Ax
def outP (p : List Int) (i : Nat) : List Int := if i = 0 then List.replicate 1024 0 else bytesP p i
theorem outP_take (p : List Int) (i : Nat) : (outP p i).take i = bytesP p i := by
  unfold outP
  split
  · subst i; rfl
  · exact bytesP_take p i
theorem outP_len (p : List Int) (i : Nat) : i ≤ (outP p i).length := by
  unfold outP
  split
  · subst i; simp
  · rw [bytesP_len]; omega
theorem outP_succ (p : List Int) (i : Nat) : outP p (i + 1) = bytesP p i ++ [byteAt p i] := by unfold outP; rw [if_neg (by omega), bytesP_succ]
theorem mbytes_spec (p : List Int) (hp : p.length = 128) :
    ACall Try.prog 36 [.arr 128 .u64 p] [] fun v h' => ∃ c, v = .sl 0 0 1 0 1024 c ∧ h' = [some [.arr 1024 .u8 (bytesP p 1024)]] := by
  refine ACall.weak (C := c15 0) rfl (κ := fun v h' => ∃ c, v = .sl 0 0 1 0 1024 c ∧ h' = [some [.arr (outP p 1024).length .u8 (outP p 1024)]]) ?_ ?_
  · have na : ∀ n : Nat, (0 : Int) ≤ n := fun n => Int.natCast_nonneg n
    have hpt : p.take 128 = p := List.take_of_length_le (by omega)
    refine bd (good15 0) Try.func36 ?_
    refine go15 hpt ?_
    refine loop_countE (good15 0) (fun j c => ⟨envL [(3, .sl 0 0 1 0 (8 * j) c), (8, .arr 128 .u64 p), (9, .v (.int .i64 j))], [some [.arr (outP p (8 * j)).length .u8 (outP p (8 * j))]]⟩) 128 (by kernel_rfl) ⟨1024, ?_⟩ ?_ ?_
    · have e0 : outP p 0 = List.replicate 1024 0 := rfl
      rw [Nat.mul_zero, e0, List.length_replicate]
      exact wgc [1] e0
    · intro j c hj
      refine go15 na ?_
      repeat with_reducible refine gd ?_
      refine loop_countE (good15 0) (fun k c => ⟨envL [(3, .sl 0 0 1 0 (8 * j + k) c), (5, .v (.int .u64 (p.getD j 0))), (8, .arr 128 .u64 p), (9, .v (.int .i64 j)), (12, .v (.int .i64 k))], [some [.arr (outP p (8 * j + k)).length .u8 (outP p (8 * j + k))]]⟩) 8 (by kernel_rfl) ⟨c, ?_⟩ ?_ ?_
      · rw [Nat.add_zero]
        exact wgc [0] nf
      · intro k c1 hk
        have h1 := outP_take p (8 * j + k)
        have h2 := outP_len p (8 * j + k)
        refine go15 (an na h1) ?_
        repeat with_reducible refine gd ?_
        intro c2 _
        refine ⟨c2, ?_⟩
        have h3 : outP p (8 * j + (k + 1)) = bytesP p (8 * j + k) ++ [byteAt p (8 * j + k)] := outP_succ p (8 * j + k)
        have h4 : byteAt p (8 * j + k) = IntKind.u8.wrap (shr .u64 (p.getD j 0) ((8 * k : Nat) : Int)) := by
          unfold byteAt
          rw [show (8 * j + k) / 8 = j by omega, show (8 * j + k) % 8 = k by omega]
        have h5 : (outP p (8 * j + (k + 1))).length = 8 * j + k + 1 := by rw [h3]; simp [bytesP_len]
        rw [h5, h3, h4, show 8 * j + (k + 1) = 8 * j + k + 1 by omega]
        exact wgc [2] h3
      · intro c1
        refine go15 na ?_
        refine ⟨c1, ?_⟩
        rw [show 8 * (j + 1) = 8 * j + 8 by omega]
        exact wgc [0] nf
    · intro c
      refine go15 na ?_
      exact ⟨_, rfl⟩
  · rintro v h' ⟨c, rfl, rfl⟩
    refine ⟨_, _, Weak.refl _ _, c, rfl, ?_⟩
    have : outP p 1024 = bytesP p 1024 := rfl
    rw [this, bytesP_len]
end Go.Proofs.Ytfnfmbikooeiaaa

namespace Go.Proofs.Ytfnfmbikooeiaaa
open Go.RowKit Go.Shelf
attribute [local go_sem] Oper.semAt_some
set_option maxRecDepth 100000 in
set_option maxHeartbeats 2000000 in
theorem chunk_in (b off cap bs os bn on : Nat) (J : Nat → World → Prop) (l : Nat) (hcap : 1024 ≤ cap)
    (hBs : ∀ i W, J i W → W.cell? ⟨bs, os, none⟩ = some (.slice (some ⟨b, off, none⟩) 1024 cap) ∧ W.cell? ⟨bn, on, none⟩ = some (.int .i64 8))
    (hJd : ∀ i W, J i W → J i W.drew)
    (hY : ∀ i, i < 128 → ∀ W, J i W → YieldAt Fence.wide 0 Try.prog l #[.slice (some ⟨b, off + 8 * i, none⟩) 8 8] W fun e W' => e = .returned (.bool true) ∧ J (i + 1) W')
    (W : World) (h0 : J 0 W) :
    CallsIn Fence.wide 0 Try.prog 72 #[.func (.yield l) #[] #[], .pointer (some ⟨bs, os, none⟩), .pointer (some ⟨bn, on, none⟩)] W fun e W' => (∃ v, e = .returned v) ∧ J 128 W' := by
  refine callsIn_of_wp Try.func72 rfl trivial ?_ rfl
  simp only [Try.ntmps72, List.size_toArray, List.length_cons, List.length_nil, Nat.reduceAdd, Nat.reduceSub, Array.replicate_succ, Array.replicate_zero, List.push_toArray, List.append_toArray, List.nil_append, List.cons_append]
  gi_wp2
  gi_loopw [4] (fun i wr => ∃ k : Nat, k ≤ 128 ∧ i = .int .i64 ((8 * k : Nat) : Int) ∧ J k wr)
    (fun i _ => 1024 - (intOf i).toNat)
  case atStart => exact ⟨0, by omega, rfl, h0⟩
  case round =>
    obtain ⟨k, hk, rfl, hJs⟩ := hrel
    obtain ⟨hc1, hc2⟩ := hBs k wr hJs
    by_cases hlt : k < 128
    · have hJ2 := hJd k wr hJs
      obtain ⟨fn, tmps, assign, body, hy, hR⟩ := hY k hlt wr.drew hJ2
      gi_wp2
      have hmo : Try.prog.follows .mixedOrders = true := by kernel_rfl
      gi_region
      gi_wp2
      refine ⟨rfl, hR.mono ?_⟩
      rintro e W3 ⟨rfl, hJ3⟩
      obtain ⟨hd1, hd2⟩ := hBs (k + 1) W3 hJ3
      gi_wp2
      go_roundw
      case rel => exact ⟨k + 1, by omega, by simp; omega, hJ3⟩
      case measure => simp [intOf]; omega
    · obtain rfl : k = 128 := by omega
      gi_wp2
      go_end0
      exact ⟨⟨_, rfl⟩, hJs⟩
end Go.Proofs.Ytfnfmbikooeiaaa

namespace Go.Proofs.Ytfnfmbikooeiaaa
open Go.Ax
def chunks (l : List Int) : List (List AV) := (List.range 128).map fun i => [.roI .u8 ((l.drop (8 * i)).take 8)]
theorem chunks_len (l : List Int) : (chunks l).length = 128 := by simp [chunks]
theorem chunks_at (l : List Int) (i : Nat) (h : i < 128) : (chunks l).getD i [] = [.roI .u8 ((l.drop (8 * i)).take 8)] := by
  simp [chunks, List.getD_eq_getElem?_getD, h]
theorem chunks_ren (l : List Int) (i : Nat) (f : Nat → Nat) : renL f ((chunks l).getD i []) = (chunks l).getD i [] := by
  rcases Nat.lt_or_ge i 128 with h | h
  · rw [chunks_at l i h]; rfl
  · rw [List.getD_eq_getElem?_getD, List.getElem?_eq_none (by rw [chunks_len]; exact h)]; rfl
theorem chunk_seq (l : List Int) (hl : l.length = 1024) : SeqA Try.prog 72 [.rop (.roI .u8 l), .rop (.v (.int .i64 8))] (chunks l) := by
  refine ⟨by kernel_rfl, ?_⟩
  intro X w lb hv
  simp only [relVs, AV.relV, AV.rel, roAt] at hv
  obtain ⟨v1, _, hlb, ⟨a1, vs1, hv1, hs1, hx1, hr1, hc1⟩, v2, _, rfl, ⟨a2, vs2, hv2, hs2, hx2, hr2, hc2⟩, rfl⟩ := hv
  rcases hr1 with ⟨a, cap, rfl, hs, hx, hc, hcap⟩ | ⟨h0, _⟩
  rotate_left
  · omega
  obtain ⟨rfl, _⟩ := hr2
  have hv1 : v1 = .pointer (some a1) := by simpa using hv1
  have hv2 : v2 = .pointer (some a2) := by simpa using hv2
  subst hv1 hv2
  obtain ⟨b, off, s⟩ := a
  obtain ⟨bs, os, s1⟩ := a1
  obtain ⟨bn, on, s2⟩ := a2
  simp only at hs hs1 hs2
  subst hs hs1 hs2
  obtain rfl : lb = #[.pointer (some ⟨bs, os, none⟩), .pointer (some ⟨bn, on, none⟩)] := Array.toList_inj.1 (by rw [hlb])
  refine ⟨fun i => #[.slice (some ⟨b, off + 8 * i, none⟩) 8 8], ?_, ?_⟩
  · intro i hi
    rw [chunks_len] at hi
    rw [chunks_at l i hi]
    have h1 := roAt_sub (ρ := []) (lo := 8 * i) (hi := 8 * i + 8) (m := 8 * i + 8) rfl hx hc (by omega) (by omega) (by omega)
    rw [if_neg (by omega), Nat.add_sub_cancel_left] at h1
    simp only [relVs]
    refine ⟨_, _, rfl, ?_, rfl⟩
    have he : (⟨b, off, none⟩ : Addr).add (8 * i * 1) = ⟨b, off + 8 * i, none⟩ := by rw [addr_add, Nat.mul_one]
    rw [he] at h1
    exact h1
  · intro lp J W hJ hJd hY h0
    rw [chunks_len] at hY ⊢
    rw [hl] at hc1 hcap
    refine chunk_in b off cap bs os bn on J lp hcap ?_ hJd hY W h0
    intro i W' hj
    have k := hJ i W' hj
    have e1 := (k.cells _ _ hc1 hx1).1.cell rfl 0 _ rfl
    have e2 := (k.cells _ _ hc2 hx2).1.cell rfl 0 _ rfl
    rw [addr_add] at e1 e2
    exact ⟨e1, e2⟩
end Go.Proofs.Ytfnfmbikooeiaaa

namespace Go.Proofs.Ytfnfmbikooeiaaa
open Go.Ax
noncomputable def c15r (k l : Nat) : Cfg := (c15 0).inRd k l
theorem c15r_odd (k l : Nat) : (c15r k l).odd = [] := rfl
theorem c15r_ro (k l : Nat) : (c15r k l).ro = [] := rfl
theorem c15r_P (k l : Nat) : (c15r k l).P = Try.prog := rfl
theorem c15r_pure (k l : Nat) : (c15r k l).pure = p9 := rfl
theorem c15r_news (k l : Nat) : (c15r k l).news = n10 := rfl
theorem xc15r :
  (type_of% @Go.Proofs.Ytfnfmbikooeiaaa.c15r_pure) ∧
  (type_of% @Go.Proofs.Ytfnfmbikooeiaaa.c15r_news) :=
  ⟨@Go.Proofs.Ytfnfmbikooeiaaa.c15r_pure, @Go.Proofs.Ytfnfmbikooeiaaa.c15r_news⟩
theorem go15r {F A B : Prop} (f : F) (b : B) (h : F → A = B := by intro f; (repeat (first | simp only [c15r_P, c15r_odd, c15r_ro, Nat.reduceBEq, reduceIte, Nat.reduceEqDiff, reduceCtorEq, ne_eq, if_true, if_false, exA, exA, tabs, exB, exD, buildA, rowOr, rowSetAt, rowAgg, mkAgg, AV.isAggV, AV.parts, AV.one, AV.solid, headSize, indexAddrA, indexA, fieldAddrA, fieldA, sliceA, boundsA, bndA, lenA, arrayAtA, rowOf, makeSliceA, intsOf, copyA, Nat.reduceAdd, Nat.reduceSub, Nat.reduceMul, Nat.reduceLeDiff, Nat.reduceLT, Nat.reduceGT, Int.reduceToNat, Int.reduceLE, Int.reduceLT, Int.reduceEq, Int.reduceNe, Int.reduceAdd, Int.reduceSub, Int.reduceMul, Int.reduceNeg, ite_true, ite_false, dite_true, xc10, xc11, xc12, xc13, xc14, xc15, xc15r, run_range, exR, f] | simp (maxSteps := 1000000) (disch := omega) only [exE, Int.toNat_natCast, Int.reduceToNat])); all_goals rfl) : A := Eq.mpr (h f) b
theorem good15r (k l : Nat) : (c15r k l).Good := good15 0
theorem chunk59 (b : List Int) : ACall Try.prog 59 [.roI .u8 b, .v (.int .i64 8)] [] fun v h' => v = .fn (.func 72) [] [.ptr 0 0 0, .ptr 1 0 0] ∧ h' = [some [.roI .u8 b], some [.v (.int .i64 8)]] := by
  refine bd (good15 0) Try.func59 ?_
  exact go15 nf trivial
def chunkK (b p : List Int) (j : Nat) : Nat → List Int
  | 0 => p
  | k + 1 => wordB (chunkK b p j k) j (b.getD (8 * j + k) 0) k
theorem chunkK_len (b p : List Int) (j : Nat) : ∀ k, (chunkK b p j k).length = p.length
  | 0 => rfl
  | k + 1 => by simp only [chunkK, wordB_len]; exact chunkK_len b p j k
theorem chunkK_rpage (b : List Int) (j : Nat) : ∀ k, k ≤ 8 → chunkK b (rpageK b (8 * j)) j k = rpageK b (8 * j + k)
  | 0, _ => rfl
  | k + 1, h => by
    have e1 : (8 * j + k) / 8 = j := by omega
    have e2 : (8 * j + k) % 8 = k := by omega
    have e3 : 8 * j + (k + 1) = (8 * j + k) + 1 := by omega
    rw [e3]
    simp only [chunkK, rpageK, e1, e2, chunkK_rpage b j k (by omega)]
theorem mpage_bad (b : List Int) (hb : b.length ≠ 1024) :
    ACall Try.prog 37 [.roI .u8 b] [] fun v _ => v = .tup [.arr 128 .u64 (List.replicate 128 0), .v (.int .i64 1)] := by
  have h1 : ((b.length : Int) != 1024) = true := by simp; omega
  refine bd (good15 0) Try.func37 ?_
  refine go15 h1 ?_
  rfl
theorem mpage_spec (b : List Int) (hb : b.length = 1024) :
    ACall Try.prog 37 [.roI .u8 b] [] fun v _ => v = .tup [.arr 128 .u64 (rpageK b 1024), .v (.int .i64 0)] := by
  have na : ∀ n : Nat, (0 : Int) ≤ n := fun n => Int.natCast_nonneg n
  refine bd (good15 0) Try.func37 ?_
  refine go15 hb ?_
  refine callC_fr [] (chunk59 b) rfl rfl (by decide) ?_
  rintro _ _ ⟨rfl, rfl⟩
  refine go15 (an hb exG) ?_
  refine rangeR_of (good15 0) [3, 4] (fun i => [some [.arr 128 .u64 (List.replicate 128 0)], some [.arr 128 .u64 (rpageK b (8 * i))], some [.v (.int .i64 i)], none, none])
    (chunk_seq b hb) rfl ?_ ?_ ?_ (fun f => rfl) (chunks_ren b) ?_ rfl ⟨by kernel_rfl, by kernel_rfl⟩ ?_ ?_
  · intro x hx
    simp only [List.mem_cons, List.not_mem_nil, or_false] at hx
    rcases hx with rfl | rfl <;> exact ⟨_, rfl⟩
  · exact ⟨Frz.ptr (by simp) rfl (fun f => rfl), Frz.ptr (by simp) rfl (fun f => rfl), trivial⟩
  · rfl
  · intro i hi
    rw [chunks_len] at hi
    rw [chunks_at b i hi]; rfl
  · intro i hi l
    rw [chunks_len] at hi
    rw [chunks_at b i hi]
    simp only [putAll_one]
    show run (c15r 5 l) _ [] _ _
    have hcl : ((b.drop (8 * i)).take 8).length = 8 := by simp; omega
    refine go15r (an hcl @putAll_one) ?_
    have hgc : ∀ k, k < 8 → ((b.drop (8 * i)).take 8).getD k 0 = b.getD (8 * i + k) 0 := by
      intro k hk
      simp only [List.getD_eq_getElem?_getD]
      rw [List.getElem?_take_of_lt hk, List.getElem?_drop]
    have hpl := rpageK_len b (8 * i)
    refine loop_count (good15r 5 l) (fun k => ⟨envL [(4, .ptr 1 0 0), (5, .ptr 2 0 0), (16, .roI .u8 ((b.drop (8 * i)).take 8)), (17, .v (.int .i64 8)), (18, .v (.int .i64 k))],
      [some [.arr 128 .u64 (List.replicate 128 0)], some [.arr 128 .u64 (chunkK b (rpageK b (8 * i)) i k)], some [.v (.int .i64 i)], none, none]⟩) 8 (by kernel_rfl) ?_ ?_ ?_
    · (refine weak_of ?_ ?_; (focus (first | with_reducible rfl | (simp only [chunkK] <;> with_reducible rfl))); simp only [exF, Nat.reduceEqDiff, if_true, if_false, reduceIte, Option.some.injEq, reduceCtorEq, Int.cast_ofNat_Int, chunkK])
    · intro k hk
      refine go15r (an hcl (an na (hgc k hk))) ?_
      repeat with_reducible refine gd ?_
      (refine weak_of ?_ ?_; (focus (first | with_reducible rfl | (simp only [chunkK, wordB, hgc k hk] <;> with_reducible rfl))); simp only [exF, Nat.reduceEqDiff, if_true, if_false, reduceIte, Option.some.injEq, reduceCtorEq, Int.cast_ofNat_Int, chunkK, wordB, hgc k hk])
    · have he : chunkK b (rpageK b (8 * i)) i 8 = rpageK b (8 * (i + 1)) := chunkK_rpage b i 8 (by omega)
      refine go15r (an hcl (an na he)) ?_
      exact weak_of rfl trivial
  · rw [chunks_len]
    refine go15 hb ?_
    rw [take128 (rpageK_len b _), take128 (rpageK_len b _)]
end Go.Proofs.Ytfnfmbikooeiaaa

namespace Go.Proofs.Ytfnfmbikooeiaaa
open Go.Ax
def xorK (x y : List Int) : Nat → List Int
  | 0 => x
  | i + 1 => (xorK x y i).set i (xorU ((xorK x y i).getD i 0) (y.getD i 0))
theorem xorK_len (x y : List Int) : ∀ i, (xorK x y i).length = x.length
  | 0 => rfl
  | i + 1 => by simp only [xorK, List.length_set]; exact xorK_len x y i
def rowQ (i j : Nat) : Nat := 16 * i + j
def colQ (i j : Nat) : Nat := 16 * (j / 2) + 2 * i + j % 2
def stirK (Q : Nat → Nat → Nat) (z : List Int) : Nat → List Int
  | 0 => z
  | i + 1 => allK (stirK Q z i) (Q i) 8
theorem stirK_len (Q : Nat → Nat → Nat) (z : List Int) : ∀ i, (stirK Q z i).length = z.length
  | 0 => rfl
  | i + 1 => by simp only [stirK, allK_len]; exact stirK_len Q z i
def pagesR (r : List Int) : List Int := xorK (stirK colQ (stirK rowQ r 8) 8) r 128
def pagesL (x y : List Int) : List Int := pagesR (xorK x y 128)
theorem pagesL_len (x y : List Int) : (pagesL x y).length = x.length := by simp only [pagesL, pagesR, xorK_len, stirK_len]
def oldR : Nat → Nat → AV
  | 0, _ => .v (.pointer none)
  | i + 1, j => .ptr 3 0 (rowQ i j)
def oldC : Nat → Nat → AV
  | 0, j => .ptr 3 0 (rowQ 7 j)
  | i + 1, j => .ptr 3 0 (colQ i j)
theorem oldR_one : ∀ i j, (oldR i j).one = true
  | 0, _ => rfl
  | i + 1, j => rfl
theorem oldC_one : ∀ i j, (oldC i j).one = true
  | 0, _ => rfl
  | i + 1, j => rfl
theorem mpages_spec (x y : List Int) (hx : x.length = 128) (hy : y.length = 128) :
    ACall Try.prog 40 [.arr 128 .u64 x, .arr 128 .u64 y] [] fun v _ => v = .arr 128 .u64 (pagesL x y) := by
  have na : ∀ n : Nat, (0 : Int) ≤ n := fun n => Int.natCast_nonneg n
  have n0 : ((0 : Nat) : Int) = 0 := rfl
  have n1 : ((1 : Nat) : Int) = 1 := rfl
  refine bd (good15 0) Try.func40 ?_
  refine go15 nf ?_
  refine loop_count (good15 0) (fun i => ⟨envL [(2, .ptr 0 0 0), (3, .ptr 1 0 0), (4, .ptr 2 0 0), (13, .v (.int .i64 i))], [some [.arr 128 .u64 (xorK x y i)], some [.arr 128 .u64 y], some [.arr 128 .u64 (List.replicate 128 0)]]⟩) 128 (by kernel_rfl) ?_ ?_ ?_
  · (refine weak_of ?_ ?_; (focus (first | with_reducible rfl | (simp only [xorK] <;> with_reducible rfl))); simp only [exF, Nat.reduceEqDiff, if_true, if_false, reduceIte, Option.some.injEq, reduceCtorEq, Int.cast_ofNat_Int, xorK])
  · intro i hi
    refine go15 na ?_
    repeat with_reducible refine gd ?_
    (refine weak_of ?_ ?_; (focus (first | with_reducible rfl | (simp only [xorK] <;> with_reducible rfl))); simp only [exF, Nat.reduceEqDiff, if_true, if_false, reduceIte, Option.some.injEq, reduceCtorEq, Int.cast_ofNat_Int, xorK])
  have h1l : (xorK x y 128).length = 128 := by rw [xorK_len, hx]
  have h1t : (xorK x y 128).take 128 = xorK x y 128 := take128 h1l
  refine go15 (an na h1t) ?_
  unfold pagesL
  generalize xorK x y 128 = r at h1l h1t ⊢
  have rl : r.length = 128 := h1l
  have hset : ∀ i, ∀ k, k < 16 → rowSet (atK (oldR (i + 1)) (oldR i) k) k (.ptr 3 0 (rowQ i k)) = some (atK (oldR (i + 1)) (oldR i) (k + 1)) := fun i k hk => atK_set (oldR_one (i + 1)) (oldR_one i) k hk rfl
  refine loop_count (good15 0) (fun i => ⟨envL [(2, .ptr 0 0 0), (4, .ptr 2 0 0), (6, .ptr 3 0 0), (7, .ptr 4 0 0), (26, .v (.int .i64 i))], [some [.arr 128 .u64 r], some [.arr 128 .u64 y], some [.arr 128 .u64 (List.replicate 128 0)], some [.arr 128 .u64 (stirK rowQ r i)], some (atK (oldR i) (oldR i) 0)]⟩) 8 (by kernel_rfl) ?_ ?_ ?_
  · have e : [AV.v (.pointer none), .v (.pointer none), .v (.pointer none), .v (.pointer none), .v (.pointer none), .v (.pointer none), .v (.pointer none), .v (.pointer none), .v (.pointer none), .v (.pointer none), .v (.pointer none), .v (.pointer none), .v (.pointer none), .v (.pointer none), .v (.pointer none), .v (.pointer none)] = atK (oldR 0) (oldR 0) 0 := rfl
    (refine weak_of ?_ ?_; (focus (first | with_reducible rfl | (simp only [stirK, n0, e] <;> with_reducible rfl))); simp only [exF, Nat.reduceEqDiff, if_true, if_false, reduceIte, Option.some.injEq, reduceCtorEq, Int.cast_ofNat_Int, stirK, n0, e])
  · intro i hi
    have hz := stirK_len rowQ r i
    rw [rl] at hz
    refine go15 na ?_
    refine loop_count (good15 0) (fun k => ⟨envL [(2, .ptr 0 0 0), (4, .ptr 2 0 0), (6, .ptr 3 0 0), (7, .ptr 4 0 0), (8, .v (.int .i64 i)), (26, .v (.int .i64 i)), (29, .v (.int .i64 k))], [some [.arr 128 .u64 r], some [.arr 128 .u64 y], some [.arr 128 .u64 (List.replicate 128 0)], some [.arr 128 .u64 (stirK rowQ r i)], some (atK (oldR (i + 1)) (oldR i) k)]⟩) 16 (by kernel_rfl) ?_ ?_ ?_
    · have e : atK (oldR i) (oldR i) 0 = atK (oldR (i + 1)) (oldR i) 0 := rfl
      exact wk (an e n0)
    · intro k hk
      have hs := hset i k hk
      unfold rowQ at hs
      repeat (first | simp only [c15_P, c15_odd, c15_ro, Nat.reduceBEq, reduceIte, Nat.reduceEqDiff, reduceCtorEq, ne_eq, if_true, if_false, exA, exA, tabs, exB, exD, buildA, rowOr, rowSetAt, rowAgg, mkAgg, AV.isAggV, AV.parts, AV.one, AV.solid, headSize, indexAddrA, indexA, fieldAddrA, fieldA, sliceA, boundsA, bndA, lenA, arrayAtA, rowOf, makeSliceA, intsOf, copyA, Nat.reduceAdd, Nat.reduceSub, Nat.reduceMul, Nat.reduceLeDiff, Nat.reduceLT, Nat.reduceGT, Int.reduceToNat, Int.reduceLE, Int.reduceLT, Int.reduceEq, Int.reduceNe, Int.reduceAdd, Int.reduceSub, Int.reduceMul, Int.reduceNeg, ite_true, ite_false, dite_true, xc10, xc11, xc12, xc13, xc14, xc15, run_range, exR, na] | simp (maxSteps := 1000000) (disch := omega) only [exE, Int.toNat_natCast, Int.reduceToNat, hs])
      repeat with_reducible refine gd ?_
      exact wk hs
    · have e16 : atK (oldR (i + 1)) (oldR i) 16 = ptr16 3 (rowQ i) := rfl
      refine go15 (an na e16) ?_
      refine callC_fr [4, 3] (all_spec 128 (stirK rowQ r i) (rowQ i) (by intro j hj; unfold rowQ; omega)) rfl rfl (by decide) ?_
      rintro _ _ ⟨rfl, rfl⟩
      refine go15 (an na exG) ?_
      have e : renL (frameMap [4, 3] 5) (ptr16 1 (rowQ i)) = atK (oldR (i + 1)) (oldR (i + 1)) 0 := rfl
      (refine weak_of ?_ ?_; (focus (first | with_reducible rfl | (simp only [stirK, e] <;> with_reducible rfl))); simp only [exF, Nat.reduceEqDiff, if_true, if_false, reduceIte, Option.some.injEq, reduceCtorEq, Int.cast_ofNat_Int, stirK, e])
  have h2l : (stirK rowQ r 8).length = 128 := by rw [stirK_len, rl]
  refine go15 na ?_
  have hR : pagesR r = xorK (stirK colQ (stirK rowQ r 8) 8) r 128 := rfl
  rw [hR]
  generalize stirK rowQ r 8 = z at h2l ⊢
  have zl : z.length = 128 := h2l
  have hset : ∀ i, ∀ k, k < 16 → rowSet (atK (oldC (i + 1)) (oldC i) k) k (.ptr 3 0 (colQ i k)) = some (atK (oldC (i + 1)) (oldC i) (k + 1)) := fun i k hk => atK_set (oldC_one (i + 1)) (oldC_one i) k hk rfl
  refine loop_count (good15 0) (fun i => ⟨envL [(2, .ptr 0 0 0), (4, .ptr 2 0 0), (6, .ptr 3 0 0), (7, .ptr 4 0 0), (42, .v (.int .i64 i))], [some [.arr 128 .u64 r], some [.arr 128 .u64 y], some [.arr 128 .u64 (List.replicate 128 0)], some [.arr 128 .u64 (stirK colQ z i)], some (atK (oldC i) (oldC i) 0)]⟩) 8 (by kernel_rfl) ?_ ?_ ?_
  · have e : atK (oldR 8) (oldR 8) 0 = atK (oldC 0) (oldC 0) 0 := rfl
    (refine weak_of ?_ ?_; (focus (first | with_reducible rfl | (simp only [stirK, n0, e] <;> with_reducible rfl))); simp only [exF, Nat.reduceEqDiff, if_true, if_false, reduceIte, Option.some.injEq, reduceCtorEq, Int.cast_ofNat_Int, stirK, n0, e])
  · intro i hi
    have hz := stirK_len colQ z i
    rw [zl] at hz
    refine go15 na ?_
    refine loop_count (good15 0) (fun k => ⟨envL [(2, .ptr 0 0 0), (4, .ptr 2 0 0), (6, .ptr 3 0 0), (7, .ptr 4 0 0), (10, .v (.int .i64 i)), (42, .v (.int .i64 i)), (45, .v (.int .i64 k))], [some [.arr 128 .u64 r], some [.arr 128 .u64 y], some [.arr 128 .u64 (List.replicate 128 0)], some [.arr 128 .u64 (stirK colQ z i)], some (atK (oldC (i + 1)) (oldC i) k)]⟩) 16 (by kernel_rfl) ?_ ?_ ?_
    · have e : atK (oldC i) (oldC i) 0 = atK (oldC (i + 1)) (oldC i) 0 := rfl
      exact wk (an e n0)
    · intro k hk
      have hs := hset i k hk
      unfold colQ at hs
      repeat (first | simp only [c15_P, c15_odd, c15_ro, Nat.reduceBEq, reduceIte, Nat.reduceEqDiff, reduceCtorEq, ne_eq, if_true, if_false, exA, exA, tabs, exB, exD, buildA, rowOr, rowSetAt, rowAgg, mkAgg, AV.isAggV, AV.parts, AV.one, AV.solid, headSize, indexAddrA, indexA, fieldAddrA, fieldA, sliceA, boundsA, bndA, lenA, arrayAtA, rowOf, makeSliceA, intsOf, copyA, Nat.reduceAdd, Nat.reduceSub, Nat.reduceMul, Nat.reduceLeDiff, Nat.reduceLT, Nat.reduceGT, Int.reduceToNat, Int.reduceLE, Int.reduceLT, Int.reduceEq, Int.reduceNe, Int.reduceAdd, Int.reduceSub, Int.reduceMul, Int.reduceNeg, ite_true, ite_false, dite_true, xc10, xc11, xc12, xc13, xc14, xc15, run_range, exR, na] | simp (maxSteps := 1000000) (disch := omega) only [exE, Int.toNat_natCast, Int.reduceToNat, hs])
      repeat with_reducible refine gd ?_
      exact wk hs
    · have e16 : atK (oldC (i + 1)) (oldC i) 16 = ptr16 3 (colQ i) := rfl
      refine go15 (an na e16) ?_
      refine callC_fr [4, 3] (all_spec 128 (stirK colQ z i) (colQ i) (by intro j hj; unfold colQ; omega)) rfl rfl (by decide) ?_
      rintro _ _ ⟨rfl, rfl⟩
      refine go15 (an na exG) ?_
      have e : renL (frameMap [4, 3] 5) (ptr16 1 (colQ i)) = atK (oldC (i + 1)) (oldC (i + 1)) 0 := rfl
      (refine weak_of ?_ ?_; (focus (first | with_reducible rfl | (simp only [stirK, e] <;> with_reducible rfl))); simp only [exF, Nat.reduceEqDiff, if_true, if_false, reduceIte, Option.some.injEq, reduceCtorEq, Int.cast_ofNat_Int, stirK, e])
  have h3l : (stirK colQ z 8).length = 128 := by rw [stirK_len, zl]
  refine go15 na ?_
  generalize stirK colQ z 8 = u at h3l ⊢
  refine loop_count (good15 0) (fun i => ⟨envL [(2, .ptr 0 0 0), (4, .ptr 2 0 0), (6, .ptr 3 0 0), (63, .v (.int .i64 i))], [some [.arr 128 .u64 r], some [.arr 128 .u64 y], some [.arr 128 .u64 (List.replicate 128 0)], some [.arr 128 .u64 (xorK u r i)], some (atK (oldC 8) (oldC 8) 0)]⟩) 128 (by kernel_rfl) ?_ ?_ ?_
  · (refine weak_of ?_ ?_; (focus (first | with_reducible rfl | (simp only [xorK, n0] <;> with_reducible rfl))); simp only [exF, Nat.reduceEqDiff, if_true, if_false, reduceIte, Option.some.injEq, reduceCtorEq, Int.cast_ofNat_Int, xorK, n0])
  · intro i hi
    refine go15 na ?_
    repeat with_reducible refine gd ?_
    (refine weak_of ?_ ?_; (focus (first | with_reducible rfl | (simp only [xorK] <;> with_reducible rfl))); simp only [exF, Nat.reduceEqDiff, if_true, if_false, reduceIte, Option.some.injEq, reduceCtorEq, Int.cast_ofNat_Int, xorK])
  have h4l : (xorK u r 128).length = 128 := by rw [xorK_len, h3l]
  have h4t := take128 h4l
  exact go15 (an na h4t) trivial
end Go.Proofs.Ytfnfmbikooeiaaa

namespace Go.Proofs.Ytfnfmbikooeiaaa
open Go.Ax
def rxK (x y : List Int) : Nat → List Int
  | 0 => List.replicate 128 0
  | i + 1 => (rxK x y i).set i (xorU (x.getD i 0) (y.getD i 0))
theorem rxK_len (x y : List Int) : ∀ i, (rxK x y i).length = 128
  | 0 => by simp [rxK]
  | i + 1 => by simp only [rxK, List.length_set]; exact rxK_len x y i
def gathK (z : List Int) (q : Nat → Nat) : Nat → List Int
  | 0 => List.replicate 16 0
  | k + 1 => (gathK z q k).set k (z.getD (q k) 0)
theorem gathK_len (z : List Int) (q : Nat → Nat) : ∀ i, (gathK z q i).length = 16
  | 0 => by simp [gathK]
  | i + 1 => by simp only [gathK, List.length_set]; exact gathK_len z q i
def scatK (z v : List Int) (q : Nat → Nat) : Nat → List Int
  | 0 => z
  | k + 1 => (scatK z v q k).set (q k) (v.getD k 0)
theorem scatK_len (z v : List Int) (q : Nat → Nat) : ∀ i, (scatK z v q i).length = z.length
  | 0 => rfl
  | i + 1 => by simp only [scatK, List.length_set]; exact scatK_len z v q i
def rstK (Q : Nat → Nat → Nat) (z : List Int) : Nat → List Int
  | 0 => z
  | i + 1 => scatK (rstK Q z i) (rstirL (gathK (rstK Q z i) (Q i) 16)) (Q i) 16
theorem rstK_len (Q : Nat → Nat → Nat) (z : List Int) : ∀ i, (rstK Q z i).length = z.length
  | 0 => rfl
  | i + 1 => by simp only [rstK, scatK_len]; exact rstK_len Q z i
def rpagesR (r : List Int) : List Int := xorK (rstK colQ (rstK rowQ r 8) 8) r 128
def rpagesL (x y : List Int) : List Int := rpagesR (rxK x y 128)
theorem take16 {l : List Int} (h : l.length = 16) : l.take 16 = l := List.take_of_length_le (by omega)
theorem rpages_spec (x y : List Int) (hx : x.length = 128) (hy : y.length = 128) :
    ACall Try.prog 41 [.arr 128 .u64 x, .arr 128 .u64 y] [] fun v _ => v = .arr 128 .u64 (rpagesL x y) := by
  have na : ∀ n : Nat, (0 : Int) ≤ n := fun n => Int.natCast_nonneg n
  have n0 : ((0 : Nat) : Int) = 0 := rfl
  refine bd (good16 0) Try.func41 ?_
  refine go16 nf ?_
  refine loop_count (good16 0) (fun i => ⟨envL [(2, .ptr 0 0 0), (3, .ptr 1 0 0), (4, .ptr 2 0 0), (5, .ptr 3 0 0), (6, .v (.int .i64 i))], [some [.arr 128 .u64 x], some [.arr 128 .u64 y], some [.arr 128 .u64 (List.replicate 128 0)], some [.arr 128 .u64 (rxK x y i)]]⟩) 128 (by kernel_rfl) ?_ ?_ ?_
  · (refine weak_of ?_ ?_; (focus (first | with_reducible rfl | (simp only [rxK] <;> with_reducible rfl))); simp only [exF, Nat.reduceEqDiff, if_true, if_false, reduceIte, Option.some.injEq, reduceCtorEq, Int.cast_ofNat_Int, rxK])
  · intro i hi
    refine go16 na ?_
    repeat with_reducible refine gd ?_
    (refine weak_of ?_ ?_; (focus (first | with_reducible rfl | (simp only [rxK] <;> with_reducible rfl))); simp only [exF, Nat.reduceEqDiff, if_true, if_false, reduceIte, Option.some.injEq, reduceCtorEq, Int.cast_ofNat_Int, rxK])
  have h1l : (rxK x y 128).length = 128 := rxK_len x y 128
  have h1t : (rxK x y 128).take 128 = rxK x y 128 := take128 h1l
  refine go16 (an na h1t) ?_
  unfold rpagesL
  generalize rxK x y 128 = r at h1l h1t ⊢
  have rl : r.length = 128 := h1l
  refine loop_count (good16 0) (fun i => ⟨envL [(4, .ptr 2 0 0), (5, .ptr 3 0 0), (7, .ptr 4 0 0), (8, .v (.int .i64 i))], [some [.arr 128 .u64 x], some [.arr 128 .u64 y], some [.arr 128 .u64 (List.replicate 128 0)], some [.arr 128 .u64 r], some [.arr 128 .u64 (rstK rowQ r i)]]⟩) 8 (by kernel_rfl) ?_ ?_ ?_
  · (refine weak_of ?_ ?_; (focus (first | with_reducible rfl | (simp only [rstK, n0] <;> with_reducible rfl))); simp only [exF, Nat.reduceEqDiff, if_true, if_false, reduceIte, Option.some.injEq, reduceCtorEq, Int.cast_ofNat_Int, rstK, n0])
  · intro i hi
    have hz := rstK_len rowQ r i
    rw [rl] at hz
    refine go16 na ?_
    refine loop_count (good16 0) (fun k => ⟨envL [(4, .ptr 2 0 0), (5, .ptr 3 0 0), (7, .ptr 4 0 0), (8, .v (.int .i64 i)), (9, .ptr 5 0 0), (10, .v (.int .i64 k))], [some [.arr 128 .u64 x], some [.arr 128 .u64 y], some [.arr 128 .u64 (List.replicate 128 0)], some [.arr 128 .u64 r], some [.arr 128 .u64 (rstK rowQ r i)], some [.arr 16 .u64 (gathK (rstK rowQ r i) (rowQ i) k)]]⟩) 16 (by kernel_rfl) ?_ ?_ ?_
    · (refine weak_of ?_ ?_; (focus (first | with_reducible rfl | (simp only [gathK, n0] <;> with_reducible rfl))); simp only [exF, Nat.reduceEqDiff, if_true, if_false, reduceIte, Option.some.injEq, reduceCtorEq, Int.cast_ofNat_Int, gathK, n0])
    · intro k hk
      refine go16 na ?_
      repeat with_reducible refine gd ?_
      (refine weak_of ?_ ?_; (focus (first | with_reducible rfl | (simp only [gathK, rowQ] <;> with_reducible rfl))); simp only [exF, Nat.reduceEqDiff, if_true, if_false, reduceIte, Option.some.injEq, reduceCtorEq, Int.cast_ofNat_Int, gathK, rowQ])
    have hg := gathK_len (rstK rowQ r i) (rowQ i) 16
    have hg2 := take16 hg
    refine go16 (an na (an hg2 hg)) ?_
    have hv : (rstirL (gathK (rstK rowQ r i) (rowQ i) 16)).length = 16 := by rw [rstirL_len, hg]
    have hv2 := take16 hv
    generalize hve : rstirL (gathK (rstK rowQ r i) (rowQ i) 16) = v at hv hv2 ⊢
    refine loop_count (good16 0) (fun k => ⟨envL [(4, .ptr 2 0 0), (5, .ptr 3 0 0), (7, .ptr 4 0 0), (8, .v (.int .i64 i)), (9, .ptr 5 0 0), (11, .v (.int .i64 k))], [some [.arr 128 .u64 x], some [.arr 128 .u64 y], some [.arr 128 .u64 (List.replicate 128 0)], some [.arr 128 .u64 r], some [.arr 128 .u64 (scatK (rstK rowQ r i) v (rowQ i) k)], some [.arr 16 .u64 v]]⟩) 16 (by kernel_rfl) ?_ ?_ ?_
    · (refine weak_of ?_ ?_; (focus (first | with_reducible rfl | (simp only [scatK, n0] <;> with_reducible rfl))); simp only [exF, Nat.reduceEqDiff, if_true, if_false, reduceIte, Option.some.injEq, reduceCtorEq, Int.cast_ofNat_Int, scatK, n0])
    · intro k hk
      refine go16 na ?_
      repeat with_reducible refine gd ?_
      (refine weak_of ?_ ?_; (focus (first | with_reducible rfl | (simp only [scatK, rowQ] <;> with_reducible rfl))); simp only [exF, Nat.reduceEqDiff, if_true, if_false, reduceIte, Option.some.injEq, reduceCtorEq, Int.cast_ofNat_Int, scatK, rowQ])
    · refine go16 na ?_
      (refine weak_gc' [0, 1, 2, 3, 4] (by decide) (by simp) (by rfl) ?_ ?_; (focus (first | with_reducible rfl | (simp only [List.map_cons, List.map_nil, List.cons_append, List.nil_append, List.getElem?_cons_zero, List.getElem?_cons_succ, renB, renL, Option.map_some, Option.map_none, AV.ren, gcMap, List.getD_cons_zero, List.getD_cons_succ, rstK, hve] <;> with_reducible rfl))); simp only [exF, List.map_cons, List.map_nil, List.length_cons, List.length_nil, Nat.reduceAdd, AV.ren, renL, gcMap, Nat.reduceEqDiff, if_true, if_false, reduceIte, Option.some.injEq, reduceCtorEq, Int.cast_ofNat_Int, rstK, hve])
  have h2l : (rstK rowQ r 8).length = 128 := by rw [rstK_len, rl]
  refine go16 na ?_
  have hR : rpagesR r = xorK (rstK colQ (rstK rowQ r 8) 8) r 128 := rfl
  rw [hR]
  generalize rstK rowQ r 8 = z at h2l ⊢
  have zl : z.length = 128 := h2l
  refine loop_count (good16 0) (fun i => ⟨envL [(4, .ptr 2 0 0), (5, .ptr 3 0 0), (7, .ptr 4 0 0), (12, .v (.int .i64 i))], [some [.arr 128 .u64 x], some [.arr 128 .u64 y], some [.arr 128 .u64 (List.replicate 128 0)], some [.arr 128 .u64 r], some [.arr 128 .u64 (rstK colQ z i)]]⟩) 8 (by kernel_rfl) ?_ ?_ ?_
  · (refine weak_of ?_ ?_; (focus (first | with_reducible rfl | (simp only [rstK, n0] <;> with_reducible rfl))); simp only [exF, Nat.reduceEqDiff, if_true, if_false, reduceIte, Option.some.injEq, reduceCtorEq, Int.cast_ofNat_Int, rstK, n0])
  · intro i hi
    have hz := rstK_len colQ z i
    rw [zl] at hz
    refine go16 na ?_
    refine loop_count (good16 0) (fun k => ⟨envL [(4, .ptr 2 0 0), (5, .ptr 3 0 0), (7, .ptr 4 0 0), (12, .v (.int .i64 i)), (13, .ptr 5 0 0), (14, .v (.int .i64 k))], [some [.arr 128 .u64 x], some [.arr 128 .u64 y], some [.arr 128 .u64 (List.replicate 128 0)], some [.arr 128 .u64 r], some [.arr 128 .u64 (rstK colQ z i)], some [.arr 16 .u64 (gathK (rstK colQ z i) (colQ i) k)]]⟩) 16 (by kernel_rfl) ?_ ?_ ?_
    · (refine weak_of ?_ ?_; (focus (first | with_reducible rfl | (simp only [gathK, n0] <;> with_reducible rfl))); simp only [exF, Nat.reduceEqDiff, if_true, if_false, reduceIte, Option.some.injEq, reduceCtorEq, Int.cast_ofNat_Int, gathK, n0])
    · intro k hk
      refine go16 na ?_
      repeat with_reducible refine gd ?_
      (refine weak_of ?_ ?_; (focus (first | with_reducible rfl | (simp only [gathK, colQ] <;> with_reducible rfl))); simp only [exF, Nat.reduceEqDiff, if_true, if_false, reduceIte, Option.some.injEq, reduceCtorEq, Int.cast_ofNat_Int, gathK, colQ])
    have hg := gathK_len (rstK colQ z i) (colQ i) 16
    have hg2 := take16 hg
    refine go16 (an na (an hg2 hg)) ?_
    have hv : (rstirL (gathK (rstK colQ z i) (colQ i) 16)).length = 16 := by rw [rstirL_len, hg]
    have hv2 := take16 hv
    generalize hve : rstirL (gathK (rstK colQ z i) (colQ i) 16) = v at hv hv2 ⊢
    refine loop_count (good16 0) (fun k => ⟨envL [(4, .ptr 2 0 0), (5, .ptr 3 0 0), (7, .ptr 4 0 0), (12, .v (.int .i64 i)), (13, .ptr 5 0 0), (15, .v (.int .i64 k))], [some [.arr 128 .u64 x], some [.arr 128 .u64 y], some [.arr 128 .u64 (List.replicate 128 0)], some [.arr 128 .u64 r], some [.arr 128 .u64 (scatK (rstK colQ z i) v (colQ i) k)], some [.arr 16 .u64 v]]⟩) 16 (by kernel_rfl) ?_ ?_ ?_
    · (refine weak_of ?_ ?_; (focus (first | with_reducible rfl | (simp only [scatK, n0] <;> with_reducible rfl))); simp only [exF, Nat.reduceEqDiff, if_true, if_false, reduceIte, Option.some.injEq, reduceCtorEq, Int.cast_ofNat_Int, scatK, n0])
    · intro k hk
      refine go16 na ?_
      repeat with_reducible refine gd ?_
      (refine weak_of ?_ ?_; (focus (first | with_reducible rfl | (simp only [scatK, colQ] <;> with_reducible rfl))); simp only [exF, Nat.reduceEqDiff, if_true, if_false, reduceIte, Option.some.injEq, reduceCtorEq, Int.cast_ofNat_Int, scatK, colQ])
    · refine go16 na ?_
      (refine weak_gc' [0, 1, 2, 3, 4] (by decide) (by simp) (by rfl) ?_ ?_; (focus (first | with_reducible rfl | (simp only [List.map_cons, List.map_nil, List.cons_append, List.nil_append, List.getElem?_cons_zero, List.getElem?_cons_succ, renB, renL, Option.map_some, Option.map_none, AV.ren, gcMap, List.getD_cons_zero, List.getD_cons_succ, rstK, hve] <;> with_reducible rfl))); simp only [exF, List.map_cons, List.map_nil, List.length_cons, List.length_nil, Nat.reduceAdd, AV.ren, renL, gcMap, Nat.reduceEqDiff, if_true, if_false, reduceIte, Option.some.injEq, reduceCtorEq, Int.cast_ofNat_Int, rstK, hve])
  have h3l : (rstK colQ z 8).length = 128 := by rw [rstK_len, zl]
  refine go16 na ?_
  generalize rstK colQ z 8 = u at h3l ⊢
  refine loop_count (good16 0) (fun i => ⟨envL [(4, .ptr 2 0 0), (5, .ptr 3 0 0), (7, .ptr 4 0 0), (16, .v (.int .i64 i))], [some [.arr 128 .u64 x], some [.arr 128 .u64 y], some [.arr 128 .u64 (List.replicate 128 0)], some [.arr 128 .u64 r], some [.arr 128 .u64 (xorK u r i)]]⟩) 128 (by kernel_rfl) ?_ ?_ ?_
  · (refine weak_of ?_ ?_; (focus (first | with_reducible rfl | (simp only [xorK, n0] <;> with_reducible rfl))); simp only [exF, Nat.reduceEqDiff, if_true, if_false, reduceIte, Option.some.injEq, reduceCtorEq, Int.cast_ofNat_Int, xorK, n0])
  · intro i hi
    refine go16 na ?_
    repeat with_reducible refine gd ?_
    (refine weak_of ?_ ?_; (focus (first | with_reducible rfl | (simp only [xorK] <;> with_reducible rfl))); simp only [exF, Nat.reduceEqDiff, if_true, if_false, reduceIte, Option.some.injEq, reduceCtorEq, Int.cast_ofNat_Int, xorK])
  have h4l : (xorK u r 128).length = 128 := by rw [xorK_len, h3l]
  have h4t := take128 h4l
  exact go16 (an na h4t) trivial
end Go.Proofs.Ytfnfmbikooeiaaa

namespace Go.Proofs.Ytfnfmbikooeiaaa
open Go.Ax
theorem extD {l m : List Int} (hl : l.length = m.length) (h : ∀ i, i < l.length → l.getD i 0 = m.getD i 0) : l = m := by
  apply List.ext_getElem hl
  intro i h1 h2
  have := h i h1
  simpa [List.getD_eq_getElem?_getD, h1, h2] using this
theorem getD_set (l : List Int) (i j : Nat) (x : Int) (hi : i < l.length) : (l.set i x).getD j 0 = if i = j then x else l.getD j 0 := by
  simp only [List.getD_eq_getElem?_getD, List.getElem?_set]
  split
  · rename_i h; subst h; simp [hi]
  · rfl
theorem scatK_at (z v : List Int) (q : Nat → Nat) : ∀ n, (∀ i j, i < n → j < n → q i = q j → i = j) → (∀ i, i < n → q i < z.length) → ∀ k, k < n → (scatK z v q n).getD (q k) 0 = v.getD k 0
  | 0, _, _, k, hk => by omega
  | n + 1, hi, hl, k, hk => by
    simp only [scatK]
    rw [getD_set _ _ _ _ (by rw [scatK_len]; exact hl n (by omega))]
    split
    · rename_i h
      rw [hi n k (by omega) hk h]
    · rename_i h
      exact scatK_at z v q n (fun i j a b => hi i j (by omega) (by omega)) (fun i a => hl i (by omega)) k (by
        have : k ≠ n := by rintro rfl; exact h rfl
        omega)
theorem scatK_out (z v : List Int) (q : Nat → Nat) : ∀ n j, (∀ i, i < n → q i < z.length) → (∀ i, i < n → q i ≠ j) → (scatK z v q n).getD j 0 = z.getD j 0
  | 0, j, _, _ => rfl
  | n + 1, j, hl, hj => by
    simp only [scatK]
    rw [getD_set _ _ _ _ (by rw [scatK_len]; exact hl n (by omega)), if_neg (hj n (by omega))]
    exact scatK_out z v q n j (fun i a => hl i (by omega)) (fun i a => hj i (by omega))
theorem scatK_set (z v : List Int) (q : Nat → Nat) (n a : Nat) (t : Int) (hi : ∀ i j, i < n → j < n → q i = q j → i = j) (hl : ∀ i, i < n → q i < z.length) (ha : a < n) (hv : n ≤ v.length) :
    (scatK z v q n).set (q a) t = scatK z (v.set a t) q n := by
  refine extD (by simp [scatK_len]) ?_
  intro j hj
  rw [getD_set _ _ _ _ (by rw [scatK_len]; exact hl a ha)]
  by_cases h : ∃ k, k < n ∧ q k = j
  · obtain ⟨k, hk, rfl⟩ := h
    rw [scatK_at z _ q n hi hl k hk, scatK_at z _ q n hi hl k hk, getD_set _ _ _ _ (by omega)]
    by_cases hak : a = k
    · subst hak; rw [if_pos rfl, if_pos rfl]
    · rw [if_neg hak, if_neg (fun e => hak (hi a k ha hk e))]
  · have hn : ∀ i, i < n → q i ≠ j := fun i a e => h ⟨i, a, e⟩
    rw [scatK_out z _ q n j hl hn, scatK_out z _ q n j hl hn, if_neg (hn a ha)]
section
variable {z : List Int} {q : Nat → Nat} (hi : ∀ i j, i < 16 → j < 16 → q i = q j → i = j) (hl : ∀ i, i < 16 → q i < z.length)
include hi hl
theorem grow_scat {v : List Int} (hv : v.length = 16) {x y : Nat} (hx : x < 16) (hy : y < 16) : growL (scatK z v q 16) (q x) (q y) = scatK z (growL v x y) q 16 := by
  unfold growL
  rw [scatK_at z v q 16 hi hl x hx, scatK_at z v q 16 hi hl y hy, scatK_set z v q 16 x _ hi hl hx (by omega)]
theorem turn_scat {v : List Int} (hv : v.length = 16) {x y : Nat} (hx : x < 16) (hy : y < 16) (n : Int) : turnL (scatK z v q 16) (q x) (q y) n = scatK z (turnL v x y n) q 16 := by
  unfold turnL
  rw [scatK_at z v q 16 hi hl x hx, scatK_at z v q 16 hi hl y hy, scatK_set z v q 16 x _ hi hl hx (by omega)]
theorem step_scat {v : List Int} (hv : v.length = 16) {x y w : Nat} (hx : x < 16) (hy : y < 16) (hw : w < 16) (n : Int) : stepL (scatK z v q 16) (q x) (q y) (q w) n = scatK z (stepL v x y w n) q 16 := by
  unfold stepL
  rw [grow_scat hi hl hv hx hy, turn_scat hi hl (by simp [growL, hv]) hw hx]
theorem stir_scat {v : List Int} (hv : v.length = 16) {a b c d : Nat} (ha : a < 16) (hb : b < 16) (hc : c < 16) (hd : d < 16) : stirL (scatK z v q 16) (q a) (q b) (q c) (q d) = scatK z (stirL v a b c d) q 16 := by
  have hs : ∀ (v : List Int) x y w n, (stepL v x y w n).length = v.length := by intro v x y w n; simp [stepL, growL, turnL]
  unfold stirL
  rw [step_scat hi hl hv ha hb hd, step_scat hi hl (by rw [hs, hv]) hc hd hb, step_scat hi hl (by rw [hs, hs, hv]) ha hb hd, step_scat hi hl (by rw [hs, hs, hs, hv]) hc hd hb]
theorem all_scat {v : List Int} (hv : v.length = 16) : ∀ i, allK (scatK z v q 16) q i = scatK z (allK v (fun j => j) i) q 16
  | 0 => rfl
  | i + 1 => by
    simp only [allK]
    rw [all_scat hv i]
    have hL : (allK v (fun j => j) i).length = 16 := by rw [allK_len, hv]
    exact stir_scat hi hl hL (by omega) (by omega) (by omega) (by omega)
end
theorem gathK_at (z : List Int) (q : Nat → Nat) : ∀ n, n ≤ 16 → ∀ k, k < n → (gathK z q n).getD k 0 = z.getD (q k) 0
  | 0, _, k, hk => by omega
  | n + 1, hn, k, hk => by
    simp only [gathK]
    rw [getD_set _ _ _ _ (by rw [gathK_len]; omega)]
    split
    · rename_i h; rw [h]
    · exact gathK_at z q n (by omega) k (by omega)
theorem scat_gath (z : List Int) (q : Nat → Nat) (hi : ∀ i j, i < 16 → j < 16 → q i = q j → i = j) (hl : ∀ i, i < 16 → q i < z.length) : scatK z (gathK z q 16) q 16 = z := by
  refine extD (by rw [scatK_len]) ?_
  intro j hj
  by_cases h : ∃ k, k < 16 ∧ q k = j
  · obtain ⟨k, hk, rfl⟩ := h
    rw [scatK_at z _ q 16 hi hl k hk, gathK_at z q 16 (by omega) k hk]
  · exact scatK_out z _ q 16 j hl (fun i a e => h ⟨i, a, e⟩)
theorem all_where (z : List Int) (q : Nat → Nat) (hi : ∀ i j, i < 16 → j < 16 → q i = q j → i = j) (hl : ∀ i, i < 16 → q i < z.length) :
    allK z q 8 = scatK z (allK (gathK z q 16) (fun j => j) 8) q 16 := by
  rw [← all_scat hi hl (gathK_len z q 16), scat_gath z q hi hl]
theorem rowQ_ok (i : Nat) : ∀ a b, a < 16 → b < 16 → rowQ i a = rowQ i b → a = b := by unfold rowQ; omega
theorem colQ_ok (i : Nat) (h : i < 8) : ∀ a b, a < 16 → b < 16 → colQ i a = colQ i b → a = b := by unfold colQ; omega
theorem rowQ_lt {i : Nat} (h : i < 8) {n : Nat} (hn : n = 128) : ∀ a, a < 16 → rowQ i a < n := by unfold rowQ; omega
theorem colQ_lt {i : Nat} (h : i < 8) {n : Nat} (hn : n = 128) : ∀ a, a < 16 → colQ i a < n := by unfold colQ; omega
theorem NonNeg.scat {z v : List Int} (hz : NonNeg z) (hv : NonNeg v) (q : Nat → Nat) : ∀ n, NonNeg (scatK z v q n)
  | 0 => hz
  | n + 1 => (NonNeg.scat hz hv q n).set _ (hv n)
theorem NonNeg.rep (n : Nat) : NonNeg (List.replicate n 0) := by
  intro i
  rw [List.getD_eq_getElem?_getD, List.getElem?_replicate]
  split <;> simp
theorem NonNeg.gath {z : List Int} (hz : NonNeg z) (q : Nat → Nat) : ∀ n, NonNeg (gathK z q n)
  | 0 => NonNeg.rep 16
  | n + 1 => (NonNeg.gath hz q n).set _ (hz _)
theorem stirK_nn (Q : Nat → Nat → Nat) {z : List Int} (hz : NonNeg z) : ∀ i, NonNeg (stirK Q z i)
  | 0 => hz
  | i + 1 => allK_nn (stirK_nn Q hz i) (Q i) 8
theorem rst_stir (Q : Nat → Nat → Nat) {z : List Int} (hz : NonNeg z) (hl : z.length = 128) (h1 : ∀ i, i < 8 → ∀ a b, a < 16 → b < 16 → Q i a = Q i b → a = b) (h2 : ∀ i, i < 8 → ∀ a, a < 16 → Q i a < 128) :
    ∀ i, i ≤ 8 → rstK Q z i = stirK Q z i
  | 0, _ => rfl
  | i + 1, h => by
    have hs : (stirK Q z i).length = 128 := by rw [stirK_len, hl]
    simp only [rstK, stirK]
    rw [rst_stir Q hz hl h1 h2 i (by omega), all_where _ _ (h1 i (by omega)) (by rw [hs]; exact h2 i (by omega)), ← stir_law ((stirK_nn Q hz i).gath (Q i) 16)]
theorem xorK_at (x y : List Int) : ∀ n, n ≤ x.length → ∀ k, (xorK x y n).getD k 0 = if k < n then xorU (x.getD k 0) (y.getD k 0) else x.getD k 0
  | 0, _, k => by simp [xorK]
  | n + 1, hn, k => by
    simp only [xorK]
    rw [getD_set _ _ _ _ (by rw [xorK_len]; omega), xorK_at x y n (by omega) n, xorK_at x y n (by omega) k, if_neg (Nat.lt_irrefl n)]
    by_cases h : n = k
    · subst h; rw [if_pos rfl, if_pos (by omega)]
    · rw [if_neg h]
      by_cases h2 : k < n
      · rw [if_pos h2, if_pos (by omega)]
      · rw [if_neg h2, if_neg (by omega)]
theorem rxK_at (x y : List Int) : ∀ n, n ≤ 128 → ∀ k, k < n → (rxK x y n).getD k 0 = xorU (x.getD k 0) (y.getD k 0)
  | 0, _, k, hk => by omega
  | n + 1, hn, k, hk => by
    simp only [rxK]
    rw [getD_set _ _ _ _ (by rw [rxK_len]; omega)]
    split
    · rename_i h; rw [h]
    · exact rxK_at x y n (by omega) k (by omega)
theorem rx_xor (x y : List Int) (hx : x.length = 128) : rxK x y 128 = xorK x y 128 := by
  refine extD (by rw [rxK_len, xorK_len, hx]) ?_
  intro i h
  rw [rxK_len] at h
  rw [rxK_at x y 128 (by omega) i h, xorK_at x y 128 (by omega) i, if_pos h]
theorem xorU_nn (x y : Int) : 0 ≤ xorU x y := u64_nn _
theorem xorK_nn {x : List Int} (y : List Int) (hx : NonNeg x) : ∀ n, NonNeg (xorK x y n)
  | 0 => hx
  | n + 1 => (xorK_nn y hx n).set _ (xorU_nn _ _)
theorem pages_law {x y : List Int} (hx : x.length = 128) (nx : NonNeg x) : rpagesL x y = pagesL x y := by
  unfold rpagesL pagesL rpagesR pagesR
  rw [rx_xor x y hx]
  have hr : (xorK x y 128).length = 128 := by rw [xorK_len, hx]
  have nr := xorK_nn y nx 128
  generalize xorK x y 128 = r at hr nr ⊢
  rw [rst_stir rowQ nr hr (fun i _ => rowQ_ok i) (fun i h => rowQ_lt h rfl) 8 (by omega)]
  rw [rst_stir colQ (stirK_nn rowQ nr 8) (by rw [stirK_len, hr]) (fun i h => colQ_ok i h) (fun i h => colQ_lt h rfl) 8 (by omega)]
theorem xorU_comm (x y : Int) : xorU x y = xorU y x := by unfold xorU; rw [BitVec.xor_comm]
theorem xorU_self (x : Int) : xorU x x = 0 := by unfold xorU; rw [BitVec.xor_self]; rfl
theorem pages_comm {x y : List Int} (hx : x.length = 128) (hy : y.length = 128) : pagesL y x = pagesL x y := by
  unfold pagesL
  rw [show xorK y x 128 = xorK x y 128 from extD (by rw [xorK_len, xorK_len, hx, hy]) (by
    intro i h
    rw [xorK_len, hy] at h
    rw [xorK_at y x 128 (by omega), xorK_at x y 128 (by omega), if_pos h, if_pos h, xorU_comm])]
theorem set_zero {z : List Int} (hz : z = List.replicate z.length 0) (i : Nat) {x : Int} (hx : x = 0) : z.set i x = z := by
  subst hx
  generalize z.length = n at hz
  subst hz
  apply List.ext_getElem?
  intro j
  rw [List.getElem?_set]
  split
  · rename_i h
    subst h
    rw [List.getElem?_replicate]
    simp
  · rfl
theorem zero_at {z : List Int} (hz : z = List.replicate z.length 0) (i : Nat) : z.getD i 0 = 0 := by
  rw [hz, List.getD_eq_getElem?_getD, List.getElem?_replicate]
  split <;> simp
theorem stir_zero {z : List Int} (hz : z = List.replicate z.length 0) (a b c d : Nat) : stirL z a b c d = z := by
  have h1 : ∀ x y, growL z x y = z := by
    intro x y
    unfold growL
    rw [zero_at hz x, zero_at hz y]
    exact set_zero hz x (by decide)
  have h2 : ∀ x y n, (n = -32 ∨ n = -24 ∨ n = -16 ∨ n = -63) → turnL z x y n = z := by
    intro x y n hn
    unfold turnL
    rw [zero_at hz x, zero_at hz y]
    refine set_zero hz x ?_
    rcases hn with rfl | rfl | rfl | rfl <;> decide
  unfold stirL stepL
  rw [h1, h2 _ _ _ (by simp), h1, h2 _ _ _ (by simp), h1, h2 _ _ _ (by simp), h1, h2 _ _ _ (by simp)]
theorem all_zero {z : List Int} (hz : z = List.replicate z.length 0) (q : Nat → Nat) : ∀ i, allK z q i = z
  | 0 => rfl
  | i + 1 => by simp only [allK]; rw [all_zero hz q i, stir_zero hz]
theorem stirK_zero {z : List Int} (hz : z = List.replicate z.length 0) (Q : Nat → Nat → Nat) : ∀ i, stirK Q z i = z
  | 0 => rfl
  | i + 1 => by simp only [stirK]; rw [stirK_zero hz Q i, all_zero hz]
theorem pages_self {x : List Int} (hx : x.length = 128) : pagesL x x = List.replicate 128 0 := by
  have h0 : xorK x x 128 = List.replicate 128 0 := by
    refine extD (by rw [xorK_len, hx]; simp) ?_
    intro i h
    rw [xorK_len, hx] at h
    rw [xorK_at x x 128 (by omega), if_pos h, xorU_self, List.getD_eq_getElem?_getD, List.getElem?_replicate, if_pos h]; rfl
  unfold pagesL pagesR
  rw [h0]
  have hz : List.replicate 128 (0 : Int) = List.replicate (List.replicate 128 (0 : Int)).length 0 := by simp
  rw [stirK_zero hz, stirK_zero hz]
  refine extD (by rw [xorK_len]) ?_
  intro i h
  rw [xorK_len] at h
  simp only [List.length_replicate] at h
  rw [xorK_at _ _ 128 (by simp), if_pos h, xorU_self, List.getD_eq_getElem?_getD, List.getElem?_replicate, if_pos h]; rfl
end Go.Proofs.Ytfnfmbikooeiaaa

namespace Go.Proofs.Ytfnfmbikooeiaaa
open Go.Ax
theorem orU_add (x c : Nat) (k : Nat) (hk : k < 8) (hx : x < 2 ^ (8 * k)) (hc : c < 256) :
    orU (x : Int) (shl .u64 (IntKind.u64.wrap (c : Int)) ((8 * k : Nat) : Int)) = ((x + c * 2 ^ (8 * k) : Nat) : Int) := by
  have hp : 2 ^ (8 * k) * 256 ≤ 18446744073709551616 := by
    have h1 : 2 ^ (8 * k) ≤ 2 ^ 56 := Nat.pow_le_pow_right (by omega) (by omega)
    have h2 : (2 : Nat) ^ 56 * 256 = 18446744073709551616 := by decide
    omega
  have hcp : c * 2 ^ (8 * k) ≤ 255 * 2 ^ (8 * k) := Nat.mul_le_mul_right _ (by omega)
  have hs : shl .u64 (IntKind.u64.wrap (c : Int)) ((8 * k : Nat) : Int) = ((c * 2 ^ (8 * k) : Nat) : Int) := by
    have hm : min ((8 * k : Nat) : Int).toNat IntKind.u64.bits = 8 * k := by
      have : IntKind.u64.bits = 64 := rfl
      rw [Int.toNat_natCast, this]; omega
    unfold shl
    have hcw : IntKind.u64.wrap (c : Int) = c := by rw [wrap_u64', Int.emod_eq_of_lt (by omega) (by omega)]
    have hpw : (c : Int) * 2 ^ (8 * k) = ((c * 2 ^ (8 * k) : Nat) : Int) := by rw [Int.natCast_mul, Int.natCast_pow]; rfl
    rw [hm, hcw, hpw, wrap_u64']
    exact Int.emod_eq_of_lt (by omega) (by omega)
  rw [hs]
  unfold orU
  have h1 : (BitVec.ofInt IntKind.u64.bits (x : Int)).toNat = x := by
    rw [BitVec.toNat_ofInt]
    show ((x : Int) % ((2 ^ 64 : Nat) : Int)).toNat = x
    omega
  have h2 : (BitVec.ofInt IntKind.u64.bits ((c * 2 ^ (8 * k) : Nat) : Int)).toNat = c * 2 ^ (8 * k) := by
    rw [BitVec.toNat_ofInt]
    show (((c * 2 ^ (8 * k) : Nat) : Int) % ((2 ^ 64 : Nat) : Int)).toNat = _
    omega
  rw [BitVec.toNat_or, h1, h2]
  have h3 : x ||| c * 2 ^ (8 * k) = x + c * 2 ^ (8 * k) := by
    rw [Nat.or_comm, ← Nat.shiftLeft_eq, ← Nat.shiftLeft_add_eq_or_of_lt hx, Nat.shiftLeft_eq]; omega
  rw [h3, wrap_u64']
  omega
def leK (c : Nat → Nat) : Nat → Nat
  | 0 => 0
  | k + 1 => leK c k + c k * 2 ^ (8 * k)
theorem leK_lt (c : Nat → Nat) (hc : ∀ k, c k < 256) : ∀ k, leK c k < 2 ^ (8 * k)
  | 0 => by simp [leK]
  | k + 1 => by
    have h1 := leK_lt c hc k
    have h2 := hc k
    have h3 : 2 ^ (8 * (k + 1)) = 256 * 2 ^ (8 * k) := by rw [show 8 * (k + 1) = 8 + 8 * k by omega, Nat.pow_add]
    have h4 : c k * 2 ^ (8 * k) ≤ 255 * 2 ^ (8 * k) := Nat.mul_le_mul_right _ (by omega)
    simp only [leK]; omega
def Bts (b : List Int) : Prop := ∀ i, 0 ≤ b.getD i 0 ∧ b.getD i 0 < 256
def Wds (b : List Int) : Prop := ∀ i, 0 ≤ b.getD i 0 ∧ b.getD i 0 < 18446744073709551616
theorem chunkK_at (b p : List Int) (hb : Bts b) (j : Nat) (hj : j < p.length) (hz : p.getD j 0 = 0) : ∀ k, k ≤ 8 → (chunkK b p j k).getD j 0 = (leK (fun m => (b.getD (8 * j + m) 0).toNat) k : Nat)
  | 0, _ => hz
  | k + 1, hk => by
    simp only [chunkK, wordB, leK]
    rw [getD_set _ _ _ _ (by rw [chunkK_len]; exact hj), if_pos rfl, chunkK_at b p hb j hj hz k (by omega)]
    have h1 := hb (8 * j + k)
    have h2 := orU_add (leK (fun m => (b.getD (8 * j + m) 0).toNat) k) (b.getD (8 * j + k) 0).toNat k (by omega) (leK_lt _ (fun m => by have := hb (8 * j + m); omega) k) (by omega)
    rw [Int.toNat_of_nonneg h1.1] at h2
    exact h2
theorem chunkK_other (b p : List Int) (j i : Nat) (hj : j < p.length) (hij : i ≠ j) : ∀ k, (chunkK b p j k).getD i 0 = p.getD i 0
  | 0 => rfl
  | k + 1 => by
    simp only [chunkK, wordB]
    rw [getD_set _ _ _ _ (by rw [chunkK_len]; exact hj), if_neg (fun e => hij e.symm)]
    exact chunkK_other b p j i hj hij k
theorem rpage_at (b : List Int) (hb : Bts b) : ∀ n, n ≤ 128 → ∀ j, j < 128 → (rpageK b (8 * n)).getD j 0 = if j < n then ((leK (fun m => (b.getD (8 * j + m) 0).toNat) 8 : Nat) : Int) else 0
  | 0, _, j, hj => by
    show (List.replicate 128 (0 : Int)).getD j 0 = _
    rw [List.getD_eq_getElem?_getD, List.getElem?_replicate, if_pos hj]; rfl
  | n + 1, hn, j, hj => by
    have h1 := chunkK_rpage b n 8 (by omega)
    rw [show 8 * (n + 1) = 8 * n + 8 by omega, ← h1]
    have hl := rpageK_len b (8 * n)
    by_cases h : j = n
    · subst h
      rw [chunkK_at b _ hb j (by omega) (by rw [rpage_at b hb j (by omega) j hj, if_neg (Nat.lt_irrefl j)]) 8 (by omega), if_pos (by omega)]
    · rw [chunkK_other b _ n j (by omega) h, rpage_at b hb n (by omega) j hj]
      by_cases h2 : j < n
      · rw [if_pos h2, if_pos (by omega)]
      · rw [if_neg h2, if_neg (by omega)]
theorem leK_8 (c : Nat → Nat) : leK c 8 = c 0 + c 1 * 256 + c 2 * 65536 + c 3 * 16777216 + c 4 * 4294967296 + c 5 * 1099511627776 + c 6 * 281474976710656 + c 7 * 72057594037927936 := by
  simp [leK]
theorem shr_at (w : Nat) (k : Nat) (hk : k < 8) : IntKind.u8.wrap (shr .u64 (w : Int) ((8 * k : Nat) : Int)) = ((w / 2 ^ (8 * k) % 256 : Nat) : Int) := by
  have hm : min ((8 * k : Nat) : Int).toNat IntKind.u64.bits = 8 * k := by
    have : IntKind.u64.bits = 64 := rfl
    rw [Int.toNat_natCast, this]; omega
  unfold shr
  rw [hm, Int.fdiv_eq_ediv_of_nonneg _ (Int.pow_nonneg (by omega)), wrap_u8']
  rw [Int.natCast_emod, Int.natCast_ediv, Int.natCast_pow]; rfl
theorem leK_div (c : Nat → Nat) (hc : ∀ k, c k < 256) (k : Nat) (hk : k < 8) : leK c 8 / 2 ^ (8 * k) % 256 = c k := by
  rw [leK_8]
  have h0 := hc 0
  have h1 := hc 1
  have h2 := hc 2
  have h3 := hc 3
  have h4 := hc 4
  have h5 := hc 5
  have h6 := hc 6
  have h7 := hc 7
  rcases (by omega : k = 0 ∨ k = 1 ∨ k = 2 ∨ k = 3 ∨ k = 4 ∨ k = 5 ∨ k = 6 ∨ k = 7) with rfl | rfl | rfl | rfl | rfl | rfl | rfl | rfl <;> simp only [Nat.reduceMul, Nat.reducePow] <;> omega
theorem leK_div2 (w : Nat) (hw : w < 18446744073709551616) : leK (fun k => w / 2 ^ (8 * k) % 256) 8 = w := by
  rw [leK_8]
  simp only [Nat.reduceMul, Nat.reducePow]
  omega
theorem bytesP_at (p : List Int) (i : Nat) (h : i < 1024) : (bytesP p 1024).getD i 0 = byteAt p i := by
  simp [bytesP, List.getD_eq_getElem?_getD, h]
theorem bytesP_bts (p : List Int) : Bts (bytesP p 1024) := by
  intro i
  rcases Nat.lt_or_ge i 1024 with h | h
  · rw [bytesP_at p i h]; unfold byteAt; rw [wrap_u8']; omega
  · rw [List.getD_eq_getElem?_getD, List.getElem?_eq_none (by rw [bytesP_len]; exact h)]; simp
theorem page_bytes (p : List Int) (hp : p.length = 128) (hw : Wds p) : rpageK (bytesP p 1024) 1024 = p := by
  refine extD (by rw [rpageK_len, hp]) ?_
  intro j hj
  rw [rpageK_len] at hj
  have h1 := rpage_at (bytesP p 1024) (bytesP_bts p) 128 (by omega) j hj
  rw [if_pos hj, show (8 : Nat) * 128 = 1024 from rfl] at h1
  refine h1.trans ?_
  have hwj := hw j
  have h2 : leK (fun m => ((bytesP p 1024).getD (8 * j + m) 0).toNat) 8 = leK (fun m => (p.getD j 0).toNat / 2 ^ (8 * m) % 256) 8 := by
    have hc : ∀ m, m < 8 → ((bytesP p 1024).getD (8 * j + m) 0).toNat = (p.getD j 0).toNat / 2 ^ (8 * m) % 256 := by
      intro m hm
      rw [bytesP_at p _ (by omega)]
      unfold byteAt
      rw [show (8 * j + m) / 8 = j by omega, show (8 * j + m) % 8 = m by omega]
      have := shr_at (p.getD j 0).toNat m hm
      rw [Int.toNat_of_nonneg hwj.1] at this
      rw [this, Int.toNat_natCast]
    have : ∀ n, n ≤ 8 → leK (fun m => ((bytesP p 1024).getD (8 * j + m) 0).toNat) n = leK (fun m => (p.getD j 0).toNat / 2 ^ (8 * m) % 256) n := by
      intro n
      induction n with
      | zero => intro _; simp only [leK]
      | succ n ih => intro hn; simp only [leK]; rw [ih (by omega), hc n (by omega)]
    exact this 8 (by omega)
  rw [h2, leK_div2 _ (by omega), Int.toNat_of_nonneg hwj.1]
theorem bytes_page (b : List Int) (hb : b.length = 1024) (hB : Bts b) : bytesP (rpageK b 1024) 1024 = b := by
  refine extD (by rw [bytesP_len, hb]) ?_
  intro i hi
  rw [bytesP_len] at hi
  rw [bytesP_at _ i hi]
  unfold byteAt
  have h1 := rpage_at b hB 128 (by omega) (i / 8) (by omega)
  rw [if_pos (by omega)] at h1
  rw [show (8 : Nat) * 128 = 1024 from rfl] at h1
  rw [h1, shr_at _ _ (by omega), leK_div _ (fun k => by have := hB (8 * (i / 8) + k); omega) _ (by omega)]
  rw [show 8 * (i / 8) + i % 8 = i by omega, Int.toNat_of_nonneg (hB i).1]
end Go.Proofs.Ytfnfmbikooeiaaa

namespace Go.Proofs.Ytfnfmbikooeiaaa
open Go.Ax Go.Kn
theorem fc_eq {α : Type} (n : Nat) (k : Nat → α) : fc n k = k n := by cases n <;> rfl
theorem hd_cons {α : Type} (a : Nat) (l : List Nat) (k : Nat → List Nat → α) : hd (a :: l) k = k a l := rfl
theorem hd_nil {α : Type} (k : Nat → List Nat → α) : hd [] k = k 0 [] := rfl
def padN (n : Nat) (l : List Nat) : List Nat := l.take n ++ List.replicate (n - l.length) 0
theorem padN_full {n : Nat} {l : List Nat} (h : n ≤ l.length) : padN n l = l.take n := by
  unfold padN; rw [Nat.sub_eq_zero_of_le h]; simp
theorem tkC_eq {α : Type} : ∀ (n : Nat) (l : List Nat) (k : List Nat → List Nat → α), tkC n l k = k (padN n l) (l.drop n)
  | 0, l, k => by
    show k [] l = _
    simp [padN]
  | n + 1, [], k => by
    show tkC n [] (fun t r => k (0 :: t) r) = _
    rw [tkC_eq n [] _]
    simp [padN, List.replicate_succ]
  | n + 1, a :: l, k => by
    show tkC n l (fun t r => k (a :: t) r) = _
    rw [tkC_eq n l _]
    simp [padN]
theorem tkC_full {α : Type} {n : Nat} {l : List Nat} (k : List Nat → List Nat → α) (h : n ≤ l.length) : tkC n l k = k (l.take n) (l.drop n) := by rw [tkC_eq, padN_full h]
theorem zx_eq {α : Type} : ∀ (x y : List Nat) (k : List Nat → α), x.length ≤ y.length → zx x y k = k (List.zipWith xM x y)
  | [], y, k, _ => by simp [zx]
  | a :: x, [], k, h => by simp at h
  | a :: x, b :: y, k, h => by
    show fc (xM a b) (fun c => zx x y fun l => k (c :: l)) = _
    rw [fc_eq, zx_eq x y _ (by simpa using h)]
    rfl
theorem dr_eq : ∀ (n : Nat) (l : List Nat), dr n l = l.drop n
  | 0, l => rfl
  | n + 1, [] => by
    show ([] : List Nat) = _
    simp
  | n + 1, a :: l => by
    show dr n l = _
    rw [dr_eq n l]; rfl
theorem gt_eq : ∀ (l : List Nat) (i : Nat), gt l i = l.getD i 0
  | [], i => rfl
  | a :: l, 0 => rfl
  | a :: l, i + 1 => by
    show gt l i = _
    rw [gt_eq l i]; rfl
theorem apC_eq {α : Type} : ∀ (x t : List Nat) (k : List Nat → α), apC x t k = k (x ++ t)
  | [], t, k => rfl
  | a :: x, t, k => by
    show apC x t (fun l => k (a :: l)) = _
    rw [apC_eq x t _]; rfl
theorem flC_eq {α : Type} : ∀ (t : List (List Nat)) (k : List Nat → α), flC t k = k t.flatten
  | [], k => rfl
  | a :: t, k => by
    show flC t (fun l => apC a l k) = _
    rw [flC_eq t _, apC_eq]; rfl
def zc (l : List Nat) : List Int := l.map (fun x : Nat => (x : Int))
theorem zc_len (l : List Nat) : (zc l).length = l.length := by simp [zc]
theorem zc_getD (l : List Nat) (i : Nat) : (zc l).getD i 0 = ((l.getD i 0 : Nat) : Int) := by
  unfold zc
  rw [List.getD_eq_getElem?_getD, List.getElem?_map, List.getD_eq_getElem?_getD]
  cases l[i]? <;> rfl
theorem zc_set (l : List Nat) (i x : Nat) : (zc l).set i (x : Int) = zc (l.set i x) := by unfold zc; rw [List.map_set]
theorem zc_app (a b : List Nat) : zc (a ++ b) = zc a ++ zc b := by simp [zc]
theorem zc_take (l : List Nat) (n : Nat) : (zc l).take n = zc (l.take n) := by simp [zc, List.map_take]
theorem zc_drop (l : List Nat) (n : Nat) : (zc l).drop n = zc (l.drop n) := by simp [zc, List.map_drop]
theorem zc_rep (n x : Nat) : zc (List.replicate n x) = List.replicate n (x : Int) := by simp [zc]
theorem ofInt_toNat (x : Nat) : (BitVec.ofInt IntKind.u64.bits (x : Int)).toNat = x % 18446744073709551616 := by
  rw [BitVec.toNat_ofInt]
  show ((x : Int) % ((2 ^ 64 : Nat) : Int)).toNat = _
  omega
theorem xor_cast (x y : Nat) : xorU (x : Int) (y : Int) = ((xM x y : Nat) : Int) := by
  unfold xorU xM
  rw [wrap_u64, BitVec.toNat_xor, ofInt_toNat, ofInt_toNat, show Nat.xor x y = x ^^^ y from rfl, show Nat.mod (x ^^^ y) 18446744073709551616 = (x ^^^ y) % 2 ^ 64 from rfl, Nat.xor_mod_two_pow]
  have h : x % 2 ^ 64 ^^^ y % 2 ^ 64 < 2 ^ 64 := Nat.xor_lt_two_pow (Nat.mod_lt _ (by decide)) (Nat.mod_lt _ (by decide))
  have h2 : x % 18446744073709551616 ^^^ y % 18446744073709551616 < 18446744073709551616 := h
  show ((x % 18446744073709551616 ^^^ y % 18446744073709551616 : Nat) : Int) % 18446744073709551616 = ((x % 18446744073709551616 ^^^ y % 18446744073709551616 : Nat) : Int)
  omega
theorem plus_cast (x y : Nat) : plusU (x : Int) (y : Int) = ((fP x y : Nat) : Int) := by
  unfold plusU fP
  rw [show ((x : Int)).tmod 4294967296 = ((x % 4294967296 : Nat) : Int) from rfl, show ((y : Int)).tmod 4294967296 = ((y % 4294967296 : Nat) : Int) from rfl]
  simp only [wrap_u64]
  show _ = (((x + y + 2 * (x % 4294967296 * (y % 4294967296))) % 18446744073709551616 : Nat) : Int)
  have h1 : x % 4294967296 < 4294967296 := Nat.mod_lt _ (by decide)
  have h2 : (2 * ((x % 4294967296 : Nat) : Int)) % 18446744073709551616 = 2 * ((x % 4294967296 : Nat) : Int) := by omega
  rw [h2]
  obtain ⟨z, hz⟩ : ∃ z : Nat, x % 4294967296 * (y % 4294967296) = z := ⟨_, rfl⟩
  have hz2 : 2 * ((x % 4294967296 : Nat) : Int) * ((y % 4294967296 : Nat) : Int) = 2 * (z : Int) := by rw [← hz, Int.natCast_mul, Int.mul_assoc]
  rw [hz, hz2]
  omega
theorem rot_cast (n m : Nat) (x y : Nat) (hn : n + m = 64) (h1 : 1 ≤ n) (h2 : 1 ≤ m) : rotR (n : Int) (xorU (x : Int) (y : Int)) = ((rx n m x y : Nat) : Int) := by
  rw [xor_cast]
  unfold rx
  rw [fc_eq]
  have hz : xM x y < 18446744073709551616 := Nat.mod_lt _ (by decide)
  obtain ⟨z, hzz⟩ : ∃ z, xM x y = z := ⟨_, rfl⟩
  rw [hzz] at hz ⊢
  have hm : IntKind.i64.wrap (64 - (n : Int)) = (m : Int) := by rw [i64_id _ (by omega)]; omega
  have e1 : shr IntKind.u64 (z : Int) (n : Int) = ((z >>> n : Nat) : Int) := by
    unfold shr
    have hmm : min (n : Int).toNat IntKind.u64.bits = n := by have : IntKind.u64.bits = 64 := rfl; rw [Int.toNat_natCast, this]; omega
    rw [hmm, Int.fdiv_eq_ediv_of_nonneg _ (Int.pow_nonneg (by omega)), Nat.shiftRight_eq_div_pow, Int.natCast_ediv, Int.natCast_pow]; rfl
  have e2 : shl IntKind.u64 (z : Int) (m : Int) = (((z <<< m) % 18446744073709551616 : Nat) : Int) := by
    unfold shl
    have hmm : min (m : Int).toNat IntKind.u64.bits = m := by have : IntKind.u64.bits = 64 := rfl; rw [Int.toNat_natCast, this]; omega
    rw [hmm, wrap_u64, Nat.shiftLeft_eq, Int.natCast_emod, Int.natCast_mul, Int.natCast_pow]; rfl
  unfold rotR
  rw [hm, e1, e2, wrap_u64, BitVec.toNat_or, ofInt_toNat, ofInt_toNat]
  show _ = (((z >>> n ||| z <<< m) % 18446744073709551616 : Nat) : Int)
  rw [Nat.mod_mod, show (18446744073709551616 : Nat) = 2 ^ 64 from rfl, ← Nat.or_mod_two_pow]
  obtain ⟨u, hu⟩ : ∃ u, z >>> n ||| z <<< m = u := ⟨_, rfl⟩
  rw [hu]
  show ((u % 18446744073709551616 : Nat) : Int) % 18446744073709551616 = ((u % 18446744073709551616 : Nat) : Int)
  omega
noncomputable def gA (a b c d : Nat) : Nat := fP (fP a b) (rx 24 40 b (fP c (rx 32 32 d (fP a b))))
noncomputable def gD (a b c d : Nat) : Nat := rx 16 48 (rx 32 32 d (fP a b)) (gA a b c d)
noncomputable def gC (a b c d : Nat) : Nat := fP (fP c (rx 32 32 d (fP a b))) (gD a b c d)
noncomputable def gE (a b c d : Nat) : Nat := rx 63 1 (rx 24 40 b (fP c (rx 32 32 d (fP a b)))) (gC a b c d)
theorem gP_eq {α : Type} (a b c d : Nat) (k : Nat → Nat → Nat → Nat → α) : gP a b c d k = k (gA a b c d) (gE a b c d) (gC a b c d) (gD a b c d) := by
  unfold gP
  simp only [fc_eq]
  rfl
noncomputable def plusN (l : List Nat) (a b : Nat) : List Nat := l.set a (fP (l.getD a 0) (l.getD b 0))
noncomputable def turnN (n m : Nat) (l : List Nat) (z x : Nat) : List Nat := l.set z (rx n m (l.getD z 0) (l.getD x 0))
noncomputable def fourN (l : List Nat) (a b c d : Nat) : List Nat :=
  turnN 63 1 (plusN (turnN 16 48 (plusN (turnN 24 40 (plusN (turnN 32 32 (plusN l a b) d a) c d) b c) a b) d a) c d) b c
theorem plus_zc (l : List Nat) (a b : Nat) : plusP (zc l) a b = zc (plusN l a b) := by unfold plusP plusN; rw [zc_getD, zc_getD, plus_cast, zc_set]
theorem turn_zc (n m : Nat) (l : List Nat) (z x : Nat) (hn : n + m = 64) (h1 : 1 ≤ n) (h2 : 1 ≤ m) : turnP (zc l) z x (n : Int) = zc (turnN n m l z x) := by
  unfold turnP turnN; rw [zc_getD, zc_getD, rot_cast n m _ _ hn h1 h2, zc_set]
theorem four_zc (l : List Nat) (a b c d : Nat) : fourL (zc l) a b c d = zc (fourN l a b c d) := by
  have h1 := fun l z x => turn_zc 32 32 l z x rfl (by decide) (by decide)
  have h2 := fun l z x => turn_zc 24 40 l z x rfl (by decide) (by decide)
  have h3 := fun l z x => turn_zc 16 48 l z x rfl (by decide) (by decide)
  have h4 := fun l z x => turn_zc 63 1 l z x rfl (by decide) (by decide)
  simp only [Int.cast_ofNat_Int] at h1 h2 h3 h4
  unfold fourL fourN
  rw [plus_zc, h1, plus_zc, h2, plus_zc, h3, plus_zc, h4]
noncomputable def rstirN (l : List Nat) : List Nat :=
  fourN (fourN (fourN (fourN (fourN (fourN (fourN (fourN l 0 4 8 12) 1 5 9 13) 2 6 10 14) 3 7 11 15) 0 5 10 15) 1 6 11 12) 2 7 8 13) 3 4 9 14
theorem rstir_zc (l : List Nat) : rstirL (zc l) = zc (rstirN l) := by unfold rstirL rstirN; simp only [four_zc]
theorem four_0 (v0 v1 v2 v3 v4 v5 v6 v7 v8 v9 v10 v11 v12 v13 v14 v15 : Nat) : fourN [v0, v1, v2, v3, v4, v5, v6, v7, v8, v9, v10, v11, v12, v13, v14, v15] 0 4 8 12 = [gA v0 v4 v8 v12, v1, v2, v3, gE v0 v4 v8 v12, v5, v6, v7, gC v0 v4 v8 v12, v9, v10, v11, gD v0 v4 v8 v12, v13, v14, v15] := rfl
theorem four_1 (v0 v1 v2 v3 v4 v5 v6 v7 v8 v9 v10 v11 v12 v13 v14 v15 : Nat) : fourN [v0, v1, v2, v3, v4, v5, v6, v7, v8, v9, v10, v11, v12, v13, v14, v15] 1 5 9 13 = [v0, gA v1 v5 v9 v13, v2, v3, v4, gE v1 v5 v9 v13, v6, v7, v8, gC v1 v5 v9 v13, v10, v11, v12, gD v1 v5 v9 v13, v14, v15] := rfl
theorem four_2 (v0 v1 v2 v3 v4 v5 v6 v7 v8 v9 v10 v11 v12 v13 v14 v15 : Nat) : fourN [v0, v1, v2, v3, v4, v5, v6, v7, v8, v9, v10, v11, v12, v13, v14, v15] 2 6 10 14 = [v0, v1, gA v2 v6 v10 v14, v3, v4, v5, gE v2 v6 v10 v14, v7, v8, v9, gC v2 v6 v10 v14, v11, v12, v13, gD v2 v6 v10 v14, v15] := rfl
theorem four_3 (v0 v1 v2 v3 v4 v5 v6 v7 v8 v9 v10 v11 v12 v13 v14 v15 : Nat) : fourN [v0, v1, v2, v3, v4, v5, v6, v7, v8, v9, v10, v11, v12, v13, v14, v15] 3 7 11 15 = [v0, v1, v2, gA v3 v7 v11 v15, v4, v5, v6, gE v3 v7 v11 v15, v8, v9, v10, gC v3 v7 v11 v15, v12, v13, v14, gD v3 v7 v11 v15] := rfl
theorem four_4 (v0 v1 v2 v3 v4 v5 v6 v7 v8 v9 v10 v11 v12 v13 v14 v15 : Nat) : fourN [v0, v1, v2, v3, v4, v5, v6, v7, v8, v9, v10, v11, v12, v13, v14, v15] 0 5 10 15 = [gA v0 v5 v10 v15, v1, v2, v3, v4, gE v0 v5 v10 v15, v6, v7, v8, v9, gC v0 v5 v10 v15, v11, v12, v13, v14, gD v0 v5 v10 v15] := rfl
theorem four_5 (v0 v1 v2 v3 v4 v5 v6 v7 v8 v9 v10 v11 v12 v13 v14 v15 : Nat) : fourN [v0, v1, v2, v3, v4, v5, v6, v7, v8, v9, v10, v11, v12, v13, v14, v15] 1 6 11 12 = [v0, gA v1 v6 v11 v12, v2, v3, v4, v5, gE v1 v6 v11 v12, v7, v8, v9, v10, gC v1 v6 v11 v12, gD v1 v6 v11 v12, v13, v14, v15] := rfl
theorem four_6 (v0 v1 v2 v3 v4 v5 v6 v7 v8 v9 v10 v11 v12 v13 v14 v15 : Nat) : fourN [v0, v1, v2, v3, v4, v5, v6, v7, v8, v9, v10, v11, v12, v13, v14, v15] 2 7 8 13 = [v0, v1, gA v2 v7 v8 v13, v3, v4, v5, v6, gE v2 v7 v8 v13, gC v2 v7 v8 v13, v9, v10, v11, v12, gD v2 v7 v8 v13, v14, v15] := rfl
theorem four_7 (v0 v1 v2 v3 v4 v5 v6 v7 v8 v9 v10 v11 v12 v13 v14 v15 : Nat) : fourN [v0, v1, v2, v3, v4, v5, v6, v7, v8, v9, v10, v11, v12, v13, v14, v15] 3 4 9 14 = [v0, v1, v2, gA v3 v4 v9 v14, gE v3 v4 v9 v14, v5, v6, v7, v8, gC v3 v4 v9 v14, v10, v11, v12, v13, gD v3 v4 v9 v14, v15] := rfl
theorem stir_eq {α : Type} (v0 v1 v2 v3 v4 v5 v6 v7 v8 v9 v10 v11 v12 v13 v14 v15 : Nat) (K : List Nat → α) : (stir v0 v1 v2 v3 v4 v5 v6 v7 v8 v9 v10 v11 v12 v13 v14 v15 fun v0 v1 v2 v3 v4 v5 v6 v7 v8 v9 v10 v11 v12 v13 v14 v15 => K [v0, v1, v2, v3, v4, v5, v6, v7, v8, v9, v10, v11, v12, v13, v14, v15]) = K (rstirN [v0, v1, v2, v3, v4, v5, v6, v7, v8, v9, v10, v11, v12, v13, v14, v15]) := by
  unfold stir rstirN
  simp only [gP_eq, four_0, four_1, four_2, four_3, four_4, four_5, four_6, four_7]
theorem ex16 {l : List Nat} (h : l.length = 16) : ∃ v0 v1 v2 v3 v4 v5 v6 v7 v8 v9 v10 v11 v12 v13 v14 v15, l = [v0, v1, v2, v3, v4, v5, v6, v7, v8, v9, v10, v11, v12, v13, v14, v15] := by
  match l, h with
  | [v0, v1, v2, v3, v4, v5, v6, v7, v8, v9, v10, v11, v12, v13, v14, v15], _ => exact ⟨v0, v1, v2, v3, v4, v5, v6, v7, v8, v9, v10, v11, v12, v13, v14, v15, rfl⟩
theorem un16_eq {α : Type} (v0 v1 v2 v3 v4 v5 v6 v7 v8 v9 v10 v11 v12 v13 v14 v15 : Nat) (k : Nat → Nat → Nat → Nat → Nat → Nat → Nat → Nat → Nat → Nat → Nat → Nat → Nat → Nat → Nat → Nat → List Nat → α) : un16 [v0, v1, v2, v3, v4, v5, v6, v7, v8, v9, v10, v11, v12, v13, v14, v15] k = k v0 v1 v2 v3 v4 v5 v6 v7 v8 v9 v10 v11 v12 v13 v14 v15 [] := rfl
theorem smC_eq {α : Type} : ∀ (t : List (List Nat)) (k : List (List Nat) → α), (∀ a ∈ t, a.length = 16) → smC t k = k (t.map rstirN)
  | [], k, _ => rfl
  | a :: t, k, h => by
    obtain ⟨v0, v1, v2, v3, v4, v5, v6, v7, v8, v9, v10, v11, v12, v13, v14, v15, rfl⟩ := ex16 (h a (List.mem_cons_self ..))
    show (stir v0 v1 v2 v3 v4 v5 v6 v7 v8 v9 v10 v11 v12 v13 v14 v15 fun v0 v1 v2 v3 v4 v5 v6 v7 v8 v9 v10 v11 v12 v13 v14 v15 => smC t fun t => k ([v0, v1, v2, v3, v4, v5, v6, v7, v8, v9, v10, v11, v12, v13, v14, v15] :: t)) = _
    rw [stir_eq v0 v1 v2 v3 v4 v5 v6 v7 v8 v9 v10 v11 v12 v13 v14 v15 (fun x => smC t fun t => k (x :: t)), smC_eq t _ (fun a ha => h a (List.mem_cons_of_mem _ ha))]
    rfl
end Go.Proofs.Ytfnfmbikooeiaaa

namespace Go.Proofs.Ytfnfmbikooeiaaa
open Go.Ax Go.Kn
theorem fourN_len (l : List Nat) (a b c d : Nat) : (fourN l a b c d).length = l.length := by simp [fourN, turnN, plusN]
theorem rstirN_len (l : List Nat) : (rstirN l).length = l.length := by simp only [rstirN, fourN_len]
theorem rst_at (Q : Nat → Nat → Nat) {z : List Int} (hl : z.length = 128) (h1 : ∀ i, i < 8 → ∀ a b, a < 16 → b < 16 → Q i a = Q i b → a = b) (h2 : ∀ i, i < 8 → ∀ a, a < 16 → Q i a < 128)
    (h3 : ∀ i i' a b, i < 8 → i' < 8 → a < 16 → b < 16 → Q i a = Q i' b → i = i') : ∀ n, n ≤ 8 → ∀ i j, i < 8 → j < 16 → (rstK Q z n).getD (Q i j) 0 = if i < n then (rstirL (gathK z (Q i) 16)).getD j 0 else z.getD (Q i j) 0
  | 0, _, i, j, _, _ => by rw [if_neg (by omega)]; rfl
  | n + 1, hn, i, j, hi, hj => by
    have ih := rst_at Q hl h1 h2 h3 n (by omega)
    have hrl : (rstK Q z n).length = 128 := by rw [rstK_len, hl]
    simp only [rstK]
    by_cases hin : i = n
    · subst hin
      rw [scatK_at _ _ (Q i) 16 (h1 i hi) (fun a ha => by rw [hrl]; exact h2 i hi a ha) j hj, if_pos (by omega)]
      congr 2
      refine extD (by rw [gathK_len, gathK_len]) ?_
      intro k hk
      rw [gathK_len] at hk
      rw [gathK_at _ _ 16 (by omega) k hk, gathK_at _ _ 16 (by omega) k hk, ih i k hi hk, if_neg (by omega)]
    · rw [scatK_out _ _ (Q n) 16 _ (fun a ha => by rw [hrl]; exact h2 n (by omega) a ha) (fun a ha e => hin (h3 n i a j (by omega) hi ha hj e).symm), ih i j hi hj]
      by_cases h : i < n
      · rw [if_pos h, if_pos (by omega)]
      · rw [if_neg h, if_neg (by omega)]
noncomputable def gn (z : List Nat) (Q : Nat → Nat → Nat) (i : Nat) : List Nat := (List.range 16).map fun j => z.getD (Q i j) 0
theorem gn_len (z : List Nat) (Q : Nat → Nat → Nat) (i : Nat) : (gn z Q i).length = 16 := by simp [gn]
theorem range_at (n : Nat) (f : Nat → Nat) (j : Nat) (h : j < n) : ((List.range n).map f).getD j 0 = f j := by
  simp [List.getD_eq_getElem?_getD, h]
theorem gath_zc (z : List Nat) (Q : Nat → Nat → Nat) (i : Nat) : gathK (zc z) (Q i) 16 = zc (gn z Q i) := by
  refine extD (by rw [gathK_len, zc_len, gn_len]) ?_
  intro k hk
  rw [gathK_len] at hk
  rw [gathK_at _ _ 16 (by omega) k hk, zc_getD, zc_getD]
  unfold gn
  rw [range_at 16 _ k hk]
theorem rst_zc (Q : Nat → Nat → Nat) {z : List Nat} (hl : z.length = 128) (h1 : ∀ i, i < 8 → ∀ a b, a < 16 → b < 16 → Q i a = Q i b → a = b) (h2 : ∀ i, i < 8 → ∀ a, a < 16 → Q i a < 128)
    (h3 : ∀ i i' a b, i < 8 → i' < 8 → a < 16 → b < 16 → Q i a = Q i' b → i = i') {i j : Nat} (hi : i < 8) (hj : j < 16) : (rstK Q (zc z) 8).getD (Q i j) 0 = (((rstirN (gn z Q i)).getD j 0 : Nat) : Int) := by
  rw [rst_at Q (by rw [zc_len, hl]) h1 h2 h3 8 (Nat.le_refl _) i j hi hj, if_pos hi, gath_zc, rstir_zc, zc_getD]
theorem flat16 : ∀ (t : List (List Nat)) (i j : Nat), (∀ a ∈ t, a.length = 16) → j < 16 → t.flatten.getD (16 * i + j) 0 = (t.getD i []).getD j 0
  | [], i, j, _, _ => by simp
  | a :: t, 0, j, h, hj => by
    have ha := h a (List.mem_cons_self ..)
    rw [List.flatten_cons, List.getD_eq_getElem?_getD, List.getElem?_append_left (by omega), ← List.getD_eq_getElem?_getD]
    rw [Nat.mul_zero, Nat.zero_add]; rfl
  | a :: t, i + 1, j, h, hj => by
    have ha := h a (List.mem_cons_self ..)
    rw [List.flatten_cons, List.getD_eq_getElem?_getD, List.getElem?_append_right (by omega), ← List.getD_eq_getElem?_getD, ha, show 16 * (i + 1) + j - 16 = 16 * i + j by omega]
    exact flat16 t i j (fun a ha => h a (List.mem_cons_of_mem _ ha)) hj
theorem flat16_len : ∀ (t : List (List Nat)), (∀ a ∈ t, a.length = 16) → t.flatten.length = 16 * t.length
  | [], _ => rfl
  | a :: t, h => by
    rw [List.flatten_cons, List.length_append, h a (List.mem_cons_self ..), flat16_len t (fun a ha => h a (List.mem_cons_of_mem _ ha)), List.length_cons]; omega
theorem fm_at (f g : List Nat → Nat) (hf : f [] = 0) (hg : g [] = 0) : ∀ (t : List (List Nat)) (c : Nat), (t.flatMap fun a => [f a, g a]).getD c 0 = if c % 2 = 0 then f (t.getD (c / 2) []) else g (t.getD (c / 2) [])
  | [], c => by simp [hf, hg]
  | a :: t, 0 => by simp
  | a :: t, 1 => by simp
  | a :: t, c + 2 => by
    have := fm_at f g hf hg t c
    rw [List.flatMap_cons, show [f a, g a] ++ (t.flatMap fun a => [f a, g a]) = f a :: g a :: (t.flatMap fun a => [f a, g a]) from rfl, List.getD_cons_succ, List.getD_cons_succ, this, show (c + 2) % 2 = c % 2 by omega, show (c + 2) / 2 = c / 2 + 1 by omega, List.getD_cons_succ]
theorem fm_len (f g : List Nat → Nat) : ∀ t : List (List Nat), (t.flatMap fun a => [f a, g a]).length = 2 * t.length
  | [] => rfl
  | a :: t => by
    have := fm_len f g t
    rw [List.flatMap_cons, List.length_append, this, List.length_cons]; simp; omega
noncomputable def trN (t : List (List Nat)) : List (List Nat) := (List.range 8).map fun i => t.flatMap fun a => [a.getD (2 * i) 0, a.getD (2 * i + 1) 0]
noncomputable def splitN (l : List Nat) : List (List Nat) := (List.range 8).map fun i => (l.drop (16 * i)).take 16
theorem rangeL_at (n : Nat) (f : Nat → List Nat) (j : Nat) (h : j < n) : ((List.range n).map f).getD j [] = f j := by
  simp [List.getD_eq_getElem?_getD, h]
theorem nextD {l m : List Nat} (hl : l.length = m.length) (h : ∀ i, i < l.length → l.getD i 0 = m.getD i 0) : l = m := by
  apply List.ext_getElem hl
  intro i h1 h2
  have := h i h1
  rw [List.getD_eq_getElem?_getD, List.getD_eq_getElem?_getD, List.getElem?_eq_getElem h1, List.getElem?_eq_getElem h2] at this
  simpa using this
theorem split_gn {r : List Nat} (hr : r.length = 128) : splitN r = (List.range 8).map (gn r rowQ) := by
  unfold splitN
  refine List.map_congr_left fun i hi => ?_
  have hi := List.mem_range.1 hi
  refine nextD (by rw [gn_len, List.length_take, List.length_drop, hr]; omega) ?_
  intro j hj
  have hj : j < 16 := by rw [List.length_take] at hj; omega
  unfold gn
  rw [range_at 16 _ j hj, List.getD_eq_getElem?_getD, List.getElem?_take, if_pos hj, List.getElem?_drop, ← List.getD_eq_getElem?_getD]; rfl
theorem map_stir (r : List Nat) (Q : Nat → Nat → Nat) : ((List.range 8).map (gn r Q)).map rstirN = (List.range 8).map fun i => rstirN (gn r Q i) := by simp only [List.map_map, Function.comp_def]
theorem stirs_len (r : List Nat) (Q : Nat → Nat → Nat) : ∀ a ∈ (List.range 8).map (fun i => rstirN (gn r Q i)), a.length = 16 := by
  intro a ha
  obtain ⟨i, _, rfl⟩ := List.mem_map.1 ha
  rw [rstirN_len, gn_len]
theorem tr_at (t : List (List Nat)) (j c : Nat) (hj : j < 8) : ((trN t).getD j []).getD c 0 = (t.getD (c / 2) []).getD (2 * j + c % 2) 0 := by
  unfold trN
  rw [rangeL_at 8 _ j hj, fm_at (fun a => a.getD (2 * j) 0) (fun a => a.getD (2 * j + 1) 0) rfl rfl]
  split
  · rename_i h; rw [h, Nat.add_zero]
  · rename_i h; rw [show c % 2 = 1 by omega]
theorem tr_len {t : List (List Nat)} (h : t.length = 8) : ∀ a ∈ trN t, a.length = 16 := by
  intro a ha
  obtain ⟨i, _, rfl⟩ := List.mem_map.1 ha
  rw [fm_len, h]
theorem rows_zc {r : List Nat} (hr : r.length = 128) : rstK rowQ (zc r) 8 = zc (((List.range 8).map fun i => rstirN (gn r rowQ i)).flatten) := by
  have hl := stirs_len r rowQ
  refine extD (by rw [rstK_len, zc_len, zc_len, hr, flat16_len _ hl, List.length_map, List.length_range]) ?_
  intro p hp
  rw [rstK_len, zc_len, hr] at hp
  have h := rst_zc rowQ hr (fun i _ => rowQ_ok i) (fun i hi => rowQ_lt hi rfl) (by unfold rowQ; omega) (show p / 16 < 8 by omega) (show p % 16 < 16 by omega)
  rw [show rowQ (p / 16) (p % 16) = p by unfold rowQ; omega] at h
  have h2 := flat16 _ (p / 16) (p % 16) hl (by omega)
  rw [show 16 * (p / 16) + p % 16 = p by omega] at h2
  rw [h, zc_getD, h2, rangeL_at 8 _ _ (by omega)]
theorem cols_gn {t : List (List Nat)} (ht : t.length = 8) (hl : ∀ a ∈ t, a.length = 16) : trN t = (List.range 8).map (gn t.flatten colQ) := by
  unfold trN
  refine List.map_congr_left fun i hi => ?_
  have hi := List.mem_range.1 hi
  refine nextD (by rw [gn_len, fm_len, ht]) ?_
  intro c hc
  have hc : c < 16 := by rw [fm_len, ht] at hc; exact hc
  have h := tr_at t i c hi
  unfold trN at h
  rw [rangeL_at 8 _ i hi] at h
  unfold gn
  rw [h, range_at 16 _ c hc]
  have h2 := flat16 t (c / 2) (2 * i + c % 2) hl (by omega)
  rw [show 16 * (c / 2) + (2 * i + c % 2) = colQ i c by unfold colQ; omega] at h2
  rw [h2]
theorem cols_zc {z : List Nat} (hz : z.length = 128) : rstK colQ (zc z) 8 = zc ((trN ((List.range 8).map fun i => rstirN (gn z colQ i))).flatten) := by
  have hl : ∀ a ∈ trN ((List.range 8).map fun i => rstirN (gn z colQ i)), a.length = 16 := tr_len (by simp)
  refine extD (by rw [rstK_len, zc_len, zc_len, hz, flat16_len _ hl]; unfold trN; rw [List.length_map, List.length_range]) ?_
  intro p hp
  rw [rstK_len, zc_len, hz] at hp
  have h := rst_zc colQ hz (fun i hi => colQ_ok i hi) (fun i hi => colQ_lt hi rfl) (by unfold colQ; omega) (show p % 16 / 2 < 8 by omega) (show 2 * (p / 16) + p % 2 < 16 by omega)
  rw [show colQ (p % 16 / 2) (2 * (p / 16) + p % 2) = p by unfold colQ; omega] at h
  have h2 := flat16 _ (p / 16) (p % 16) hl (by omega)
  rw [show 16 * (p / 16) + p % 16 = p by omega] at h2
  rw [h, zc_getD, h2, tr_at _ _ _ (by omega), rangeL_at 8 _ _ (by omega), show p % 16 % 2 = p % 2 by omega]
theorem zip_at : ∀ (x y : List Nat) (i : Nat), i < x.length → x.length = y.length → (List.zipWith xM x y).getD i 0 = xM (x.getD i 0) (y.getD i 0) := by
  intro x y i h1 h2
  simp [List.getD_eq_getElem?_getD, List.getElem?_zipWith, List.getElem?_eq_getElem h1, List.getElem?_eq_getElem (h2 ▸ h1)]
theorem xorK_zc {x y : List Nat} (hx : x.length = 128) (hy : y.length = 128) : xorK (zc x) (zc y) 128 = zc (List.zipWith xM x y) := by
  refine extD (by rw [xorK_len, zc_len, zc_len, List.length_zipWith, hx, hy]; rfl) ?_
  intro i hi
  rw [xorK_len, zc_len, hx] at hi
  rw [xorK_at _ _ 128 (by rw [zc_len, hx]; omega), if_pos hi, zc_getD, zc_getD, zc_getD, xor_cast, zip_at _ _ _ (by omega) (by omega)]
noncomputable def pageN (x y : List Nat) : List Nat :=
  List.zipWith xM ((trN ((trN ((splitN (List.zipWith xM x y)).map rstirN)).map rstirN)).flatten) (List.zipWith xM x y)
theorem zip_len {x y : List Nat} (hx : x.length = 128) (hy : y.length = 128) : (List.zipWith xM x y).length = 128 := by rw [List.length_zipWith, hx, hy]; rfl
theorem mid_len {r : List Nat} (hr : r.length = 128) : ((trN ((trN ((splitN r).map rstirN)).map rstirN)).flatten).length = 128 := by
  rw [flat16_len _ (tr_len (by simp [trN]))]; simp [trN]
theorem pageN_len {x y : List Nat} (hx : x.length = 128) (hy : y.length = 128) : (pageN x y).length = 128 := by
  unfold pageN; exact zip_len (mid_len (zip_len hx hy)) (zip_len hx hy)
theorem page_zc {x y : List Nat} (hx : x.length = 128) (hy : y.length = 128) : rpagesL (zc x) (zc y) = zc (pageN x y) := by
  have hr := zip_len hx hy
  have h0 : rxK (zc x) (zc y) 128 = zc (List.zipWith xM x y) := by rw [rx_xor _ _ (by rw [zc_len, hx]), xorK_zc hx hy]
  unfold rpagesL rpagesR pageN
  rw [h0]
  obtain ⟨r, hrr⟩ : ∃ r, List.zipWith xM x y = r := ⟨_, rfl⟩
  rw [hrr] at hr ⊢
  have hm := mid_len hr
  have hl := stirs_len r rowQ
  have h1 : ((List.range 8).map fun i => rstirN (gn r rowQ i)).flatten.length = 128 := by rw [flat16_len _ hl]; simp
  rw [rows_zc hr, cols_zc h1]
  rw [split_gn hr, map_stir] at hm ⊢
  rw [cols_gn (by simp) hl, map_stir] at hm ⊢
  exact xorK_zc hm hr
theorem spC_eq {α : Type} : ∀ (n : Nat) (l : List Nat) (k : List (List Nat) → α), 16 * n ≤ l.length → spC n l k = k ((List.range n).map fun i => (l.drop (16 * i)).take 16)
  | 0, l, k, _ => rfl
  | n + 1, l, k, h => by
    show tkC 16 l (fun a l => spC n l fun t => k (a :: t)) = _
    rw [tkC_full _ (by omega), spC_eq n _ _ (by rw [List.length_drop]; omega), List.range_succ_eq_map, List.map_cons, List.map_map]
    congr 2
    refine List.map_congr_left fun i _ => ?_
    simp only [Function.comp, List.drop_drop]
    congr 2
    omega
theorem hdsC_eq {α : Type} : ∀ (t : List (List Nat)) (k : List Nat → List (List Nat) → α), (∀ a ∈ t, 2 ≤ a.length) → hdsC t k = k (t.flatMap fun a => [a.getD 0 0, a.getD 1 0]) (t.map fun a => a.drop 2)
  | [], k, _ => rfl
  | a :: t, k, h => by
    have ha := h a (List.mem_cons_self ..)
    match a, ha with
    | x :: y :: a, _ =>
      show hdsC t (fun c r => k (x :: y :: c) (a :: r)) = _
      rw [hdsC_eq t _ (fun a ha => h a (List.mem_cons_of_mem _ ha))]
      rfl
theorem trC_eq {α : Type} : ∀ (n : Nat) (t : List (List Nat)) (k : List (List Nat) → α), (∀ a ∈ t, 2 * n ≤ a.length) → trC n t k = k ((List.range n).map fun i => t.flatMap fun a => [a.getD (2 * i) 0, a.getD (2 * i + 1) 0])
  | 0, t, k, _ => rfl
  | n + 1, t, k, h => by
    show hdsC t (fun c t => trC n t fun r => k (c :: r)) = _
    rw [hdsC_eq t _ (fun a ha => by have := h a ha; omega), trC_eq n _ _ (by
      intro a ha
      obtain ⟨b, hb, rfl⟩ := List.mem_map.1 ha
      have := h b hb
      rw [List.length_drop]; omega), List.range_succ_eq_map, List.map_cons, List.map_map]
    congr 2
    refine List.map_congr_left fun i _ => ?_
    simp only [Function.comp]
    rw [List.flatMap_map]
    congr 1
    funext a
    have e : ∀ j, (a.drop 2).getD j 0 = a.getD (j + 2) 0 := fun j => by rw [List.getD_eq_getElem?_getD, List.getElem?_drop, ← List.getD_eq_getElem?_getD, Nat.add_comm]
    rw [e, e]
    rfl
theorem pageC_eq {α : Type} {x y : List Nat} (k : List Nat → α) (hx : x.length = 128) (hy : y.length = 128) : pageC x y k = k (pageN x y) := by
  have hr := zip_len hx hy
  unfold pageC pageN
  rw [zx_eq x y _ (by omega)]
  obtain ⟨r, hrr⟩ : ∃ r, List.zipWith xM x y = r := ⟨_, rfl⟩
  rw [hrr] at hr ⊢
  rw [spC_eq 8 r _ (by omega)]
  have hm := mid_len hr
  have l1 : ∀ a ∈ splitN r, a.length = 16 := by
    rw [split_gn hr]; intro a ha; obtain ⟨i, _, rfl⟩ := List.mem_map.1 ha; exact gn_len _ _ _
  show smC (splitN r) _ = _
  rw [smC_eq _ _ l1]
  have l2 : ∀ a ∈ (splitN r).map rstirN, a.length = 16 := by
    intro a ha; obtain ⟨b, hb, rfl⟩ := List.mem_map.1 ha; rw [rstirN_len]; exact l1 b hb
  rw [trC_eq 8 _ _ (fun a ha => by rw [l2 a ha]; omega)]
  show smC (trN ((splitN r).map rstirN)) _ = _
  have l3 : ∀ a ∈ trN ((splitN r).map rstirN), a.length = 16 := tr_len (by simp [splitN])
  rw [smC_eq _ _ l3]
  have l4 : ∀ a ∈ (trN ((splitN r).map rstirN)).map rstirN, a.length = 16 := by
    intro a ha; obtain ⟨b, hb, rfl⟩ := List.mem_map.1 ha; rw [rstirN_len]; exact l3 b hb
  rw [trC_eq 8 _ _ (fun a ha => by rw [l4 a ha]; omega)]
  show flC (trN ((trN ((splitN r).map rstirN)).map rstirN)) _ = _
  rw [flC_eq, zx_eq _ _ _ (by rw [hm, hr]; exact Nat.le_refl _)]
end Go.Proofs.Ytfnfmbikooeiaaa

namespace Go.Proofs.Ytfnfmbikooeiaaa
open Go.Ax Go.Kn
noncomputable def hA (a b x : Nat) : Nat := aM a (Nat.add b x)
noncomputable def hB (a b c d x : Nat) : Nat := rx 24 40 b (aM c (rx 32 32 d (hA a b x)))
noncomputable def mA (a b c d x y : Nat) : Nat := aM (hA a b x) (Nat.add (hB a b c d x) y)
noncomputable def mD (a b c d x y : Nat) : Nat := rx 16 48 (rx 32 32 d (hA a b x)) (mA a b c d x y)
noncomputable def mC (a b c d x y : Nat) : Nat := aM (aM c (rx 32 32 d (hA a b x))) (mD a b c d x y)
noncomputable def mB (a b c d x y : Nat) : Nat := rx 63 1 (hB a b c d x) (mC a b c d x y)
theorem gB_eq {α : Type} (a b c d x y : Nat) (k : Nat → Nat → Nat → Nat → α) : gB a b c d x y k = k (mA a b c d x y) (mB a b c d x y) (mC a b c d x y) (mD a b c d x y) := by
  unfold gB
  simp only [fc_eq]
  rfl
noncomputable def addxN (l : List Nat) (a b x : Nat) : List Nat := l.set a (aM (l.getD a 0) (Nat.add (l.getD b 0) x))
noncomputable def addpN (l : List Nat) (a b : Nat) : List Nat := l.set a (aM (l.getD a 0) (l.getD b 0))
noncomputable def mixN (l : List Nat) (a b c d x y : Nat) : List Nat :=
  turnN 63 1 (addpN (turnN 16 48 (addxN (turnN 24 40 (addpN (turnN 32 32 (addxN l a b x) d a) c d) b c) a b y) d a) c d) b c
theorem mixN_len (l : List Nat) (a b c d x y : Nat) : (mixN l a b c d x y).length = l.length := by simp [mixN, turnN, addxN, addpN]
theorem am_cast (x y : Nat) : IntKind.u64.wrap ((x : Int) + (y : Int)) = ((aM x y : Nat) : Int) := by
  rw [wrap_u64]
  show _ = (((x + y) % 18446744073709551616 : Nat) : Int)
  omega
theorem addx_zc (l : List Nat) (a b x : Nat) : addx (zc l) a b (x : Int) = zc (addxN l a b x) := by
  unfold addx addxN
  rw [zc_getD, zc_getD, ← Int.natCast_add, am_cast, zc_set]; rfl
theorem addp_zc (l : List Nat) (a b : Nat) : addp (zc l) a b = zc (addpN l a b) := by unfold addp addpN; rw [zc_getD, zc_getD, am_cast, zc_set]
theorem rotp_zc (n m : Nat) (l : List Nat) (z x : Nat) (hn : n + m = 64) (h1 : 1 ≤ n) (h2 : 1 ≤ m) : rotp (n : Int) (zc l) z x = zc (turnN n m l z x) := turn_zc n m l z x hn h1 h2
theorem mix_zc (l : List Nat) (a b c d x y : Nat) : mixL (zc l) a b c d (x : Int) (y : Int) = zc (mixN l a b c d x y) := by
  have h1 := fun l z x => rotp_zc 32 32 l z x rfl (by decide) (by decide)
  have h2 := fun l z x => rotp_zc 24 40 l z x rfl (by decide) (by decide)
  have h3 := fun l z x => rotp_zc 16 48 l z x rfl (by decide) (by decide)
  have h4 := fun l z x => rotp_zc 63 1 l z x rfl (by decide) (by decide)
  simp only [Int.cast_ofNat_Int] at h1 h2 h3 h4
  unfold mixL mixN
  rw [addx_zc, h1, addp_zc, h2, addx_zc, h3, addp_zc, h4]
theorem mix_0 (v0 v1 v2 v3 v4 v5 v6 v7 v8 v9 v10 v11 v12 v13 v14 v15 x y : Nat) : mixN [v0, v1, v2, v3, v4, v5, v6, v7, v8, v9, v10, v11, v12, v13, v14, v15] 0 4 8 12 x y = [mA v0 v4 v8 v12 x y, v1, v2, v3, mB v0 v4 v8 v12 x y, v5, v6, v7, mC v0 v4 v8 v12 x y, v9, v10, v11, mD v0 v4 v8 v12 x y, v13, v14, v15] := rfl
theorem mix_1 (v0 v1 v2 v3 v4 v5 v6 v7 v8 v9 v10 v11 v12 v13 v14 v15 x y : Nat) : mixN [v0, v1, v2, v3, v4, v5, v6, v7, v8, v9, v10, v11, v12, v13, v14, v15] 1 5 9 13 x y = [v0, mA v1 v5 v9 v13 x y, v2, v3, v4, mB v1 v5 v9 v13 x y, v6, v7, v8, mC v1 v5 v9 v13 x y, v10, v11, v12, mD v1 v5 v9 v13 x y, v14, v15] := rfl
theorem mix_2 (v0 v1 v2 v3 v4 v5 v6 v7 v8 v9 v10 v11 v12 v13 v14 v15 x y : Nat) : mixN [v0, v1, v2, v3, v4, v5, v6, v7, v8, v9, v10, v11, v12, v13, v14, v15] 2 6 10 14 x y = [v0, v1, mA v2 v6 v10 v14 x y, v3, v4, v5, mB v2 v6 v10 v14 x y, v7, v8, v9, mC v2 v6 v10 v14 x y, v11, v12, v13, mD v2 v6 v10 v14 x y, v15] := rfl
theorem mix_3 (v0 v1 v2 v3 v4 v5 v6 v7 v8 v9 v10 v11 v12 v13 v14 v15 x y : Nat) : mixN [v0, v1, v2, v3, v4, v5, v6, v7, v8, v9, v10, v11, v12, v13, v14, v15] 3 7 11 15 x y = [v0, v1, v2, mA v3 v7 v11 v15 x y, v4, v5, v6, mB v3 v7 v11 v15 x y, v8, v9, v10, mC v3 v7 v11 v15 x y, v12, v13, v14, mD v3 v7 v11 v15 x y] := rfl
theorem mix_4 (v0 v1 v2 v3 v4 v5 v6 v7 v8 v9 v10 v11 v12 v13 v14 v15 x y : Nat) : mixN [v0, v1, v2, v3, v4, v5, v6, v7, v8, v9, v10, v11, v12, v13, v14, v15] 0 5 10 15 x y = [mA v0 v5 v10 v15 x y, v1, v2, v3, v4, mB v0 v5 v10 v15 x y, v6, v7, v8, v9, mC v0 v5 v10 v15 x y, v11, v12, v13, v14, mD v0 v5 v10 v15 x y] := rfl
theorem mix_5 (v0 v1 v2 v3 v4 v5 v6 v7 v8 v9 v10 v11 v12 v13 v14 v15 x y : Nat) : mixN [v0, v1, v2, v3, v4, v5, v6, v7, v8, v9, v10, v11, v12, v13, v14, v15] 1 6 11 12 x y = [v0, mA v1 v6 v11 v12 x y, v2, v3, v4, v5, mB v1 v6 v11 v12 x y, v7, v8, v9, v10, mC v1 v6 v11 v12 x y, mD v1 v6 v11 v12 x y, v13, v14, v15] := rfl
theorem mix_6 (v0 v1 v2 v3 v4 v5 v6 v7 v8 v9 v10 v11 v12 v13 v14 v15 x y : Nat) : mixN [v0, v1, v2, v3, v4, v5, v6, v7, v8, v9, v10, v11, v12, v13, v14, v15] 2 7 8 13 x y = [v0, v1, mA v2 v7 v8 v13 x y, v3, v4, v5, v6, mB v2 v7 v8 v13 x y, mC v2 v7 v8 v13 x y, v9, v10, v11, v12, mD v2 v7 v8 v13 x y, v14, v15] := rfl
theorem mix_7 (v0 v1 v2 v3 v4 v5 v6 v7 v8 v9 v10 v11 v12 v13 v14 v15 x y : Nat) : mixN [v0, v1, v2, v3, v4, v5, v6, v7, v8, v9, v10, v11, v12, v13, v14, v15] 3 4 9 14 x y = [v0, v1, v2, mA v3 v4 v9 v14 x y, mB v3 v4 v9 v14 x y, v5, v6, v7, v8, mC v3 v4 v9 v14 x y, v10, v11, v12, v13, mD v3 v4 v9 v14 x y, v15] := rfl
noncomputable def rndN (l : List Nat) (s0 s1 s2 s3 s4 s5 s6 s7 s8 s9 s10 s11 s12 s13 s14 s15 : Nat) : List Nat := mixN (mixN (mixN (mixN (mixN (mixN (mixN (mixN (l) 0 4 8 12 s0 s1) 1 5 9 13 s2 s3) 2 6 10 14 s4 s5) 3 7 11 15 s6 s7) 0 5 10 15 s8 s9) 1 6 11 12 s10 s11) 2 7 8 13 s12 s13) 3 4 9 14 s14 s15
theorem rndN_len (l : List Nat) (s0 s1 s2 s3 s4 s5 s6 s7 s8 s9 s10 s11 s12 s13 s14 s15 : Nat) : (rndN l s0 s1 s2 s3 s4 s5 s6 s7 s8 s9 s10 s11 s12 s13 s14 s15).length = l.length := by simp only [rndN, mixN_len]
theorem rnd_app {α : Type} (v0 v1 v2 v3 v4 v5 v6 v7 v8 v9 v10 v11 v12 v13 v14 v15 s0 s1 s2 s3 s4 s5 s6 s7 s8 s9 s10 s11 s12 s13 s14 s15 : Nat) (k : Nat → Nat → Nat → Nat → Nat → Nat → Nat → Nat → Nat → Nat → Nat → Nat → Nat → Nat → Nat → Nat → α) : rnd v0 v1 v2 v3 v4 v5 v6 v7 v8 v9 v10 v11 v12 v13 v14 v15 s0 s1 s2 s3 s4 s5 s6 s7 s8 s9 s10 s11 s12 s13 s14 s15 k = k ((rndN [v0, v1, v2, v3, v4, v5, v6, v7, v8, v9, v10, v11, v12, v13, v14, v15] s0 s1 s2 s3 s4 s5 s6 s7 s8 s9 s10 s11 s12 s13 s14 s15).getD 0 0) ((rndN [v0, v1, v2, v3, v4, v5, v6, v7, v8, v9, v10, v11, v12, v13, v14, v15] s0 s1 s2 s3 s4 s5 s6 s7 s8 s9 s10 s11 s12 s13 s14 s15).getD 1 0) ((rndN [v0, v1, v2, v3, v4, v5, v6, v7, v8, v9, v10, v11, v12, v13, v14, v15] s0 s1 s2 s3 s4 s5 s6 s7 s8 s9 s10 s11 s12 s13 s14 s15).getD 2 0) ((rndN [v0, v1, v2, v3, v4, v5, v6, v7, v8, v9, v10, v11, v12, v13, v14, v15] s0 s1 s2 s3 s4 s5 s6 s7 s8 s9 s10 s11 s12 s13 s14 s15).getD 3 0) ((rndN [v0, v1, v2, v3, v4, v5, v6, v7, v8, v9, v10, v11, v12, v13, v14, v15] s0 s1 s2 s3 s4 s5 s6 s7 s8 s9 s10 s11 s12 s13 s14 s15).getD 4 0) ((rndN [v0, v1, v2, v3, v4, v5, v6, v7, v8, v9, v10, v11, v12, v13, v14, v15] s0 s1 s2 s3 s4 s5 s6 s7 s8 s9 s10 s11 s12 s13 s14 s15).getD 5 0) ((rndN [v0, v1, v2, v3, v4, v5, v6, v7, v8, v9, v10, v11, v12, v13, v14, v15] s0 s1 s2 s3 s4 s5 s6 s7 s8 s9 s10 s11 s12 s13 s14 s15).getD 6 0) ((rndN [v0, v1, v2, v3, v4, v5, v6, v7, v8, v9, v10, v11, v12, v13, v14, v15] s0 s1 s2 s3 s4 s5 s6 s7 s8 s9 s10 s11 s12 s13 s14 s15).getD 7 0) ((rndN [v0, v1, v2, v3, v4, v5, v6, v7, v8, v9, v10, v11, v12, v13, v14, v15] s0 s1 s2 s3 s4 s5 s6 s7 s8 s9 s10 s11 s12 s13 s14 s15).getD 8 0) ((rndN [v0, v1, v2, v3, v4, v5, v6, v7, v8, v9, v10, v11, v12, v13, v14, v15] s0 s1 s2 s3 s4 s5 s6 s7 s8 s9 s10 s11 s12 s13 s14 s15).getD 9 0) ((rndN [v0, v1, v2, v3, v4, v5, v6, v7, v8, v9, v10, v11, v12, v13, v14, v15] s0 s1 s2 s3 s4 s5 s6 s7 s8 s9 s10 s11 s12 s13 s14 s15).getD 10 0) ((rndN [v0, v1, v2, v3, v4, v5, v6, v7, v8, v9, v10, v11, v12, v13, v14, v15] s0 s1 s2 s3 s4 s5 s6 s7 s8 s9 s10 s11 s12 s13 s14 s15).getD 11 0) ((rndN [v0, v1, v2, v3, v4, v5, v6, v7, v8, v9, v10, v11, v12, v13, v14, v15] s0 s1 s2 s3 s4 s5 s6 s7 s8 s9 s10 s11 s12 s13 s14 s15).getD 12 0) ((rndN [v0, v1, v2, v3, v4, v5, v6, v7, v8, v9, v10, v11, v12, v13, v14, v15] s0 s1 s2 s3 s4 s5 s6 s7 s8 s9 s10 s11 s12 s13 s14 s15).getD 13 0) ((rndN [v0, v1, v2, v3, v4, v5, v6, v7, v8, v9, v10, v11, v12, v13, v14, v15] s0 s1 s2 s3 s4 s5 s6 s7 s8 s9 s10 s11 s12 s13 s14 s15).getD 14 0) ((rndN [v0, v1, v2, v3, v4, v5, v6, v7, v8, v9, v10, v11, v12, v13, v14, v15] s0 s1 s2 s3 s4 s5 s6 s7 s8 s9 s10 s11 s12 s13 s14 s15).getD 15 0) := by
  unfold rnd rndN
  simp only [gB_eq, mix_0, mix_1, mix_2, mix_3, mix_4, mix_5, mix_6, mix_7, List.getD_cons_zero, List.getD_cons_succ]
theorem eta16 {l : List Nat} (h : l.length = 16) : [l.getD 0 0, l.getD 1 0, l.getD 2 0, l.getD 3 0, l.getD 4 0, l.getD 5 0, l.getD 6 0, l.getD 7 0, l.getD 8 0, l.getD 9 0, l.getD 10 0, l.getD 11 0, l.getD 12 0, l.getD 13 0, l.getD 14 0, l.getD 15 0] = l := by
  obtain ⟨v0, v1, v2, v3, v4, v5, v6, v7, v8, v9, v10, v11, v12, v13, v14, v15, rfl⟩ := ex16 h
  rfl
def sg (r j : Nat) : Nat := sigma.getD (16 * (r % 10) + j) 0
noncomputable def allN (ws l : List Nat) : Nat → List Nat
  | 0 => l
  | r + 1 => rndN (allN ws l r) (ws.getD (sg r 0) 0) (ws.getD (sg r 1) 0) (ws.getD (sg r 2) 0) (ws.getD (sg r 3) 0) (ws.getD (sg r 4) 0) (ws.getD (sg r 5) 0) (ws.getD (sg r 6) 0) (ws.getD (sg r 7) 0) (ws.getD (sg r 8) 0) (ws.getD (sg r 9) 0) (ws.getD (sg r 10) 0) (ws.getD (sg r 11) 0) (ws.getD (sg r 12) 0) (ws.getD (sg r 13) 0) (ws.getD (sg r 14) 0) (ws.getD (sg r 15) 0)
theorem allN_len (ws l : List Nat) : ∀ r, (allN ws l r).length = l.length
  | 0 => rfl
  | r + 1 => by simp only [allN, rndN_len]; exact allN_len ws l r
theorem round_mix (w v : List Int) (r : Nat) : roundAt w v r 8 = mixL (mixL (mixL (mixL (mixL (mixL (mixL (mixL (v) 0 4 8 12 (w.getD (sg r 0) 0) (w.getD (sg r 1) 0)) 1 5 9 13 (w.getD (sg r 2) 0) (w.getD (sg r 3) 0)) 2 6 10 14 (w.getD (sg r 4) 0) (w.getD (sg r 5) 0)) 3 7 11 15 (w.getD (sg r 6) 0) (w.getD (sg r 7) 0)) 0 5 10 15 (w.getD (sg r 8) 0) (w.getD (sg r 9) 0)) 1 6 11 12 (w.getD (sg r 10) 0) (w.getD (sg r 11) 0)) 2 7 8 13 (w.getD (sg r 12) 0) (w.getD (sg r 13) 0)) 3 4 9 14 (w.getD (sg r 14) 0) (w.getD (sg r 15) 0) := rfl
theorem round_zc (ws l : List Nat) (r : Nat) : roundAt (zc ws) (zc l) r 8 = zc (rndN l (ws.getD (sg r 0) 0) (ws.getD (sg r 1) 0) (ws.getD (sg r 2) 0) (ws.getD (sg r 3) 0) (ws.getD (sg r 4) 0) (ws.getD (sg r 5) 0) (ws.getD (sg r 6) 0) (ws.getD (sg r 7) 0) (ws.getD (sg r 8) 0) (ws.getD (sg r 9) 0) (ws.getD (sg r 10) 0) (ws.getD (sg r 11) 0) (ws.getD (sg r 12) 0) (ws.getD (sg r 13) 0) (ws.getD (sg r 14) 0) (ws.getD (sg r 15) 0)) := by
  rw [round_mix]
  simp only [zc_getD, mix_zc]
  rfl
theorem all_zc (ws l : List Nat) : ∀ r, allAt (zc ws) (zc l) r = zc (allN ws l r)
  | 0 => rfl
  | r + 1 => by
    simp only [allAt, allN]
    rw [all_zc ws l r, round_zc]
theorem roundsC_app {α : Type} (v0 v1 v2 v3 v4 v5 v6 v7 v8 v9 v10 v11 v12 v13 v14 v15 m0 m1 m2 m3 m4 m5 m6 m7 m8 m9 m10 m11 m12 m13 m14 m15 : Nat) (k : Nat → Nat → Nat → Nat → Nat → Nat → Nat → Nat → Nat → Nat → Nat → Nat → Nat → Nat → Nat → Nat → α) : roundsC v0 v1 v2 v3 v4 v5 v6 v7 v8 v9 v10 v11 v12 v13 v14 v15 m0 m1 m2 m3 m4 m5 m6 m7 m8 m9 m10 m11 m12 m13 m14 m15 k = k ((allN [m0, m1, m2, m3, m4, m5, m6, m7, m8, m9, m10, m11, m12, m13, m14, m15] [v0, v1, v2, v3, v4, v5, v6, v7, v8, v9, v10, v11, v12, v13, v14, v15] 12).getD 0 0) ((allN [m0, m1, m2, m3, m4, m5, m6, m7, m8, m9, m10, m11, m12, m13, m14, m15] [v0, v1, v2, v3, v4, v5, v6, v7, v8, v9, v10, v11, v12, v13, v14, v15] 12).getD 1 0) ((allN [m0, m1, m2, m3, m4, m5, m6, m7, m8, m9, m10, m11, m12, m13, m14, m15] [v0, v1, v2, v3, v4, v5, v6, v7, v8, v9, v10, v11, v12, v13, v14, v15] 12).getD 2 0) ((allN [m0, m1, m2, m3, m4, m5, m6, m7, m8, m9, m10, m11, m12, m13, m14, m15] [v0, v1, v2, v3, v4, v5, v6, v7, v8, v9, v10, v11, v12, v13, v14, v15] 12).getD 3 0) ((allN [m0, m1, m2, m3, m4, m5, m6, m7, m8, m9, m10, m11, m12, m13, m14, m15] [v0, v1, v2, v3, v4, v5, v6, v7, v8, v9, v10, v11, v12, v13, v14, v15] 12).getD 4 0) ((allN [m0, m1, m2, m3, m4, m5, m6, m7, m8, m9, m10, m11, m12, m13, m14, m15] [v0, v1, v2, v3, v4, v5, v6, v7, v8, v9, v10, v11, v12, v13, v14, v15] 12).getD 5 0) ((allN [m0, m1, m2, m3, m4, m5, m6, m7, m8, m9, m10, m11, m12, m13, m14, m15] [v0, v1, v2, v3, v4, v5, v6, v7, v8, v9, v10, v11, v12, v13, v14, v15] 12).getD 6 0) ((allN [m0, m1, m2, m3, m4, m5, m6, m7, m8, m9, m10, m11, m12, m13, m14, m15] [v0, v1, v2, v3, v4, v5, v6, v7, v8, v9, v10, v11, v12, v13, v14, v15] 12).getD 7 0) ((allN [m0, m1, m2, m3, m4, m5, m6, m7, m8, m9, m10, m11, m12, m13, m14, m15] [v0, v1, v2, v3, v4, v5, v6, v7, v8, v9, v10, v11, v12, v13, v14, v15] 12).getD 8 0) ((allN [m0, m1, m2, m3, m4, m5, m6, m7, m8, m9, m10, m11, m12, m13, m14, m15] [v0, v1, v2, v3, v4, v5, v6, v7, v8, v9, v10, v11, v12, v13, v14, v15] 12).getD 9 0) ((allN [m0, m1, m2, m3, m4, m5, m6, m7, m8, m9, m10, m11, m12, m13, m14, m15] [v0, v1, v2, v3, v4, v5, v6, v7, v8, v9, v10, v11, v12, v13, v14, v15] 12).getD 10 0) ((allN [m0, m1, m2, m3, m4, m5, m6, m7, m8, m9, m10, m11, m12, m13, m14, m15] [v0, v1, v2, v3, v4, v5, v6, v7, v8, v9, v10, v11, v12, v13, v14, v15] 12).getD 11 0) ((allN [m0, m1, m2, m3, m4, m5, m6, m7, m8, m9, m10, m11, m12, m13, m14, m15] [v0, v1, v2, v3, v4, v5, v6, v7, v8, v9, v10, v11, v12, v13, v14, v15] 12).getD 12 0) ((allN [m0, m1, m2, m3, m4, m5, m6, m7, m8, m9, m10, m11, m12, m13, m14, m15] [v0, v1, v2, v3, v4, v5, v6, v7, v8, v9, v10, v11, v12, v13, v14, v15] 12).getD 13 0) ((allN [m0, m1, m2, m3, m4, m5, m6, m7, m8, m9, m10, m11, m12, m13, m14, m15] [v0, v1, v2, v3, v4, v5, v6, v7, v8, v9, v10, v11, v12, v13, v14, v15] 12).getD 14 0) ((allN [m0, m1, m2, m3, m4, m5, m6, m7, m8, m9, m10, m11, m12, m13, m14, m15] [v0, v1, v2, v3, v4, v5, v6, v7, v8, v9, v10, v11, v12, v13, v14, v15] 12).getD 15 0) := by
  unfold roundsC
  have a0 : allN [m0, m1, m2, m3, m4, m5, m6, m7, m8, m9, m10, m11, m12, m13, m14, m15] [v0, v1, v2, v3, v4, v5, v6, v7, v8, v9, v10, v11, v12, v13, v14, v15] 0 = [v0, v1, v2, v3, v4, v5, v6, v7, v8, v9, v10, v11, v12, v13, v14, v15] := rfl
  obtain ⟨l0, h0⟩ : ∃ l0, l0 = [v0, v1, v2, v3, v4, v5, v6, v7, v8, v9, v10, v11, v12, v13, v14, v15] := ⟨_, rfl⟩
  have e0 : l0.length = 16 := by rw [h0]; rfl
  rw [← h0] at a0 ⊢
  rw [rnd_app, ← h0]
  obtain ⟨l1, h1⟩ : ∃ l1, l1 = rndN l0 m0 m1 m2 m3 m4 m5 m6 m7 m8 m9 m10 m11 m12 m13 m14 m15 := ⟨_, rfl⟩
  have e1 : l1.length = 16 := by rw [h1, rndN_len, e0]
  rw [← h1]
  have a1 : allN [m0, m1, m2, m3, m4, m5, m6, m7, m8, m9, m10, m11, m12, m13, m14, m15] l0 1 = l1 := by
    show rndN (allN [m0, m1, m2, m3, m4, m5, m6, m7, m8, m9, m10, m11, m12, m13, m14, m15] l0 0) m0 m1 m2 m3 m4 m5 m6 m7 m8 m9 m10 m11 m12 m13 m14 m15 = _
    rw [a0, h1]
  rw [rnd_app, eta16 e1]
  obtain ⟨l2, h2⟩ : ∃ l2, l2 = rndN l1 m14 m10 m4 m8 m9 m15 m13 m6 m1 m12 m0 m2 m11 m7 m5 m3 := ⟨_, rfl⟩
  have e2 : l2.length = 16 := by rw [h2, rndN_len, e1]
  rw [← h2]
  have a2 : allN [m0, m1, m2, m3, m4, m5, m6, m7, m8, m9, m10, m11, m12, m13, m14, m15] l0 2 = l2 := by
    show rndN (allN [m0, m1, m2, m3, m4, m5, m6, m7, m8, m9, m10, m11, m12, m13, m14, m15] l0 1) m14 m10 m4 m8 m9 m15 m13 m6 m1 m12 m0 m2 m11 m7 m5 m3 = _
    rw [a1, h2]
  rw [rnd_app, eta16 e2]
  obtain ⟨l3, h3⟩ : ∃ l3, l3 = rndN l2 m11 m8 m12 m0 m5 m2 m15 m13 m10 m14 m3 m6 m7 m1 m9 m4 := ⟨_, rfl⟩
  have e3 : l3.length = 16 := by rw [h3, rndN_len, e2]
  rw [← h3]
  have a3 : allN [m0, m1, m2, m3, m4, m5, m6, m7, m8, m9, m10, m11, m12, m13, m14, m15] l0 3 = l3 := by
    show rndN (allN [m0, m1, m2, m3, m4, m5, m6, m7, m8, m9, m10, m11, m12, m13, m14, m15] l0 2) m11 m8 m12 m0 m5 m2 m15 m13 m10 m14 m3 m6 m7 m1 m9 m4 = _
    rw [a2, h3]
  rw [rnd_app, eta16 e3]
  obtain ⟨l4, h4⟩ : ∃ l4, l4 = rndN l3 m7 m9 m3 m1 m13 m12 m11 m14 m2 m6 m5 m10 m4 m0 m15 m8 := ⟨_, rfl⟩
  have e4 : l4.length = 16 := by rw [h4, rndN_len, e3]
  rw [← h4]
  have a4 : allN [m0, m1, m2, m3, m4, m5, m6, m7, m8, m9, m10, m11, m12, m13, m14, m15] l0 4 = l4 := by
    show rndN (allN [m0, m1, m2, m3, m4, m5, m6, m7, m8, m9, m10, m11, m12, m13, m14, m15] l0 3) m7 m9 m3 m1 m13 m12 m11 m14 m2 m6 m5 m10 m4 m0 m15 m8 = _
    rw [a3, h4]
  rw [rnd_app, eta16 e4]
  obtain ⟨l5, h5⟩ : ∃ l5, l5 = rndN l4 m9 m0 m5 m7 m2 m4 m10 m15 m14 m1 m11 m12 m6 m8 m3 m13 := ⟨_, rfl⟩
  have e5 : l5.length = 16 := by rw [h5, rndN_len, e4]
  rw [← h5]
  have a5 : allN [m0, m1, m2, m3, m4, m5, m6, m7, m8, m9, m10, m11, m12, m13, m14, m15] l0 5 = l5 := by
    show rndN (allN [m0, m1, m2, m3, m4, m5, m6, m7, m8, m9, m10, m11, m12, m13, m14, m15] l0 4) m9 m0 m5 m7 m2 m4 m10 m15 m14 m1 m11 m12 m6 m8 m3 m13 = _
    rw [a4, h5]
  rw [rnd_app, eta16 e5]
  obtain ⟨l6, h6⟩ : ∃ l6, l6 = rndN l5 m2 m12 m6 m10 m0 m11 m8 m3 m4 m13 m7 m5 m15 m14 m1 m9 := ⟨_, rfl⟩
  have e6 : l6.length = 16 := by rw [h6, rndN_len, e5]
  rw [← h6]
  have a6 : allN [m0, m1, m2, m3, m4, m5, m6, m7, m8, m9, m10, m11, m12, m13, m14, m15] l0 6 = l6 := by
    show rndN (allN [m0, m1, m2, m3, m4, m5, m6, m7, m8, m9, m10, m11, m12, m13, m14, m15] l0 5) m2 m12 m6 m10 m0 m11 m8 m3 m4 m13 m7 m5 m15 m14 m1 m9 = _
    rw [a5, h6]
  rw [rnd_app, eta16 e6]
  obtain ⟨l7, h7⟩ : ∃ l7, l7 = rndN l6 m12 m5 m1 m15 m14 m13 m4 m10 m0 m7 m6 m3 m9 m2 m8 m11 := ⟨_, rfl⟩
  have e7 : l7.length = 16 := by rw [h7, rndN_len, e6]
  rw [← h7]
  have a7 : allN [m0, m1, m2, m3, m4, m5, m6, m7, m8, m9, m10, m11, m12, m13, m14, m15] l0 7 = l7 := by
    show rndN (allN [m0, m1, m2, m3, m4, m5, m6, m7, m8, m9, m10, m11, m12, m13, m14, m15] l0 6) m12 m5 m1 m15 m14 m13 m4 m10 m0 m7 m6 m3 m9 m2 m8 m11 = _
    rw [a6, h7]
  rw [rnd_app, eta16 e7]
  obtain ⟨l8, h8⟩ : ∃ l8, l8 = rndN l7 m13 m11 m7 m14 m12 m1 m3 m9 m5 m0 m15 m4 m8 m6 m2 m10 := ⟨_, rfl⟩
  have e8 : l8.length = 16 := by rw [h8, rndN_len, e7]
  rw [← h8]
  have a8 : allN [m0, m1, m2, m3, m4, m5, m6, m7, m8, m9, m10, m11, m12, m13, m14, m15] l0 8 = l8 := by
    show rndN (allN [m0, m1, m2, m3, m4, m5, m6, m7, m8, m9, m10, m11, m12, m13, m14, m15] l0 7) m13 m11 m7 m14 m12 m1 m3 m9 m5 m0 m15 m4 m8 m6 m2 m10 = _
    rw [a7, h8]
  rw [rnd_app, eta16 e8]
  obtain ⟨l9, h9⟩ : ∃ l9, l9 = rndN l8 m6 m15 m14 m9 m11 m3 m0 m8 m12 m2 m13 m7 m1 m4 m10 m5 := ⟨_, rfl⟩
  have e9 : l9.length = 16 := by rw [h9, rndN_len, e8]
  rw [← h9]
  have a9 : allN [m0, m1, m2, m3, m4, m5, m6, m7, m8, m9, m10, m11, m12, m13, m14, m15] l0 9 = l9 := by
    show rndN (allN [m0, m1, m2, m3, m4, m5, m6, m7, m8, m9, m10, m11, m12, m13, m14, m15] l0 8) m6 m15 m14 m9 m11 m3 m0 m8 m12 m2 m13 m7 m1 m4 m10 m5 = _
    rw [a8, h9]
  rw [rnd_app, eta16 e9]
  obtain ⟨l10, h10⟩ : ∃ l10, l10 = rndN l9 m10 m2 m8 m4 m7 m6 m1 m5 m15 m11 m9 m14 m3 m12 m13 m0 := ⟨_, rfl⟩
  have e10 : l10.length = 16 := by rw [h10, rndN_len, e9]
  rw [← h10]
  have a10 : allN [m0, m1, m2, m3, m4, m5, m6, m7, m8, m9, m10, m11, m12, m13, m14, m15] l0 10 = l10 := by
    show rndN (allN [m0, m1, m2, m3, m4, m5, m6, m7, m8, m9, m10, m11, m12, m13, m14, m15] l0 9) m10 m2 m8 m4 m7 m6 m1 m5 m15 m11 m9 m14 m3 m12 m13 m0 = _
    rw [a9, h10]
  rw [rnd_app, eta16 e10]
  obtain ⟨l11, h11⟩ : ∃ l11, l11 = rndN l10 m0 m1 m2 m3 m4 m5 m6 m7 m8 m9 m10 m11 m12 m13 m14 m15 := ⟨_, rfl⟩
  have e11 : l11.length = 16 := by rw [h11, rndN_len, e10]
  rw [← h11]
  have a11 : allN [m0, m1, m2, m3, m4, m5, m6, m7, m8, m9, m10, m11, m12, m13, m14, m15] l0 11 = l11 := by
    show rndN (allN [m0, m1, m2, m3, m4, m5, m6, m7, m8, m9, m10, m11, m12, m13, m14, m15] l0 10) m0 m1 m2 m3 m4 m5 m6 m7 m8 m9 m10 m11 m12 m13 m14 m15 = _
    rw [a10, h11]
  rw [rnd_app, eta16 e11]
  obtain ⟨l12, h12⟩ : ∃ l12, l12 = rndN l11 m14 m10 m4 m8 m9 m15 m13 m6 m1 m12 m0 m2 m11 m7 m5 m3 := ⟨_, rfl⟩
  have e12 : l12.length = 16 := by rw [h12, rndN_len, e11]
  rw [← h12]
  have a12 : allN [m0, m1, m2, m3, m4, m5, m6, m7, m8, m9, m10, m11, m12, m13, m14, m15] l0 12 = l12 := by
    show rndN (allN [m0, m1, m2, m3, m4, m5, m6, m7, m8, m9, m10, m11, m12, m13, m14, m15] l0 11) m14 m10 m4 m8 m9 m15 m13 m6 m1 m12 m0 m2 m11 m7 m5 m3 = _
    rw [a11, h12]
  rw [a12]
theorem ex8 {l : List Nat} (h : l.length = 8) : ∃ v0 v1 v2 v3 v4 v5 v6 v7, l = [v0, v1, v2, v3, v4, v5, v6, v7] := by
  match l, h with
  | [v0, v1, v2, v3, v4, v5, v6, v7], _ => exact ⟨v0, v1, v2, v3, v4, v5, v6, v7, rfl⟩
noncomputable def wd (l : List Nat) (i : Nat) : Nat := leK (fun m => l.getD (i + m) 0) 8
noncomputable def wordsN (n : Nat) (l : List Nat) : List Nat := (List.range n).map fun j => wd l (8 * j)
theorem wordsN_len (n : Nat) (l : List Nat) : (wordsN n l).length = n := by unfold wordsN; rw [List.length_map, List.length_range]
theorem wordsN_at (n : Nat) (l : List Nat) (j : Nat) (h : j < n) : (wordsN n l).getD j 0 = wd l (8 * j) := by unfold wordsN; exact range_at n _ j h
theorem hd_eq {α : Type} (l : List Nat) (k : Nat → List Nat → α) : hd l k = k (l.getD 0 0) (l.drop 1) := by cases l <;> rfl
theorem drop_at (l : List Nat) (i j : Nat) : (l.drop i).getD j 0 = l.getD (i + j) 0 := by rw [List.getD_eq_getElem?_getD, List.getElem?_drop, ← List.getD_eq_getElem?_getD]
theorem wd_drop (l : List Nat) (i j : Nat) : wd (l.drop i) j = wd l (i + j) := by
  unfold wd
  simp only [drop_at, Nat.add_assoc]
theorem wordC_eq {α : Type} (l : List Nat) (k : Nat → List Nat → α) : wordC l k = k (wd l 0) (l.drop 8) := by
  unfold wordC wd
  rw [leK_8]
  simp only [hd_eq, fc_eq, List.drop_drop, drop_at, Nat.add_eq, Nat.mul_eq, Nat.reduceAdd, Nat.zero_add]
theorem wordsC_succ {α : Type} (n : Nat) (l : List Nat) (k : List Nat → α) : wordsC (n + 1) l k = wordC l (fun w l => wordsC n l fun t => k (w :: t)) := rfl
theorem wordsN_succ (n : Nat) (l : List Nat) : wordsN (n + 1) l = wd l 0 :: wordsN n (l.drop 8) := by
  unfold wordsN
  rw [List.range_succ_eq_map, List.map_cons, List.map_map, Nat.mul_zero]
  have h1 : ((fun j => wd l (8 * j)) ∘ Nat.succ) = fun j => wd (l.drop 8) (8 * j) := by
    funext j
    rw [wd_drop, Function.comp, show 8 * Nat.succ j = 8 + 8 * j by omega]
  rw [h1]
theorem wordsC_eq {α : Type} (n : Nat) : ∀ (l : List Nat) (k : List Nat → α), wordsC n l k = k (wordsN n l) := by
  induction n with
  | zero => intro l k; rfl
  | succ n ih =>
    intro l k
    rw [wordsC_succ, wordC_eq, ih, wordsN_succ]
def BtN (l : List Nat) : Prop := ∀ i, l.getD i 0 < 256
theorem BtN.bts {l : List Nat} (h : BtN l) : Bts (zc l) := fun i => by rw [zc_getD]; have := h i; omega
theorem leK_zc (l : List Nat) (j : Nat) : leK (fun m => ((zc l).getD (8 * j + m) 0).toNat) 8 = wd l (8 * j) := by
  unfold wd
  simp only [zc_getD, Int.toNat_natCast]
theorem page_bytes_zc {b : List Nat} (hb : BtN b) : rpageK (zc b) 1024 = zc (wordsN 128 b) := by
  refine extD (by rw [rpageK_len, zc_len, wordsN_len]) ?_
  intro j hj
  rw [rpageK_len] at hj
  have h := rpage_at (zc b) hb.bts 128 (by omega) j hj
  rw [if_pos hj, leK_zc] at h
  refine h.trans ?_
  rw [zc_getD, wordsN_at 128 b j hj]
theorem words_page (p : List Int) : ∀ i, i ≤ 128 → wordsAt p i = (rpageK p i).take 16
  | 0, _ => rfl
  | i + 1, h => by
    simp only [wordsAt, rpageK, wordB]
    rw [words_page p i (by omega), List.take_set]
    have e : ((rpageK p i).take 16).getD (i / 8) 0 = (rpageK p i).getD (i / 8) 0 := by
      rw [List.getD_eq_getElem?_getD, List.getElem?_take, if_pos (by omega), ← List.getD_eq_getElem?_getD]
    rw [e]
theorem words_zc {b : List Nat} (hb : BtN b) : wordsAt (zc b) 128 = zc (wordsN 16 b) := by
  rw [words_page _ 128 (Nat.le_refl _)]
  refine extD (by rw [List.length_take, rpageK_len, zc_len, wordsN_len]; rfl) ?_
  intro j hj
  have hj : j < 16 := by rw [List.length_take, rpageK_len] at hj; omega
  have h := rpage_at (zc b) hb.bts 16 (by omega) j (by omega)
  rw [if_pos hj, leK_zc] at h
  rw [List.getD_eq_getElem?_getD, List.getElem?_take, if_pos hj, ← List.getD_eq_getElem?_getD]
  refine h.trans ?_
  rw [zc_getD, wordsN_at 16 b j hj]
noncomputable def vN (h : List Nat) (t x : Nat) : List Nat := [h.getD 0 0, h.getD 1 0, h.getD 2 0, h.getD 3 0, h.getD 4 0, h.getD 5 0, h.getD 6 0, h.getD 7 0, 7640891576956012808, 13503953896175478587, 4354685564936845355, 11912009170470909681, xM 5840696475078001361 t, 11170449401992604703, xM x 2270897969802886507, 6620516959819538809]
noncomputable def pieceN (h p : List Nat) (t x : Nat) : List Nat := [xM (h.getD 0 0) (xM ((allN (wordsN 16 p) (vN h t x) 12).getD 0 0) ((allN (wordsN 16 p) (vN h t x) 12).getD 8 0)), xM (h.getD 1 0) (xM ((allN (wordsN 16 p) (vN h t x) 12).getD 1 0) ((allN (wordsN 16 p) (vN h t x) 12).getD 9 0)), xM (h.getD 2 0) (xM ((allN (wordsN 16 p) (vN h t x) 12).getD 2 0) ((allN (wordsN 16 p) (vN h t x) 12).getD 10 0)), xM (h.getD 3 0) (xM ((allN (wordsN 16 p) (vN h t x) 12).getD 3 0) ((allN (wordsN 16 p) (vN h t x) 12).getD 11 0)), xM (h.getD 4 0) (xM ((allN (wordsN 16 p) (vN h t x) 12).getD 4 0) ((allN (wordsN 16 p) (vN h t x) 12).getD 12 0)), xM (h.getD 5 0) (xM ((allN (wordsN 16 p) (vN h t x) 12).getD 5 0) ((allN (wordsN 16 p) (vN h t x) 12).getD 13 0)), xM (h.getD 6 0) (xM ((allN (wordsN 16 p) (vN h t x) 12).getD 6 0) ((allN (wordsN 16 p) (vN h t x) 12).getD 14 0)), xM (h.getD 7 0) (xM ((allN (wordsN 16 p) (vN h t x) 12).getD 7 0) ((allN (wordsN 16 p) (vN h t x) 12).getD 15 0))]
theorem pieceN_len (h p : List Nat) (t x : Nat) : (pieceN h p t x).length = 8 := rfl
theorem pieceC_eq {α : Type} {h : List Nat} (p : List Nat) (t x : Nat) (k : List Nat → α) (hh : h.length = 8) : pieceC h p t x k = k (pieceN h p t x) := by
  obtain ⟨h0, h1, h2, h3, h4, h5, h6, h7, rfl⟩ := ex8 hh
  unfold pieceC
  rw [wordsC_eq]
  obtain ⟨m0, m1, m2, m3, m4, m5, m6, m7, m8, m9, m10, m11, m12, m13, m14, m15, hw⟩ := ex16 (wordsN_len 16 p)
  have e : pieceN [h0, h1, h2, h3, h4, h5, h6, h7] p t x = [xM h0 (xM ((allN [m0, m1, m2, m3, m4, m5, m6, m7, m8, m9, m10, m11, m12, m13, m14, m15] (vN [h0, h1, h2, h3, h4, h5, h6, h7] t x) 12).getD 0 0) ((allN [m0, m1, m2, m3, m4, m5, m6, m7, m8, m9, m10, m11, m12, m13, m14, m15] (vN [h0, h1, h2, h3, h4, h5, h6, h7] t x) 12).getD 8 0)), xM h1 (xM ((allN [m0, m1, m2, m3, m4, m5, m6, m7, m8, m9, m10, m11, m12, m13, m14, m15] (vN [h0, h1, h2, h3, h4, h5, h6, h7] t x) 12).getD 1 0) ((allN [m0, m1, m2, m3, m4, m5, m6, m7, m8, m9, m10, m11, m12, m13, m14, m15] (vN [h0, h1, h2, h3, h4, h5, h6, h7] t x) 12).getD 9 0)), xM h2 (xM ((allN [m0, m1, m2, m3, m4, m5, m6, m7, m8, m9, m10, m11, m12, m13, m14, m15] (vN [h0, h1, h2, h3, h4, h5, h6, h7] t x) 12).getD 2 0) ((allN [m0, m1, m2, m3, m4, m5, m6, m7, m8, m9, m10, m11, m12, m13, m14, m15] (vN [h0, h1, h2, h3, h4, h5, h6, h7] t x) 12).getD 10 0)), xM h3 (xM ((allN [m0, m1, m2, m3, m4, m5, m6, m7, m8, m9, m10, m11, m12, m13, m14, m15] (vN [h0, h1, h2, h3, h4, h5, h6, h7] t x) 12).getD 3 0) ((allN [m0, m1, m2, m3, m4, m5, m6, m7, m8, m9, m10, m11, m12, m13, m14, m15] (vN [h0, h1, h2, h3, h4, h5, h6, h7] t x) 12).getD 11 0)), xM h4 (xM ((allN [m0, m1, m2, m3, m4, m5, m6, m7, m8, m9, m10, m11, m12, m13, m14, m15] (vN [h0, h1, h2, h3, h4, h5, h6, h7] t x) 12).getD 4 0) ((allN [m0, m1, m2, m3, m4, m5, m6, m7, m8, m9, m10, m11, m12, m13, m14, m15] (vN [h0, h1, h2, h3, h4, h5, h6, h7] t x) 12).getD 12 0)), xM h5 (xM ((allN [m0, m1, m2, m3, m4, m5, m6, m7, m8, m9, m10, m11, m12, m13, m14, m15] (vN [h0, h1, h2, h3, h4, h5, h6, h7] t x) 12).getD 5 0) ((allN [m0, m1, m2, m3, m4, m5, m6, m7, m8, m9, m10, m11, m12, m13, m14, m15] (vN [h0, h1, h2, h3, h4, h5, h6, h7] t x) 12).getD 13 0)), xM h6 (xM ((allN [m0, m1, m2, m3, m4, m5, m6, m7, m8, m9, m10, m11, m12, m13, m14, m15] (vN [h0, h1, h2, h3, h4, h5, h6, h7] t x) 12).getD 6 0) ((allN [m0, m1, m2, m3, m4, m5, m6, m7, m8, m9, m10, m11, m12, m13, m14, m15] (vN [h0, h1, h2, h3, h4, h5, h6, h7] t x) 12).getD 14 0)), xM h7 (xM ((allN [m0, m1, m2, m3, m4, m5, m6, m7, m8, m9, m10, m11, m12, m13, m14, m15] (vN [h0, h1, h2, h3, h4, h5, h6, h7] t x) 12).getD 7 0) ((allN [m0, m1, m2, m3, m4, m5, m6, m7, m8, m9, m10, m11, m12, m13, m14, m15] (vN [h0, h1, h2, h3, h4, h5, h6, h7] t x) 12).getD 15 0))] := by
    unfold pieceN; rw [hw]; rfl
  have ev : vN [h0, h1, h2, h3, h4, h5, h6, h7] t x = [h0, h1, h2, h3, h4, h5, h6, h7, 7640891576956012808, 13503953896175478587, 4354685564936845355, 11912009170470909681, xM 5840696475078001361 t, 11170449401992604703, xM x 2270897969802886507, 6620516959819538809] := rfl
  rw [ev] at e
  rw [e, hw]
  simp only [un16, un8n, hd_cons, fc_eq, roundsC_app]
theorem out_zc (h0 h1 h2 h3 h4 h5 h6 h7 v0 v1 v2 v3 v4 v5 v6 v7 v8 v9 v10 v11 v12 v13 v14 v15 : Nat) : outAt (zc [h0, h1, h2, h3, h4, h5, h6, h7]) (zc [v0, v1, v2, v3, v4, v5, v6, v7, v8, v9, v10, v11, v12, v13, v14, v15]) 8 = zc [xM h0 (xM v0 v8), xM h1 (xM v1 v9), xM h2 (xM v2 v10), xM h3 (xM v3 v11), xM h4 (xM v4 v12), xM h5 (xM v5 v13), xM h6 (xM v6 v14), xM h7 (xM v7 v15)] := by
  simp only [outAt, zc, List.map_cons, List.map_nil, List.set_cons_zero, List.set_cons_succ, List.getD_cons_zero, List.getD_cons_succ, Nat.reduceAdd, xor_cast]
theorem vinit_f (h0 h1 h2 h3 h4 h5 h6 h7 t : Nat) : vInit (zc [h0, h1, h2, h3, h4, h5, h6, h7]) (t : Int) false = zc (vN [h0, h1, h2, h3, h4, h5, h6, h7] t 0) := by
  have h := xor_cast 5840696475078001361 t
  have e : xM 0 2270897969802886507 = 2270897969802886507 := by decide
  simp only [Int.cast_ofNat_Int] at h
  unfold vInit vN firstL
  simp only [Bool.false_eq_true, if_false, zc, List.map_cons, List.map_nil, List.cons_append, List.nil_append, List.set_cons_zero, List.set_cons_succ, List.getD_cons_zero, List.getD_cons_succ, h, e, Int.cast_ofNat_Int]
theorem vinit_t (h0 h1 h2 h3 h4 h5 h6 h7 t : Nat) : vInit (zc [h0, h1, h2, h3, h4, h5, h6, h7]) (t : Int) true = zc (vN [h0, h1, h2, h3, h4, h5, h6, h7] t 18446744073709551615) := by
  have h := xor_cast 5840696475078001361 t
  have h2 := xor_cast 18446744073709551615 2270897969802886507
  simp only [Int.cast_ofNat_Int] at h h2
  have hm : IntKind.u64.max = 18446744073709551615 := rfl
  unfold vInit vN firstL
  simp only [if_true, hm, zc, List.map_cons, List.map_nil, List.cons_append, List.nil_append, List.set_cons_zero, List.set_cons_succ, List.getD_cons_zero, List.getD_cons_succ, h, h2, Int.cast_ofNat_Int]
theorem piece_zc {h p : List Nat} (hh : h.length = 8) (hp : BtN p) (t : Nat) (last : Bool) : pieceL (zc h) (zc p) (t : Int) last = zc (pieceN h p t (if last = true then 18446744073709551615 else 0)) := by
  obtain ⟨h0, h1, h2, h3, h4, h5, h6, h7, rfl⟩ := ex8 hh
  unfold pieceL
  rw [words_zc hp]
  have hv : vInit (zc [h0, h1, h2, h3, h4, h5, h6, h7]) (t : Int) last = zc (vN [h0, h1, h2, h3, h4, h5, h6, h7] t (if last = true then 18446744073709551615 else 0)) := by
    cases last
    · exact vinit_f _ _ _ _ _ _ _ _ _
    · exact vinit_t _ _ _ _ _ _ _ _ _
  rw [hv, all_zc]
  obtain ⟨x, hx⟩ : ∃ x, (if last = true then 18446744073709551615 else 0) = x := ⟨_, rfl⟩
  rw [hx]
  have hl : (allN (wordsN 16 p) (vN [h0, h1, h2, h3, h4, h5, h6, h7] t x) 12).length = 16 := by rw [allN_len]; rfl
  obtain ⟨v0, v1, v2, v3, v4, v5, v6, v7, v8, v9, v10, v11, v12, v13, v14, v15, hw⟩ := ex16 hl
  have e : pieceN [h0, h1, h2, h3, h4, h5, h6, h7] p t x = [xM h0 (xM v0 v8), xM h1 (xM v1 v9), xM h2 (xM v2 v10), xM h3 (xM v3 v11), xM h4 (xM v4 v12), xM h5 (xM v5 v13), xM h6 (xM v6 v14), xM h7 (xM v7 v15)] := by
    unfold pieceN; rw [hw]; rfl
  rw [e, hw, out_zc]
end Go.Proofs.Ytfnfmbikooeiaaa

namespace Go.Proofs.Ytfnfmbikooeiaaa
open Go.Ax
def F40 : List AV → Option AV
  | [.arr 128 .u64 x, .arr 128 .u64 y] => oguard (x.length = 128 ∧ y.length = 128) (some (.arr 128 .u64 (pagesL x y)))
  | _ => none
theorem F40_eq (x y : List Int) : F40 [.arr 128 .u64 x, .arr 128 .u64 y] = oguard (x.length = 128 ∧ y.length = 128) (some (.arr 128 .u64 (pagesL x y))) := rfl
def F41 : List AV → Option AV
  | [.arr 128 .u64 x, .arr 128 .u64 y] => oguard (x.length = 128 ∧ y.length = 128) (some (.arr 128 .u64 (rpagesL x y)))
  | _ => none
theorem F41_eq (x y : List Int) : F41 [.arr 128 .u64 x, .arr 128 .u64 y] = oguard (x.length = 128 ∧ y.length = 128) (some (.arr 128 .u64 (rpagesL x y))) := rfl
noncomputable def pageB (p : List Int) : List Int := Classical.choose (p := fun l => l = bytesP p 1024) ⟨_, rfl⟩
theorem pageB_eq (p : List Int) : pageB p = bytesP p 1024 := Classical.choose_spec (p := fun l => l = bytesP p 1024) ⟨_, rfl⟩
theorem pageB_len (p : List Int) : (pageB p).length = 1024 := by rw [pageB_eq, bytesP_len]
theorem pageB_take (p : List Int) : (pageB p).take 1024 = pageB p := List.take_of_length_le (by rw [pageB_len]; omega)
noncomputable def pageOf (b : List Int) : List Int := Classical.choose (p := fun l => l = rpageK b 1024) ⟨_, rfl⟩
theorem pageOf_eq (b : List Int) : pageOf b = rpageK b 1024 := Classical.choose_spec (p := fun l => l = rpageK b 1024) ⟨_, rfl⟩
theorem pageOf_len (b : List Int) : (pageOf b).length = 128 := by rw [pageOf_eq, rpageK_len]
theorem pageOf_take (b : List Int) : (pageOf b).take 128 = pageOf b := take128 (pageOf_len b)
noncomputable def N36 (h : List Blk) : List AV → Option Out
  | [.arr 128 .u64 p] => oguard (p.length = 128) (some (.cap 0 fun c => (.sl h.length 0 1 0 1024 c, h ++ [some [.arr 1024 .u8 (pageB p)]])))
  | _ => none
theorem N36_eq (h : List Blk) (p : List Int) : N36 h [.arr 128 .u64 p] = oguard (p.length = 128) (some (.cap 0 fun c => (.sl h.length 0 1 0 1024 c, h ++ [some [.arr 1024 .u8 (pageB p)]]))) := rfl
noncomputable def pageO (h : List Blk) (b : List Int) : Option Out :=
  osel (decide (b.length = 1024)) (some (.one (.tup [.arr 128 .u64 (pageOf b), .v (.int .i64 0)]) h))
    (some (.one (.tup [.arr 128 .u64 (List.replicate 128 0), .v (.int .i64 1)]) h))
noncomputable def N37 (h : List Blk) : List AV → Option Out
  | [m] => (u8Of h m).bind (pageO h)
  | _ => none
theorem N37_eq (h : List Blk) (m : AV) : N37 h [m] = (u8Of h m).bind (pageO h) := rfl
noncomputable def p11 : FuncId → Option (List AV → Option AV) := addPure (addPure p10 40 F40) 41 F41
noncomputable def n11 : FuncId → Option (List Blk → List AV → Option Out) := addNews (addNews (addNews (addNews n10 36 N36) 39 N36) 37 N37) 38 N37
noncomputable def c17 (k : Nat) : Cfg := ⟨Try.prog, k, p11, [], n11, none, []⟩
theorem c17_odd (k : Nat) : (c17 k).odd = [] := rfl
theorem c17_ro (k : Nat) : (c17 k).ro = [] := rfl
theorem c17_P (k : Nat) : (c17 k).P = Try.prog := rfl
theorem c17_pure (k : Nat) : (c17 k).pure = p11 := rfl
theorem c17_news (k : Nat) : (c17 k).news = n11 := rfl
theorem xc17 :
  (type_of% @Go.Proofs.Ytfnfmbikooeiaaa.c17_pure) ∧
  (type_of% @Go.Proofs.Ytfnfmbikooeiaaa.c17_news) ∧
  (type_of% @p11.eq_1) ∧
  (type_of% @Go.Proofs.Ytfnfmbikooeiaaa.F40_eq) ∧
  (type_of% @Go.Proofs.Ytfnfmbikooeiaaa.F41_eq) ∧
  (type_of% @n11.eq_1) ∧
  (type_of% @Go.Proofs.Ytfnfmbikooeiaaa.N36_eq) ∧
  (type_of% @Go.Proofs.Ytfnfmbikooeiaaa.N37_eq) ∧
  (type_of% @Go.Proofs.Ytfnfmbikooeiaaa.pageO.eq_1) :=
  ⟨@Go.Proofs.Ytfnfmbikooeiaaa.c17_pure, @Go.Proofs.Ytfnfmbikooeiaaa.c17_news, @p11.eq_1, @Go.Proofs.Ytfnfmbikooeiaaa.F40_eq, @Go.Proofs.Ytfnfmbikooeiaaa.F41_eq, @n11.eq_1, @Go.Proofs.Ytfnfmbikooeiaaa.N36_eq, @Go.Proofs.Ytfnfmbikooeiaaa.N37_eq, @Go.Proofs.Ytfnfmbikooeiaaa.pageO.eq_1⟩
theorem go17 {F A B : Prop} (f : F) (b : B) (h : F → A = B := by intro f; (repeat (first | simp only [c17_P, c17_odd, c17_ro, Nat.reduceBEq, reduceIte, Nat.reduceEqDiff, reduceCtorEq, ne_eq, if_true, if_false, exA, exA, tabs, exB, exD, buildA, rowOr, rowSetAt, rowAgg, mkAgg, AV.isAggV, AV.parts, AV.one, AV.solid, headSize, indexAddrA, indexA, fieldAddrA, fieldA, sliceA, boundsA, bndA, lenA, arrayAtA, rowOf, makeSliceA, intsOf, copyA, Nat.reduceAdd, Nat.reduceSub, Nat.reduceMul, Nat.reduceLeDiff, Nat.reduceLT, Nat.reduceGT, Int.reduceToNat, Int.reduceLE, Int.reduceLT, Int.reduceEq, Int.reduceNe, Int.reduceAdd, Int.reduceSub, Int.reduceMul, Int.reduceNeg, ite_true, ite_false, dite_true, xc10, xc11, xc12, xc13, xc14, xc15, xc16, xc17, run_range, exR, f] | simp (maxSteps := 1000000) (disch := omega) only [exE, Int.toNat_natCast, Int.reduceToNat])); all_goals rfl) : A := Eq.mpr (h f) b
theorem ACall.bare {f : FuncId} {args : List AV} {v0 : AV} (hv : ∀ g, v0.ren g = v0) (hc : ACall Try.prog f args [] fun v _ => v = v0) : ACall Try.prog f args [] fun v h' => v = v0 ∧ h' = [] := by
  refine ACall.weak (C := c16 0) rfl hc ?_
  rintro v h' rfl
  exact ⟨_, _, weak_gc' (L := [(0, v)]) [] (by decide) (by simp) (by rfl) rfl ⟨by rw [hv]; rfl, trivial⟩, rfl, rfl⟩
theorem bytes_news {f : FuncId} (hs : ∀ p : List Int, p.length = 128 → ACall Try.prog f [.arr 128 .u64 p] [] fun v h' => ∃ c, v = .sl 0 0 1 0 1024 c ∧ h' = [some [.arr 1024 .u8 (bytesP p 1024)]])
    (h : List Blk) (args : List AV) (out : Out) (hN : N36 h args = some out) : (out.all fun _ h' => ∃ ext, h' = h ++ ext) ∧ ∀ κ, out.all κ → ACall Try.prog f args h κ := by
  unfold N36 at hN
  split at hN
  · rename_i p
    obtain ⟨hp, hN⟩ := oguard_some hN
    cases hN
    refine ⟨fun c _ => ⟨_, rfl⟩, fun κ hκ => news_ok (args := [.arr 128 .u64 p]) (hs p hp) (by rintro _ _ ⟨c, rfl, rfl⟩; exact ⟨rfl, rfl⟩) (fun g => rfl) ⟨Frz.same _, trivial⟩ ?_ hκ⟩
    rintro _ _ ⟨c, rfl, rfl⟩
    exact ⟨c, Nat.zero_le _, by rw [pageB_eq]; rfl⟩
  · cases hN
theorem page_news {f : FuncId} (hs : ∀ b : List Int, b.length = 1024 → ACall Try.prog f [.roI .u8 b] [] fun v _ => v = .tup [.arr 128 .u64 (rpageK b 1024), .v (.int .i64 0)])
    (hb : ∀ b : List Int, b.length ≠ 1024 → ACall Try.prog f [.roI .u8 b] [] fun v _ => v = .tup [.arr 128 .u64 (List.replicate 128 0), .v (.int .i64 1)])
    (h : List Blk) (args : List AV) (out : Out) (hN : N37 h args = some out) : (out.all fun _ h' => ∃ ext, h' = h ++ ext) ∧ ∀ κ, out.all κ → ACall Try.prog f args h κ := by
  unfold N37 at hN
  split at hN
  · rename_i m
    obtain ⟨b, hm, hN⟩ := Option.bind_eq_some_iff.1 hN
    unfold pageO at hN
    by_cases hl : b.length = 1024
    · rw [osel_pos (decide_eq_true hl)] at hN
      cases hN
      rw [pageOf_eq]
      refine ⟨⟨[], by simp⟩, fun κ hκ => news_ok (args := [m]) (ACall.bare (fun g => rfl) (hs b hl)) (by rintro _ _ ⟨rfl, rfl⟩; exact ⟨rfl, rfl⟩) (fun g => rfl) ⟨u8Of_frz hm, trivial⟩ ?_ hκ⟩
      rintro _ _ ⟨rfl, rfl⟩
      exact ⟨rfl, by simp⟩
    · rw [osel_neg (decide_eq_false hl)] at hN
      cases hN
      refine ⟨⟨[], by simp⟩, fun κ hκ => news_ok (args := [m]) (ACall.bare (fun g => rfl) (hb b hl)) (by rintro _ _ ⟨rfl, rfl⟩; exact ⟨rfl, rfl⟩) (fun g => rfl) ⟨u8Of_frz hm, trivial⟩ ?_ hκ⟩
      rintro _ _ ⟨rfl, rfl⟩
      exact ⟨rfl, by simp⟩
  · cases hN
theorem good17 (k : Nat) : (c17 k).Good := by
  refine Cfg.Good.addN (Cfg.Good.addN (Cfg.Good.addN (Cfg.Good.addN (Cfg.Good.add (Cfg.Good.add (good16 k) ?_ k) ?_ k) ?_ k) ?_ k) ?_ k) ?_ k
  · intro args v hF h κ hκ
    unfold F40 at hF
    split at hF
    · obtain ⟨⟨h1, h2⟩, hF⟩ := oguard_some hF
      cases hF
      exact pure_call (mpages_spec _ _ h1 h2) (fun g => rfl) (fun g => rfl) h κ hκ
    · cases hF
  · intro args v hF h κ hκ
    unfold F41 at hF
    split at hF
    · obtain ⟨⟨h1, h2⟩, hF⟩ := oguard_some hF
      cases hF
      exact pure_call (rpages_spec _ _ h1 h2) (fun g => rfl) (fun g => rfl) h κ hκ
    · cases hF
  · exact fun h args out hN => bytes_news mbytes_spec h args out hN
  · exact fun h args out hN => bytes_news rbytes_spec h args out hN
  · exact fun h args out hN => page_news mpage_spec mpage_bad h args out hN
  · exact fun h args out hN => page_news rpage_spec rpage_bad h args out hN
theorem rpage_zero (n : Nat) : ∀ i, rpageK (List.replicate n 0) i = List.replicate 128 0
  | 0 => rfl
  | i + 1 => by
    have hz : List.replicate 128 (0 : Int) = List.replicate (List.replicate 128 (0 : Int)).length 0 := by simp
    have h0 : (List.replicate n (0 : Int)).getD i 0 = 0 := by
      rw [List.getD_eq_getElem?_getD, List.getElem?_replicate]
      split <;> rfl
    simp only [rpageK, wordB]
    rw [rpage_zero n i, h0, zero_at hz]
    refine set_zero hz _ ?_
    have : shl IntKind.u64 (IntKind.u64.wrap 0) ((8 * (i % 8) : Nat) : Int) = 0 := by
      unfold shl
      simp [wrap_u64']
    rw [this]; rfl
end Go.Proofs.Ytfnfmbikooeiaaa

namespace Go.Proofs.Ytfnfmbikooeiaaa
open Go.Ax
theorem mix_lives : ACall Try.prog 33 [] [] fun v _ => v = .v (.bool true) := by
  have hz : pageOf (List.replicate 1024 0) = List.replicate 128 0 := by rw [pageOf_eq]; exact rpage_zero 1024 1024
  have hw1 : (((whichN 10 0 : Nat) : Int) == 9) = true := by decide +kernel
  have hw2 : (((whichN 10 4294967295 : Nat) : Int) == 0) = true := by decide +kernel
  have ht1 : List.take 1024 (List.replicate 1024 (0 : Int)) = List.replicate 1024 0 := List.take_of_length_le (by simp)
  have ht2 : List.take 128 (List.replicate 128 (0 : Int)) = List.replicate 128 0 := List.take_of_length_le (by simp)
  refine bd (good17 0) Try.func33 ?_
  refine go17 (an hz (an hw1 (an hw2 (an ht1 ht2)))) ?_
  intro c _
  refine go17 (an hz (an hw1 (an hw2 (an ht1 ht2)))) ?_
  intro c1 _
  exact go17 (an hz (an hw1 (an hw2 (an ht1 ht2)))) trivial
end Go.Proofs.Ytfnfmbikooeiaaa

namespace Go.Proofs.Ytfnfmbikooeiaaa
open Go.Ax
theorem within_spec (n a b : Int) : ACall Try.prog 66 [.v (.int .i64 n), .v (.int .i64 a), .v (.int .i64 b)] [] fun v _ => v = .v (.bool (decide (a ≤ n ∧ n ≤ b))) := by
  by_cases h : a ≤ n
  · have e : decide (a ≤ n ∧ n ≤ b) = decide (n ≤ b) := by simp [h]
    rw [e]
    refine bd (good17 0) Try.func66 ?_
    exact go17 nf trivial
  · have e : decide (a ≤ n ∧ n ≤ b) = false := by simp [h]
    rw [e]
    refine bd (good17 0) Try.func66 ?_
    exact go17 nf trivial
def F66 : List AV → Option AV
  | [.v (.int .i64 n), .v (.int .i64 a), .v (.int .i64 b)] => some (.v (.bool (decide (a ≤ n ∧ n ≤ b))))
  | _ => none
theorem F66_eq (n a b : Int) : F66 [.v (.int .i64 n), .v (.int .i64 a), .v (.int .i64 b)] = some (.v (.bool (decide (a ≤ n ∧ n ≤ b)))) := rfl
theorem afour_spec (n : Int) : ACall Try.prog 67 [.v (.int .i64 n)] [] fun v h' => v = .sl 0 0 1 0 4 4 ∧ h' = [some [.arr 4 .u8 (le4 n)]] := by
  refine bd (good17 0) Try.func67 ?_
  refine go17 nf ?_
  rfl
def N67 (h : List Blk) : List AV → Option Out
  | [.v (.int .i64 n)] => some (.one (.sl h.length 0 1 0 4 4) (h ++ [some [.arr 4 .u8 (le4 n)]]))
  | _ => none
theorem N67_eq (h : List Blk) (n : Int) : N67 h [.v (.int .i64 n)] = some (.one (.sl h.length 0 1 0 4 4) (h ++ [some [.arr 4 .u8 (le4 n)]])) := rfl
noncomputable def p20 : FuncId → Option (List AV → Option AV) := addPure p11 66 F66
noncomputable def n20 : FuncId → Option (List Blk → List AV → Option Out) := addNews n11 67 N67
noncomputable def c20 (k : Nat) : Cfg := ⟨Try.prog, k, p20, [], n20, none, []⟩
theorem c20_odd (k : Nat) : (c20 k).odd = [] := rfl
theorem c20_ro (k : Nat) : (c20 k).ro = [] := rfl
theorem c20_P (k : Nat) : (c20 k).P = Try.prog := rfl
theorem c20_pure (k : Nat) : (c20 k).pure = p20 := rfl
theorem c20_news (k : Nat) : (c20 k).news = n20 := rfl
theorem xc20 :
  (type_of% @Go.Proofs.Ytfnfmbikooeiaaa.c20_pure) ∧
  (type_of% @Go.Proofs.Ytfnfmbikooeiaaa.c20_news) ∧
  (type_of% @p20.eq_1) ∧
  (type_of% @Go.Proofs.Ytfnfmbikooeiaaa.F66_eq) ∧
  (type_of% @n20.eq_1) ∧
  (type_of% @Go.Proofs.Ytfnfmbikooeiaaa.N67_eq) :=
  ⟨@Go.Proofs.Ytfnfmbikooeiaaa.c20_pure, @Go.Proofs.Ytfnfmbikooeiaaa.c20_news, @p20.eq_1, @Go.Proofs.Ytfnfmbikooeiaaa.F66_eq, @n20.eq_1, @Go.Proofs.Ytfnfmbikooeiaaa.N67_eq⟩
theorem go20 {F A B : Prop} (f : F) (b : B) (h : F → A = B := by intro f; (repeat (first | simp only [c20_P, c20_odd, c20_ro, Nat.reduceBEq, reduceIte, Nat.reduceEqDiff, reduceCtorEq, ne_eq, if_true, if_false, exA, exA, tabs, exB, exD, buildA, rowOr, rowSetAt, rowAgg, mkAgg, AV.isAggV, AV.parts, AV.one, AV.solid, headSize, indexAddrA, indexA, fieldAddrA, fieldA, sliceA, boundsA, bndA, lenA, arrayAtA, rowOf, makeSliceA, intsOf, copyA, Nat.reduceAdd, Nat.reduceSub, Nat.reduceMul, Nat.reduceLeDiff, Nat.reduceLT, Nat.reduceGT, Int.reduceToNat, Int.reduceLE, Int.reduceLT, Int.reduceEq, Int.reduceNe, Int.reduceAdd, Int.reduceSub, Int.reduceMul, Int.reduceNeg, ite_true, ite_false, dite_true, xc10, xc11, xc12, xc13, xc14, xc15, xc16, xc17, xc20, run_range, exR, f] | simp (maxSteps := 1000000) (disch := omega) only [exE, Int.toNat_natCast, Int.reduceToNat])); all_goals rfl) : A := Eq.mpr (h f) b
theorem good20 (k : Nat) : (c20 k).Good := by
  refine Cfg.Good.addN (Cfg.Good.add (good17 k) ?_ k) ?_ k
  · intro args v hF h κ hκ
    unfold F66 at hF
    split at hF
    · cases hF
      exact pure_call (within_spec _ _ _) (fun g => rfl) (fun g => rfl) h κ hκ
    · cases hF
  · intro h args out hN
    unfold N67 at hN
    split at hN
    · rename_i n
      cases hN
      refine ⟨⟨_, rfl⟩, fun κ hκ => news_ok (args := [.v (.int .i64 n)]) (afour_spec n) (by rintro _ _ ⟨rfl, rfl⟩; exact ⟨rfl, rfl⟩) (fun g => rfl) ⟨Frz.same _, trivial⟩ ?_ hκ⟩
      rintro _ _ ⟨rfl, rfl⟩
      exact ⟨rfl, rfl⟩
    · cases hN
def okP (t m l : Int) : Bool := decide (1 ≤ t ∧ t ≤ 8 ∧ 1 ≤ l ∧ l ≤ 4 ∧ 8 * l ≤ m ∧ m ≤ 256)
def prm (t m l : Int) : AV := .agg [.v (.int .i64 t), .v (.int .i64 m), .v (.int .i64 l)]
def errP (b : Bool) : Int := if b = true then 0 else 80
theorem okP_no {t m l : Int} (h : ¬ (1 ≤ t ∧ t ≤ 8 ∧ 1 ≤ l ∧ l ≤ 4 ∧ 8 * l ≤ m ∧ m ≤ 256)) : errP (okP t m l) = 80 := by simp [errP, okP, h]
theorem okP_yes {t m l : Int} (h : 1 ≤ t ∧ t ≤ 8 ∧ 1 ≤ l ∧ l ≤ 4 ∧ 8 * l ≤ m ∧ m ≤ 256) : errP (okP t m l) = 0 := by simp [errP, okP, h]
theorem check_spec (t m l : Int) : ACall Try.prog 47 [.agg [.v (.int .i64 t), .v (.int .i64 m), .v (.int .i64 l)]] [] fun v _ => v = .v (.int .i64 (errP (okP t m l))) := by
  by_cases h1 : 1 ≤ t ∧ t ≤ 8
  · by_cases h2 : 1 ≤ l ∧ l ≤ 4
    · have hw : IntKind.i64.wrap (8 * l) = 8 * l := wrap_i64_id _ (by omega)
      by_cases h3 : 8 * l ≤ m ∧ m ≤ 256
      · rw [okP_yes (by omega)]
        refine bd (good20 0) Try.func47 ?_
        exact go20 hw trivial
      · rw [okP_no (by omega)]
        refine bd (good20 0) Try.func47 ?_
        exact go20 hw trivial
    · rw [okP_no (by omega)]
      refine bd (good20 0) Try.func47 ?_
      exact go20 nf trivial
  · rw [okP_no (by omega)]
    refine bd (good20 0) Try.func47 ?_
    exact go20 nf trivial
end Go.Proofs.Ytfnfmbikooeiaaa

namespace Go.Proofs.Ytfnfmbikooeiaaa
open Go.Ax
theorem rcheck_spec (t m l : Int) : ACall Try.prog 48 [.agg [.v (.int .i64 t), .v (.int .i64 m), .v (.int .i64 l)]] [] fun v _ => v = .v (.int .i64 (errP (okP t m l))) := by
  by_cases h1 : t < 1
  · rw [okP_no (by omega)]
    refine bd (good20 0) Try.func48 ?_
    exact go20 nf trivial
  by_cases h2 : 8 < t
  · rw [okP_no (by omega)]
    refine bd (good20 0) Try.func48 ?_
    exact go20 nf trivial
  by_cases h3 : l < 1
  · rw [okP_no (by omega)]
    refine bd (good20 0) Try.func48 ?_
    exact go20 nf trivial
  by_cases h4 : 4 < l
  · rw [okP_no (by omega)]
    refine bd (good20 0) Try.func48 ?_
    exact go20 nf trivial
  have hw : IntKind.i64.wrap (8 * l) = 8 * l := wrap_i64_id _ (by omega)
  by_cases h5 : m < 8 * l
  · rw [okP_no (by omega)]
    refine bd (good20 0) Try.func48 ?_
    exact go20 hw trivial
  by_cases h6 : 256 < m
  · rw [okP_no (by omega)]
    refine bd (good20 0) Try.func48 ?_
    exact go20 hw trivial
  rw [okP_yes (by omega)]
  refine bd (good20 0) Try.func48 ?_
  exact go20 hw trivial
def F47 : List AV → Option AV
  | [.agg [.v (.int .i64 t), .v (.int .i64 m), .v (.int .i64 l)]] => some (.v (.int .i64 (errP (okP t m l))))
  | _ => none
theorem F47_eq (t m l : Int) : F47 [.agg [.v (.int .i64 t), .v (.int .i64 m), .v (.int .i64 l)]] = some (.v (.int .i64 (errP (okP t m l)))) := rfl
noncomputable def p21 : FuncId → Option (List AV → Option AV) := addPure (addPure p20 47 F47) 48 F47
noncomputable def c21 (k : Nat) : Cfg := ⟨Try.prog, k, p21, [], n20, none, []⟩
theorem c21_odd (k : Nat) : (c21 k).odd = [] := rfl
theorem c21_ro (k : Nat) : (c21 k).ro = [] := rfl
theorem c21_P (k : Nat) : (c21 k).P = Try.prog := rfl
theorem c21_pure (k : Nat) : (c21 k).pure = p21 := rfl
theorem c21_news (k : Nat) : (c21 k).news = n20 := rfl
theorem xc21 :
  (type_of% @Go.Proofs.Ytfnfmbikooeiaaa.c21_pure) ∧
  (type_of% @Go.Proofs.Ytfnfmbikooeiaaa.c21_news) ∧
  (type_of% @p21.eq_1) ∧
  (type_of% @Go.Proofs.Ytfnfmbikooeiaaa.F47_eq) :=
  ⟨@Go.Proofs.Ytfnfmbikooeiaaa.c21_pure, @Go.Proofs.Ytfnfmbikooeiaaa.c21_news, @p21.eq_1, @Go.Proofs.Ytfnfmbikooeiaaa.F47_eq⟩
theorem go21 {F A B : Prop} (f : F) (b : B) (h : F → A = B := by intro f; (repeat (first | simp only [c21_P, c21_odd, c21_ro, Nat.reduceBEq, reduceIte, Nat.reduceEqDiff, reduceCtorEq, ne_eq, if_true, if_false, exA, exA, tabs, exB, exD, buildA, rowOr, rowSetAt, rowAgg, mkAgg, AV.isAggV, AV.parts, AV.one, AV.solid, headSize, indexAddrA, indexA, fieldAddrA, fieldA, sliceA, boundsA, bndA, lenA, arrayAtA, rowOf, makeSliceA, intsOf, copyA, Nat.reduceAdd, Nat.reduceSub, Nat.reduceMul, Nat.reduceLeDiff, Nat.reduceLT, Nat.reduceGT, Int.reduceToNat, Int.reduceLE, Int.reduceLT, Int.reduceEq, Int.reduceNe, Int.reduceAdd, Int.reduceSub, Int.reduceMul, Int.reduceNeg, ite_true, ite_false, dite_true, xc10, xc11, xc12, xc13, xc14, xc15, xc16, xc17, xc20, xc21, run_range, exR, f] | simp (maxSteps := 1000000) (disch := omega) only [exE, Int.toNat_natCast, Int.reduceToNat])); all_goals rfl) : A := Eq.mpr (h f) b
theorem good21 (k : Nat) : (c21 k).Good := by
  refine Cfg.Good.add (Cfg.Good.add (good20 k) ?_ k) ?_ k
  all_goals
    intro args v hF h κ hκ
    unfold F47 at hF
    split at hF
    · cases hF
      first
        | exact pure_call (check_spec _ _ _) (fun g => rfl) (fun g => rfl) h κ hκ
        | exact pure_call (rcheck_spec _ _ _) (fun g => rfl) (fun g => rfl) h κ hκ
    · cases hF
def pgN (t m l : Int) : Int := if okP t m l = true then ((m.toNat / (4 * l.toNat) * 4 * l.toNat : Nat) : Int) else 0
theorem okP_iff {t m l : Int} : okP t m l = true ↔ (1 ≤ t ∧ t ≤ 8 ∧ 1 ≤ l ∧ l ≤ 4 ∧ 8 * l ≤ m ∧ m ≤ 256) := by simp [okP]
theorem pages_spec (t m l : Int) : ACall Try.prog 49 [.agg [.v (.int .i64 t), .v (.int .i64 m), .v (.int .i64 l)]] [] fun v _ => v = .v (.int .i64 (pgN t m l)) := by
  by_cases h : okP t m l = true
  · have he : errP (okP t m l) = 0 := by rw [h]; rfl
    have hp : pgN t m l = ((m.toNat / (4 * l.toNat) * 4 * l.toNat : Nat) : Int) := by unfold pgN; rw [if_pos h]
    rw [hp]
    rw [okP_iff] at h
    obtain ⟨m, rfl⟩ := Int.eq_ofNat_of_zero_le (show 0 ≤ m by omega)
    obtain ⟨l, rfl⟩ := Int.eq_ofNat_of_zero_le (show 0 ≤ l by omega)
    refine bd (good21 0) Try.func49 ?_
    refine go21 he ?_
    refine ⟨by omega, ?_⟩
    have e1 : IntKind.i64.wrap ((m : Int) - ((m % (4 * l) : Nat) : Int)) = ((m / (4 * l) * 4 * l : Nat) : Int) := by
      have := Nat.mod_le m (4 * l)
      rw [wrap_i64_id _ (by omega)]
      rcases (by omega : l = 1 ∨ l = 2 ∨ l = 3 ∨ l = 4) with rfl | rfl | rfl | rfl <;> omega
    rw [e1]
  · have he : errP (okP t m l) = 80 := by simp [errP, h]
    have hp : pgN t m l = 0 := by unfold pgN; rw [if_neg h]
    rw [hp]
    refine bd (good21 0) Try.func49 ?_
    exact go21 he trivial
theorem rpages_spec8 (t m l : Int) : ACall Try.prog 50 [.agg [.v (.int .i64 t), .v (.int .i64 m), .v (.int .i64 l)]] [] fun v _ => v = .v (.int .i64 (pgN t m l)) := by
  by_cases h : okP t m l = true
  · have he : errP (okP t m l) = 0 := by rw [h]; rfl
    have hp : pgN t m l = ((m.toNat / (4 * l.toNat) * 4 * l.toNat : Nat) : Int) := by unfold pgN; rw [if_pos h]
    rw [hp]
    rw [okP_iff] at h
    obtain ⟨m, rfl⟩ := Int.eq_ofNat_of_zero_le (show 0 ≤ m by omega)
    obtain ⟨l, rfl⟩ := Int.eq_ofNat_of_zero_le (show 0 ≤ l by omega)
    refine bd (good21 0) Try.func50 ?_
    refine go21 he ?_
    refine ⟨by omega, ?_⟩
    have e1 : IntKind.i64.wrap (IntKind.i64.wrap (IntKind.i64.wrap ((m / (4 * l) : Nat) : Int) * 4) * (l : Int)) = ((m / (4 * l) * 4 * l : Nat) : Int) := by
      have hd : m / (4 * l) ≤ 256 := Nat.le_trans (Nat.div_le_self m (4 * l)) (by omega)
      generalize m / (4 * l) = D at hd
      have a1 : IntKind.i64.wrap (D : Int) = (D : Int) := wrap_i64_id _ (by omega)
      have a2 : IntKind.i64.wrap ((D : Int) * 4) = ((D * 4 : Nat) : Int) := by rw [wrap_i64_id _ (by omega)]; omega
      rw [a1, a2]
      rcases (by omega : l = 1 ∨ l = 2 ∨ l = 3 ∨ l = 4) with rfl | rfl | rfl | rfl <;> (rw [wrap_i64_id _ (by omega)]; omega)
    rw [e1]
  · have he : errP (okP t m l) = 80 := by simp [errP, h]
    have hp : pgN t m l = 0 := by unfold pgN; rw [if_neg h]
    rw [hp]
    refine bd (good21 0) Try.func50 ?_
    exact go21 he trivial
def F49 : List AV → Option AV
  | [.agg [.v (.int .i64 t), .v (.int .i64 m), .v (.int .i64 l)]] => some (.v (.int .i64 (pgN t m l)))
  | _ => none
theorem F49_eq (t m l : Int) : F49 [.agg [.v (.int .i64 t), .v (.int .i64 m), .v (.int .i64 l)]] = some (.v (.int .i64 (pgN t m l))) := rfl
theorem text_spec (b : List Int) (hb : b.length ≤ 274877906944) : ACall Try.prog 69 [.roI .u8 b] [] fun v h' => ∃ c, v = .sl 0 0 1 0 (4 + b.length) c ∧ h' = [some [.arr (4 + b.length) .u8 (le4 b.length ++ b)]] := by
  refine ACall.weak (C := c21 0) rfl (κ := fun v h' => ∃ c x, v = .sl 1 0 1 0 (4 + b.length) c ∧ h' = [x, some [.arr (4 + b.length) .u8 (le4 b.length ++ b)]]) ?_ ?_
  · have h4 : (le4 b.length).length = 4 := rfl
    have ht4 : (le4 b.length).take 4 = le4 b.length := rfl
    refine bd (good21 0) Try.func69 ?_
    refine go21 (an h4 ht4) ?_
    intro c _
    exact ⟨_, _, rfl, rfl⟩
  · rintro v h' ⟨c, x, rfl, rfl⟩
    exact ⟨_, _, weak_gc' [1] (by decide) (by simp) (by rfl) rfl ⟨rfl, trivial⟩, _, rfl, rfl⟩
def N69 (h : List Blk) : List AV → Option Out
  | [m] => (u8Of h m).bind fun b => oguard (b.length ≤ 274877906944) (some (.cap 0 fun c => (.sl h.length 0 1 0 (4 + b.length) c, h ++ [some [.arr (4 + b.length) .u8 (le4 b.length ++ b)]])))
  | _ => none
theorem N69_eq (h : List Blk) (m : AV) : N69 h [m] = (u8Of h m).bind fun b => oguard (b.length ≤ 274877906944) (some (.cap 0 fun c => (.sl h.length 0 1 0 (4 + b.length) c, h ++ [some [.arr (4 + b.length) .u8 (le4 b.length ++ b)]]))) := rfl
theorem of_spec (n : Nat) (b : Int) (hn : n ≤ 1048576) : ACall Try.prog 65 [.v (.int .i64 n), .v (.int .u8 b)] [] fun v h' => v = .sl 0 0 1 0 n n ∧ h' = [some [.arr n .u8 (List.replicate n b)]] := by
  have hset : ∀ i, i < n → (List.replicate i b ++ List.replicate (n - i) 0).set i b = List.replicate (i + 1) b ++ List.replicate (n - (i + 1)) 0 := by
    intro i hi
    rw [List.set_append_right _ _ (by simp), List.length_replicate, Nat.sub_self, show n - i = (n - (i + 1)) + 1 by omega, List.replicate_succ, List.set_cons_zero, List.replicate_succ', List.append_assoc]; rfl
  refine bd (good21 0) Try.func65 ?_
  refine go21 nf ?_
  repeat with_reducible refine gd ?_
  refine loop_count (good21 0) (fun i => ⟨envL [(0, .v (.int .i64 n)), (1, .v (.int .u8 b)), (5, .sl 0 0 1 0 n n), (6, .v (.int .i64 i))], [some [.arr n .u8 (List.replicate i b ++ List.replicate (n - i) 0)]]⟩) n (by kernel_rfl) ?_ ?_ ?_
  · have e0 : List.replicate 0 b ++ List.replicate (n - 0) 0 = List.replicate n 0 := rfl
    exact wk e0
  · intro i hi
    refine go21 (hset i hi) ?_
    repeat with_reducible refine gd ?_
    exact wk (hset i hi)
  · have en : List.replicate n b ++ List.replicate (n - n) 0 = List.replicate n b := by simp
    exact go21 en trivial
def N65 (h : List Blk) : List AV → Option Out
  | [.v (.int .i64 n), .v (.int .u8 b)] => oguard (0 ≤ n ∧ n ≤ 1048576) (some (.one (.sl h.length 0 1 0 n.toNat n.toNat) (h ++ [some [.arr n.toNat .u8 (List.replicate n.toNat b)]])))
  | _ => none
theorem N65_eq (h : List Blk) (n b : Int) : N65 h [.v (.int .i64 n), .v (.int .u8 b)] = oguard (0 ≤ n ∧ n ≤ 1048576) (some (.one (.sl h.length 0 1 0 n.toNat n.toNat) (h ++ [some [.arr n.toNat .u8 (List.replicate n.toNat b)]]))) := rfl
end Go.Proofs.Ytfnfmbikooeiaaa

namespace Go.Proofs.Ytfnfmbikooeiaaa
open Go.Ax
noncomputable def p22 : FuncId → Option (List AV → Option AV) := addPure (addPure p21 49 F49) 50 F49
noncomputable def n22 : FuncId → Option (List Blk → List AV → Option Out) := addNews (addNews n20 69 N69) 65 N65
noncomputable def c22 (k : Nat) : Cfg := ⟨Try.prog, k, p22, [], n22, none, []⟩
theorem c22_odd (k : Nat) : (c22 k).odd = [] := rfl
theorem c22_ro (k : Nat) : (c22 k).ro = [] := rfl
theorem c22_P (k : Nat) : (c22 k).P = Try.prog := rfl
theorem c22_pure (k : Nat) : (c22 k).pure = p22 := rfl
theorem c22_news (k : Nat) : (c22 k).news = n22 := rfl
theorem xc22 :
  (type_of% @Go.Proofs.Ytfnfmbikooeiaaa.c22_pure) ∧
  (type_of% @Go.Proofs.Ytfnfmbikooeiaaa.c22_news) ∧
  (type_of% @p22.eq_1) ∧
  (type_of% @Go.Proofs.Ytfnfmbikooeiaaa.F49_eq) ∧
  (type_of% @n22.eq_1) ∧
  (type_of% @Go.Proofs.Ytfnfmbikooeiaaa.N69_eq) ∧
  (type_of% @Go.Proofs.Ytfnfmbikooeiaaa.N65_eq) :=
  ⟨@Go.Proofs.Ytfnfmbikooeiaaa.c22_pure, @Go.Proofs.Ytfnfmbikooeiaaa.c22_news, @p22.eq_1, @Go.Proofs.Ytfnfmbikooeiaaa.F49_eq, @n22.eq_1, @Go.Proofs.Ytfnfmbikooeiaaa.N69_eq, @Go.Proofs.Ytfnfmbikooeiaaa.N65_eq⟩
theorem go22 {F A B : Prop} (f : F) (b : B) (h : F → A = B := by intro f; (repeat (first | simp only [c22_P, c22_odd, c22_ro, Nat.reduceBEq, reduceIte, Nat.reduceEqDiff, reduceCtorEq, ne_eq, if_true, if_false, exA, exA, tabs, exB, exD, buildA, rowOr, rowSetAt, rowAgg, mkAgg, AV.isAggV, AV.parts, AV.one, AV.solid, headSize, indexAddrA, indexA, fieldAddrA, fieldA, sliceA, boundsA, bndA, lenA, arrayAtA, rowOf, makeSliceA, intsOf, copyA, Nat.reduceAdd, Nat.reduceSub, Nat.reduceMul, Nat.reduceLeDiff, Nat.reduceLT, Nat.reduceGT, Int.reduceToNat, Int.reduceLE, Int.reduceLT, Int.reduceEq, Int.reduceNe, Int.reduceAdd, Int.reduceSub, Int.reduceMul, Int.reduceNeg, ite_true, ite_false, dite_true, xc10, xc11, xc12, xc13, xc14, xc15, xc16, xc17, xc20, xc21, xc22, run_range, exR, f] | simp (maxSteps := 1000000) (disch := omega) only [exE, Int.toNat_natCast, Int.reduceToNat])); all_goals rfl) : A := Eq.mpr (h f) b
theorem good22 (k : Nat) : (c22 k).Good := by
  refine Cfg.Good.addN (Cfg.Good.addN (Cfg.Good.add (Cfg.Good.add (good21 k) ?_ k) ?_ k) ?_ k) ?_ k
  · intro args v hF h κ hκ
    unfold F49 at hF
    split at hF
    · cases hF
      exact pure_call (pages_spec _ _ _) (fun g => rfl) (fun g => rfl) h κ hκ
    · cases hF
  · intro args v hF h κ hκ
    unfold F49 at hF
    split at hF
    · cases hF
      exact pure_call (rpages_spec8 _ _ _) (fun g => rfl) (fun g => rfl) h κ hκ
    · cases hF
  · intro h args out hN
    unfold N69 at hN
    split at hN
    · rename_i m
      obtain ⟨b, hm, hN⟩ := Option.bind_eq_some_iff.1 hN
      obtain ⟨h2, hN⟩ := oguard_some hN
      cases hN
      refine ⟨fun c _ => ⟨_, rfl⟩, fun κ hκ => news_ok (args := [m]) (text_spec b h2) (by rintro _ _ ⟨c, rfl, rfl⟩; exact ⟨rfl, rfl⟩) (fun g => rfl) ⟨u8Of_frz hm, trivial⟩ ?_ hκ⟩
      rintro _ _ ⟨c, rfl, rfl⟩
      exact ⟨c, Nat.zero_le _, rfl⟩
    · cases hN
  · intro h args out hN
    unfold N65 at hN
    split at hN
    · rename_i n b
      obtain ⟨⟨h1, h2⟩, hN⟩ := oguard_some hN
      cases hN
      obtain ⟨n, rfl⟩ := Int.eq_ofNat_of_zero_le h1
      refine ⟨⟨_, rfl⟩, fun κ hκ => news_ok (args := [.v (.int .i64 n), .v (.int .u8 b)]) (of_spec n b (by omega)) (by rintro _ _ ⟨rfl, rfl⟩; exact ⟨rfl, rfl⟩) (fun g => rfl) ⟨Frz.same _, Frz.same _, trivial⟩ ?_ hκ⟩
      rintro _ _ ⟨rfl, rfl⟩
      exact ⟨rfl, rfl⟩
    · cases hN
def okS (n t m l : Int) (a b c d : List Int) : Bool :=
  decide (4 ≤ n ∧ n ≤ 128 ∧ okP t m l = true ∧ a.length ≤ 512 ∧ 8 ≤ b.length ∧ b.length ≤ 64 ∧ c.length ≤ 64 ∧ d.length ≤ 64)
theorem errP_beq (b : Bool) : (errP b == 0) = b := by cases b <;> rfl
theorem errP_bne (b : Bool) : (errP b != 0) = !b := by cases b <;> rfl
def SEC (n t m l : Int) (a b c d : List Int) : List AV :=
  [.v (.int .i64 n), .agg [.v (.int .i64 t), .v (.int .i64 m), .v (.int .i64 l)], .agg [.roI .u8 a, .roI .u8 b, .roI .u8 c, .roI .u8 d]]
theorem aright_spec (n t m l : Int) (a b c d : List Int) : ACall Try.prog 68 [.v (.int .i64 n), .agg [.v (.int .i64 t), .v (.int .i64 m), .v (.int .i64 l)], .agg [.roI .u8 a, .roI .u8 b, .roI .u8 c, .roI .u8 d]] [] fun v _ => v = .v (.bool (okS n t m l a b c d)) := by
  by_cases k0 : 4 ≤ n
  rotate_left
  · have hn : okS n t m l a b c d = false := by simp [okS, k0]
    skip
    rw [hn]
    refine bd (good22 0) Try.func68 ?_
    exact go22 (an @errP_beq @errP_bne) trivial
  by_cases k1 : n ≤ 128
  rotate_left
  · have hn : okS n t m l a b c d = false := by simp [okS, k1]
    skip
    rw [hn]
    refine bd (good22 0) Try.func68 ?_
    exact go22 (an @errP_beq @errP_bne) trivial
  by_cases k2 : okP t m l = true
  rotate_left
  · have hn : okS n t m l a b c d = false := by simp [okS, k2]
    have kb : okP t m l = false := by simpa using k2
    rw [hn]
    refine bd (good22 0) Try.func68 ?_
    exact go22 (an @errP_beq (an @errP_bne kb)) trivial
  by_cases k3 : a.length ≤ 512
  rotate_left
  · have hn : okS n t m l a b c d = false := by simp [okS, k3]
    skip
    rw [hn]
    refine bd (good22 0) Try.func68 ?_
    exact go22 (an @errP_beq (an @errP_bne k2)) trivial
  by_cases k4 : 8 ≤ b.length
  rotate_left
  · have hn : okS n t m l a b c d = false := by simp [okS, k4]
    skip
    rw [hn]
    refine bd (good22 0) Try.func68 ?_
    exact go22 (an @errP_beq (an @errP_bne k2)) trivial
  by_cases k5 : b.length ≤ 64
  rotate_left
  · have hn : okS n t m l a b c d = false := by simp [okS, k5]
    skip
    rw [hn]
    refine bd (good22 0) Try.func68 ?_
    exact go22 (an @errP_beq (an @errP_bne k2)) trivial
  by_cases k6 : c.length ≤ 64
  rotate_left
  · have hn : okS n t m l a b c d = false := by simp [okS, k6]
    skip
    rw [hn]
    refine bd (good22 0) Try.func68 ?_
    exact go22 (an @errP_beq (an @errP_bne k2)) trivial
  by_cases k7 : d.length ≤ 64
  rotate_left
  · have hn : okS n t m l a b c d = false := by simp [okS, k7]
    skip
    rw [hn]
    refine bd (good22 0) Try.func68 ?_
    exact go22 (an @errP_beq (an @errP_bne k2)) trivial
  have hn : okS n t m l a b c d = true := by simp [okS, k0, k1, k2, k3, k4, k5, k6, k7]
  rw [hn]
  refine bd (good22 0) Try.func68 ?_
  exact go22 (an @errP_beq (an @errP_bne k2)) trivial
end Go.Proofs.Ytfnfmbikooeiaaa

namespace Go.Proofs.Ytfnfmbikooeiaaa
open Go.Ax
def F68 : List AV → Option AV
  | [.v (.int .i64 n), .agg [.v (.int .i64 t), .v (.int .i64 m), .v (.int .i64 l)], .agg [.roI .u8 a, .roI .u8 b, .roI .u8 c, .roI .u8 d]] => some (.v (.bool (okS n t m l a b c d)))
  | _ => none
theorem F68_eq (n t m l : Int) (a b c d : List Int) : F68 [.v (.int .i64 n), .agg [.v (.int .i64 t), .v (.int .i64 m), .v (.int .i64 l)], .agg [.roI .u8 a, .roI .u8 b, .roI .u8 c, .roI .u8 d]] = some (.v (.bool (okS n t m l a b c d))) := rfl
noncomputable def p23 : FuncId → Option (List AV → Option AV) := addPure p22 68 F68
noncomputable def c23 (k : Nat) : Cfg := ⟨Try.prog, k, p23, [], n22, none, []⟩
theorem c23_odd (k : Nat) : (c23 k).odd = [] := rfl
theorem c23_ro (k : Nat) : (c23 k).ro = [] := rfl
theorem c23_P (k : Nat) : (c23 k).P = Try.prog := rfl
theorem c23_pure (k : Nat) : (c23 k).pure = p23 := rfl
theorem c23_news (k : Nat) : (c23 k).news = n22 := rfl
theorem xc23 :
  (type_of% @Go.Proofs.Ytfnfmbikooeiaaa.c23_pure) ∧
  (type_of% @Go.Proofs.Ytfnfmbikooeiaaa.c23_news) ∧
  (type_of% @p23.eq_1) ∧
  (type_of% @Go.Proofs.Ytfnfmbikooeiaaa.F68_eq) :=
  ⟨@Go.Proofs.Ytfnfmbikooeiaaa.c23_pure, @Go.Proofs.Ytfnfmbikooeiaaa.c23_news, @p23.eq_1, @Go.Proofs.Ytfnfmbikooeiaaa.F68_eq⟩
theorem go23 {F A B : Prop} (f : F) (b : B) (h : F → A = B := by intro f; (repeat (first | simp only [c23_P, c23_odd, c23_ro, Nat.reduceBEq, reduceIte, Nat.reduceEqDiff, reduceCtorEq, ne_eq, if_true, if_false, exA, exA, tabs, exB, exD, buildA, rowOr, rowSetAt, rowAgg, mkAgg, AV.isAggV, AV.parts, AV.one, AV.solid, headSize, indexAddrA, indexA, fieldAddrA, fieldA, sliceA, boundsA, bndA, lenA, arrayAtA, rowOf, makeSliceA, intsOf, copyA, Nat.reduceAdd, Nat.reduceSub, Nat.reduceMul, Nat.reduceLeDiff, Nat.reduceLT, Nat.reduceGT, Int.reduceToNat, Int.reduceLE, Int.reduceLT, Int.reduceEq, Int.reduceNe, Int.reduceAdd, Int.reduceSub, Int.reduceMul, Int.reduceNeg, ite_true, ite_false, dite_true, xc10, xc11, xc12, xc13, xc14, xc15, xc16, xc17, xc20, xc21, xc22, xc23, run_range, exR, f] | simp (maxSteps := 1000000) (disch := omega) only [exE, Int.toNat_natCast, Int.reduceToNat])); all_goals rfl) : A := Eq.mpr (h f) b
theorem good23 (k : Nat) : (c23 k).Good := by
  refine Cfg.Good.add (good22 k) ?_ k
  intro args v hF h κ hκ
  unfold F68 at hF
  split at hF
  · cases hF
    exact pure_call (aright_spec _ _ _ _ _ _ _ _) (fun g => rfl) (fun g => rfl) h κ hκ
  · cases hF
noncomputable def c23o (k : Nat) : Cfg := ⟨Try.prog, k, p23, [9], n22, none, []⟩
theorem c23o_odd (k : Nat) : (c23o k).odd = [9] := rfl
theorem c23o_ro (k : Nat) : (c23o k).ro = [] := rfl
theorem c23o_P (k : Nat) : (c23o k).P = Try.prog := rfl
theorem c23o_pure (k : Nat) : (c23o k).pure = p23 := rfl
theorem c23o_news (k : Nat) : (c23o k).news = n22 := rfl
theorem xc23o :
  (type_of% @Go.Proofs.Ytfnfmbikooeiaaa.c23o_pure) ∧
  (type_of% @Go.Proofs.Ytfnfmbikooeiaaa.c23o_news) :=
  ⟨@Go.Proofs.Ytfnfmbikooeiaaa.c23o_pure, @Go.Proofs.Ytfnfmbikooeiaaa.c23o_news⟩
theorem go23o {F A B : Prop} (f : F) (b : B) (h : F → A = B := by intro f; (repeat (first | simp only [c23o_P, c23o_odd, c23o_ro, Nat.reduceBEq, reduceIte, Nat.reduceEqDiff, reduceCtorEq, ne_eq, if_true, if_false, exA, exA, tabs, exB, exD, buildA, rowOr, rowSetAt, rowAgg, mkAgg, AV.isAggV, AV.parts, AV.one, AV.solid, headSize, indexAddrA, indexA, fieldAddrA, fieldA, sliceA, boundsA, bndA, lenA, arrayAtA, rowOf, makeSliceA, intsOf, copyA, Nat.reduceAdd, Nat.reduceSub, Nat.reduceMul, Nat.reduceLeDiff, Nat.reduceLT, Nat.reduceGT, Int.reduceToNat, Int.reduceLE, Int.reduceLT, Int.reduceEq, Int.reduceNe, Int.reduceAdd, Int.reduceSub, Int.reduceMul, Int.reduceNeg, ite_true, ite_false, dite_true, xc10, xc11, xc12, xc13, xc14, xc15, xc16, xc17, xc20, xc21, xc22, xc23, xc23o, run_range, exR, f] | simp (maxSteps := 1000000) (disch := omega) only [exE, Int.toNat_natCast, Int.reduceToNat])); all_goals rfl) : A := Eq.mpr (h f) b
theorem good23o (k : Nat) : (c23o k).Good := good23 k
noncomputable def c23w (k : Nat) : Cfg := (c23o k).withRo [36, 40, 44, 48]
theorem c23w_odd (k : Nat) : (c23w k).odd = [] := rfl
theorem c23w_ro (k : Nat) : (c23w k).ro = [36, 40, 44, 48] := rfl
theorem c23w_P (k : Nat) : (c23w k).P = Try.prog := rfl
theorem c23w_pure (k : Nat) : (c23w k).pure = p23 := rfl
theorem c23w_news (k : Nat) : (c23w k).news = n22 := rfl
theorem xc23w :
  (type_of% @Go.Proofs.Ytfnfmbikooeiaaa.c23w_pure) ∧
  (type_of% @Go.Proofs.Ytfnfmbikooeiaaa.c23w_news) :=
  ⟨@Go.Proofs.Ytfnfmbikooeiaaa.c23w_pure, @Go.Proofs.Ytfnfmbikooeiaaa.c23w_news⟩
theorem go23w {F A B : Prop} (f : F) (b : B) (h : F → A = B := by intro f; (repeat (first | simp only [c23w_P, c23w_odd, c23w_ro, Nat.reduceBEq, reduceIte, Nat.reduceEqDiff, reduceCtorEq, ne_eq, if_true, if_false, exA, exA, tabs, exB, exD, buildA, rowOr, rowSetAt, rowAgg, mkAgg, AV.isAggV, AV.parts, AV.one, AV.solid, headSize, indexAddrA, indexA, fieldAddrA, fieldA, sliceA, boundsA, bndA, lenA, arrayAtA, rowOf, makeSliceA, intsOf, copyA, Nat.reduceAdd, Nat.reduceSub, Nat.reduceMul, Nat.reduceLeDiff, Nat.reduceLT, Nat.reduceGT, Int.reduceToNat, Int.reduceLE, Int.reduceLT, Int.reduceEq, Int.reduceNe, Int.reduceAdd, Int.reduceSub, Int.reduceMul, Int.reduceNeg, ite_true, ite_false, dite_true, xc10, xc11, xc12, xc13, xc14, xc15, xc16, xc17, xc20, xc21, xc22, xc23, xc23w, run_range, exR, f] | simp (maxSteps := 1000000) (disch := omega) only [exE, Int.toNat_natCast, Int.reduceToNat])); all_goals rfl) : A := Eq.mpr (h f) b
def seedT (n t m l : Int) (a b c d : List Int) : List Int :=
  le4 l ++ (le4 n ++ (le4 m ++ (le4 t ++ (le4 19 ++ (le4 2 ++ (le4 a.length ++ (a ++ (le4 b.length ++ (b ++ (le4 c.length ++ (c ++ (le4 d.length ++ d))))))))))))
def seedL (n t m l : Int) (a b c d : List Int) : List Int := blakeL 64 [] (seedT n t m l a b c d)
theorem okS_iff {n t m l : Int} {a b c d : List Int} : okS n t m l a b c d = true ↔ (4 ≤ n ∧ n ≤ 128 ∧ okP t m l = true ∧ a.length ≤ 512 ∧ 8 ≤ b.length ∧ b.length ≤ 64 ∧ c.length ≤ 64 ∧ d.length ≤ 64) := by simp [okS]
theorem rseed_bad (n t m l : Int) (a b c d : List Int) (h : okS n t m l a b c d = false) : ACall Try.prog 52 [.v (.int .i64 n), .agg [.v (.int .i64 t), .v (.int .i64 m), .v (.int .i64 l)], .agg [.roI .u8 a, .roI .u8 b, .roI .u8 c, .roI .u8 d]] [] fun v _ => v = .tup [.v (.slice none 0 0), .v (.int .i64 80)] := by
  refine bd (good23o 0) Try.func52 ?_
  exact go23o h trivial
theorem rseed_ok (n t m l : Int) (a b c d : List Int) (h : okS n t m l a b c d = true) : ACall Try.prog 52 [.v (.int .i64 n), .agg [.v (.int .i64 t), .v (.int .i64 m), .v (.int .i64 l)], .agg [.roI .u8 a, .roI .u8 b, .roI .u8 c, .roI .u8 d]] [] fun v h' => ∃ c0, v = .tup [.sl 0 0 1 0 64 c0, .v (.int .i64 0)] ∧ h' = [some [.arr 64 .u8 (seedL n t m l a b c d)]] := by
  have hk := okS_iff.1 h
  have hSl : (seedT n t m l a b c d).length ≤ 549755813888 := by
    have e : (seedT n t m l a b c d).length = 40 + a.length + b.length + c.length + d.length := by simp only [seedT, List.length_append, le4, List.length_cons, List.length_nil]; omega
    omega
  refine ACall.weak (C := c23o 0) rfl (κ := fun v h' => ∃ c0, v = .tup [.sl 1 0 1 0 64 c0, .v (.int .i64 0)] ∧ ∃ x, h' = [x, some [.arr 64 .u8 (seedL n t m l a b c d)]]) ?_ ?_
  case refine_2 =>
    rintro v h' ⟨c0, rfl, x, rfl⟩
    exact ⟨.tup [.sl 0 0 1 0 64 c0, .v (.int .i64 0)], [some [.arr 64 .u8 (seedL n t m l a b c d)]], by exact wgc [1] nf, c0, rfl, rfl⟩
  refine bd (good23o 0) Try.func52 ?_
  refine go23o h ?_
  refine loop_times (good23o 0) 7 (by kernel_rfl) fun R hR => ?_
  have h4 : ∀ x, (le4 x).length = 4 := fun x => rfl
  have ht4 : ∀ x, (le4 x).take 4 = le4 x := fun x => rfl
  have hw : IntKind.i64.wrap 1 = 1 ∧ IntKind.i64.wrap 2 = 2 ∧ IntKind.i64.wrap 3 = 3 ∧ IntKind.i64.wrap 4 = 4 ∧ IntKind.i64.wrap 5 = 5 ∧ IntKind.i64.wrap 6 = 6 := by decide
  obtain ⟨w1, w2, w3, w4, w5, w6⟩ := hw
  refine go23o (an hR (an h (an h4 (an ht4 w1)))) ?_
  intro c1 _
  refine go23o (an hR (an h (an h4 (an ht4 (an w1 w2))))) ?_
  intro c2 _
  refine go23o (an hR (an h (an h4 (an ht4 w3)))) ?_
  intro c3 _
  refine go23o (an hR (an h (an h4 (an ht4 w4)))) ?_
  intro c4 _
  refine go23o (an hR (an h (an h4 (an ht4 w5)))) ?_
  intro c5 _
  refine go23o (an hR (an h (an h4 (an ht4 w6)))) ?_
  intro c6 _
  refine go23o (an hR (an h (an h4 ht4))) ?_
  have e24 : (List.take 20 (List.take 16 (List.take 12 (List.take 8 (le4 l ++ le4 n) ++ le4 m) ++ le4 t) ++ le4 19) ++ le4 2) = le4 l ++ (le4 n ++ (le4 m ++ (le4 t ++ (le4 19 ++ le4 2)))) := rfl
  rw [e24]
  obtain ⟨T, hT⟩ : ∃ T, T = le4 l ++ (le4 n ++ (le4 m ++ (le4 t ++ (le4 19 ++ le4 2)))) := ⟨_, rfl⟩
  have hTl : T.length = 24 := by rw [hT]; rfl
  have hTt : T.take 24 = T := List.take_of_length_le (by omega)
  have hS : seedT n t m l a b c d = T ++ (le4 a.length ++ (a ++ (le4 b.length ++ (b ++ (le4 c.length ++ (c ++ (le4 d.length ++ d))))))) := by rw [hT]; simp only [seedT, List.append_assoc]
  rw [← hT]
  refine oddR_frz (good23o 0) (L := [(5, .rop (.agg [.roI .u8 a, .roI .u8 b, .roI .u8 c, .roI .u8 d])), (8, .sl 14 0 1 0 24 c6)]) [1] [36, 40, 44, 48]
    (fun c0 => ⟨envL [(8, .sl 0 0 1 0 (seedT n t m l a b c d).length c0)], [some [.arr (seedT n t m l a b c d).length .u8 (seedT n t m l a b c d)]]⟩) ?_ ?_ (by kernel_rfl) ?_ ?_
  · intro p hp
    simp only [List.mem_cons, List.not_mem_nil, or_false] at hp
    rcases hp with rfl | rfl
    · exact Frz.agg (b := 1) (by simp) rfl (fun f => rfl)
    · exact Frz.same _
  · intro x hx
    simp only [List.mem_cons, List.not_mem_nil, or_false] at hx
    subst hx
    exact ⟨_, rfl⟩
  · show opsR (c23w 0) _ _ [] _ _
    simp only [kill]
    refine go23w (an h4 (an hTl hTt)) ?_
    refine ⟨by omega, fun c1 _ c2 _ => ⟨by omega, fun c3 _ c4 _ => ⟨by omega, fun c5 _ c6 _ => ⟨by omega, fun c7 _ c8 _ => ⟨c8, ?_⟩⟩⟩⟩⟩
    simp (maxSteps := 1000000) (disch := (simp only [List.length_append, h4, hTl]; omega)) only [List.take_of_length_le]
    exact wgc [22] (an hS (an h4 (an hTl (an hTt (an @List.length_append.{0} (an @List.append_assoc.{0} (an @List.take_left.{0} @Nat.add_assoc)))))))
  · intro c0
    refine go23o nf ?_
    exact ⟨hSl, fun c1 _ => ⟨c1, rfl, _, rfl⟩⟩
end Go.Proofs.Ytfnfmbikooeiaaa

namespace Go.Proofs.Ytfnfmbikooeiaaa
open Go.Ax
theorem aseed_bad (n t m l : Int) (a b c d : List Int) (h : okS n t m l a b c d = false) : ACall Try.prog 51 [.v (.int .i64 n), .agg [.v (.int .i64 t), .v (.int .i64 m), .v (.int .i64 l)], .agg [.roI .u8 a, .roI .u8 b, .roI .u8 c, .roI .u8 d]] [] fun v _ => v = .tup [.v (.slice none 0 0), .v (.int .i64 80)] := by
  by_cases k0 : 4 ≤ n
  rotate_left
  · refine bd (good23 0) Try.func51 ?_
    exact go23 (an @errP_beq @errP_bne) trivial
  by_cases k1 : n ≤ 128
  rotate_left
  · refine bd (good23 0) Try.func51 ?_
    exact go23 (an @errP_beq @errP_bne) trivial
  by_cases k2 : okP t m l = true
  rotate_left
  · have kb : okP t m l = false := by simpa using k2
    refine bd (good23 0) Try.func51 ?_
    exact go23 (an @errP_beq (an @errP_bne kb)) trivial
  by_cases k3 : a.length ≤ 512
  rotate_left
  · refine bd (good23 0) Try.func51 ?_
    exact go23 (an @errP_beq (an @errP_bne k2)) trivial
  by_cases k4 : 8 ≤ b.length
  rotate_left
  · refine bd (good23 0) Try.func51 ?_
    exact go23 (an @errP_beq (an @errP_bne k2)) trivial
  by_cases k5 : b.length ≤ 64
  rotate_left
  · refine bd (good23 0) Try.func51 ?_
    exact go23 (an @errP_beq (an @errP_bne k2)) trivial
  by_cases k6 : c.length ≤ 64
  rotate_left
  · refine bd (good23 0) Try.func51 ?_
    exact go23 (an @errP_beq (an @errP_bne k2)) trivial
  by_cases k7 : d.length ≤ 64
  rotate_left
  · refine bd (good23 0) Try.func51 ?_
    exact go23 (an @errP_beq (an @errP_bne k2)) trivial
  exact absurd h (by simp [okS, k0, k1, k2, k3, k4, k5, k6, k7])
theorem weak_one {C : Cfg} (hk : C.k = 0) {v v2 : AV} {h : List Blk} {b : Blk} (n : Nat) (hn : n < h.length) (hb : h[n]? = some (renB (gcMap [n] h.length) b)) (hv : v = v2.ren (gcMap [n] h.length)) :
    Weak C ⟨envL [(0, v)], h⟩ ⟨envL [(0, v2)], [b]⟩ := by
  refine weak_gc' [n] (by simp) (by simpa using hn) (by simp [hk]) (by simp [hb]) ?_
  simp only [List.map_cons, List.map_nil, envAll_cons, envAll_nil, get_envL_cons, get_envL_nil, reduceIte, and_true]
  exact hv
theorem aseed_ok (n t m l : Int) (a b c d : List Int) (h : okS n t m l a b c d = true) : ACall Try.prog 51 [.v (.int .i64 n), .agg [.v (.int .i64 t), .v (.int .i64 m), .v (.int .i64 l)], .agg [.roI .u8 a, .roI .u8 b, .roI .u8 c, .roI .u8 d]] [] fun v h' => ∃ c0, v = .tup [.sl 0 0 1 0 64 c0, .v (.int .i64 0)] ∧ h' = [some [.arr 64 .u8 (seedL n t m l a b c d)]] := by
  obtain ⟨k0, k1, k2, k3, k4, k5, k6, k7⟩ := okS_iff.1 h
  refine ACall.weak (C := c23 0) rfl (κ := fun v h' => v = .tup [.sl 32 0 1 0 64 64, .v (.int .i64 0)] ∧ 32 < h'.length ∧ h'[32]? = some (some [.arr 64 .u8 (seedL n t m l a b c d)])) ?_ ?_
  case refine_2 =>
    rintro v h' ⟨rfl, h1, h2⟩
    exact ⟨.tup [.sl 0 0 1 0 64 64, .v (.int .i64 0)], [some [.arr 64 .u8 (seedL n t m l a b c d)]], weak_one rfl 32 h1 h2 rfl, 64, rfl, rfl⟩
  refine bd (good23 0) Try.func51 ?_
  refine go23 (an @errP_beq (an @errP_bne k2)) ?_
  refine loop_times (good23 0) 7 (by kernel_rfl) fun R hR => ?_
  have h4 : ∀ x, (le4 x).length = 4 := fun x => rfl
  have ht4 : ∀ x, (le4 x).take 4 = le4 x := fun x => rfl
  have hw : IntKind.i64.wrap 1 = 1 ∧ IntKind.i64.wrap 2 = 2 ∧ IntKind.i64.wrap 3 = 3 ∧ IntKind.i64.wrap 4 = 4 ∧ IntKind.i64.wrap 5 = 5 ∧ IntKind.i64.wrap 6 = 6 := by decide
  obtain ⟨w1, w2, w3, w4, w5, w6⟩ := hw
  refine go23 (an hR (an h4 (an ht4 (an w1 (an w2 (an w3 (an w4 (an w5 w6)))))))) ?_
  intro c1 _ c2 _ c3 _ c4 _ c5 _ c6 _
  refine loop_times (good23 0) 5 (by kernel_rfl) fun R2 hR2 => ?_
  refine go23 (an hR2 (an h4 (an ht4 (an w1 (an w2 (an w3 (an w4 (an w5 w6)))))))) ?_
  intro c7 _ c8 _ c9 _ c10 _
  refine ⟨by omega, ?_⟩
  rfl
end Go.Proofs.Ytfnfmbikooeiaaa

namespace Go.Proofs.Ytfnfmbikooeiaaa
open Go.Ax
def N51 (h : List Blk) : List AV → Option Out
  | [.v (.int .i64 n), .agg [.v (.int .i64 t), .v (.int .i64 m), .v (.int .i64 l)], .agg [x, y, z, u]] =>
    (u8Of h x).bind fun a => (u8Of h y).bind fun b => (u8Of h z).bind fun c => (u8Of h u).bind fun d =>
      osel (okS n t m l a b c d) (some (.cap 0 fun k => (.tup [.sl h.length 0 1 0 64 k, .v (.int .i64 0)], h ++ [some [.arr 64 .u8 (seedL n t m l a b c d)]])))
        (some (.one (.tup [.v (.slice none 0 0), .v (.int .i64 80)]) h))
  | _ => none
theorem N51_eq (h : List Blk) (n t m l : Int) (x y z u : AV) : N51 h [.v (.int .i64 n), .agg [.v (.int .i64 t), .v (.int .i64 m), .v (.int .i64 l)], .agg [x, y, z, u]] =
    (u8Of h x).bind fun a => (u8Of h y).bind fun b => (u8Of h z).bind fun c => (u8Of h u).bind fun d =>
      osel (okS n t m l a b c d) (some (.cap 0 fun k => (.tup [.sl h.length 0 1 0 64 k, .v (.int .i64 0)], h ++ [some [.arr 64 .u8 (seedL n t m l a b c d)]])))
        (some (.one (.tup [.v (.slice none 0 0), .v (.int .i64 80)]) h)) := rfl
noncomputable def n24 : FuncId → Option (List Blk → List AV → Option Out) := addNews (addNews n22 51 N51) 52 N51
noncomputable def c24 (k : Nat) : Cfg := ⟨Try.prog, k, p23, [], n24, none, []⟩
theorem c24_odd (k : Nat) : (c24 k).odd = [] := rfl
theorem c24_ro (k : Nat) : (c24 k).ro = [] := rfl
theorem c24_P (k : Nat) : (c24 k).P = Try.prog := rfl
theorem c24_pure (k : Nat) : (c24 k).pure = p23 := rfl
theorem c24_news (k : Nat) : (c24 k).news = n24 := rfl
theorem xc24 :
  (type_of% @Go.Proofs.Ytfnfmbikooeiaaa.c24_pure) ∧
  (type_of% @Go.Proofs.Ytfnfmbikooeiaaa.c24_news) ∧
  (type_of% @n24.eq_1) ∧
  (type_of% @Go.Proofs.Ytfnfmbikooeiaaa.N51_eq) :=
  ⟨@Go.Proofs.Ytfnfmbikooeiaaa.c24_pure, @Go.Proofs.Ytfnfmbikooeiaaa.c24_news, @n24.eq_1, @Go.Proofs.Ytfnfmbikooeiaaa.N51_eq⟩
theorem go24 {F A B : Prop} (f : F) (b : B) (h : F → A = B := by intro f; (repeat (first | simp only [c24_P, c24_odd, c24_ro, Nat.reduceBEq, reduceIte, Nat.reduceEqDiff, reduceCtorEq, ne_eq, if_true, if_false, exA, exA, tabs, exB, exD, buildA, rowOr, rowSetAt, rowAgg, mkAgg, AV.isAggV, AV.parts, AV.one, AV.solid, headSize, indexAddrA, indexA, fieldAddrA, fieldA, sliceA, boundsA, bndA, lenA, arrayAtA, rowOf, makeSliceA, intsOf, copyA, Nat.reduceAdd, Nat.reduceSub, Nat.reduceMul, Nat.reduceLeDiff, Nat.reduceLT, Nat.reduceGT, Int.reduceToNat, Int.reduceLE, Int.reduceLT, Int.reduceEq, Int.reduceNe, Int.reduceAdd, Int.reduceSub, Int.reduceMul, Int.reduceNeg, ite_true, ite_false, dite_true, xc10, xc11, xc12, xc13, xc14, xc15, xc16, xc17, xc20, xc21, xc22, xc23, xc24, run_range, exR, f] | simp (maxSteps := 1000000) (disch := omega) only [exE, Int.toNat_natCast, Int.reduceToNat])); all_goals rfl) : A := Eq.mpr (h f) b
theorem weak_none {C : Cfg} (hk : C.k = 0) {v v2 : AV} {h : List Blk} (hv : v = v2.ren (gcMap [] h.length)) : Weak C ⟨envL [(0, v)], h⟩ ⟨envL [(0, v2)], []⟩ := by
  refine weak_gc' [] (by simp) (by simp) (by simp [hk]) (by simp) ?_
  simp only [List.map_cons, List.map_nil, envAll_cons, envAll_nil, get_envL_cons, get_envL_nil, reduceIte, and_true]
  exact hv
theorem no_heap {f : FuncId} {args : List AV} (h : ACall Try.prog f args [] fun v _ => v = .tup [.v (.slice none 0 0), .v (.int .i64 80)]) : ACall Try.prog f args [] fun v h' => v = .tup [.v (.slice none 0 0), .v (.int .i64 80)] ∧ h' = [] := by
  refine ACall.weak (C := c24 0) rfl h ?_
  rintro v h' rfl
  exact ⟨_, [], weak_none rfl rfl, rfl, rfl⟩
theorem seed_use {f : FuncId} (bad : ∀ (n t m l : Int) (a b c d : List Int), okS n t m l a b c d = false → ACall Try.prog f [.v (.int .i64 n), .agg [.v (.int .i64 t), .v (.int .i64 m), .v (.int .i64 l)], .agg [.roI .u8 a, .roI .u8 b, .roI .u8 c, .roI .u8 d]] [] fun v h' => v = .tup [.v (.slice none 0 0), .v (.int .i64 80)] ∧ h' = [])
    (ok : ∀ (n t m l : Int) (a b c d : List Int), okS n t m l a b c d = true → ACall Try.prog f [.v (.int .i64 n), .agg [.v (.int .i64 t), .v (.int .i64 m), .v (.int .i64 l)], .agg [.roI .u8 a, .roI .u8 b, .roI .u8 c, .roI .u8 d]] [] fun v h' => ∃ c0, v = .tup [.sl 0 0 1 0 64 c0, .v (.int .i64 0)] ∧ h' = [some [.arr 64 .u8 (seedL n t m l a b c d)]]) :
    ∀ (h : List Blk) (args : List AV) (out : Out), N51 h args = some out → (out.all fun _ h' => ∃ ext, h' = h ++ ext) ∧ ∀ κ, out.all κ → ACall Try.prog f args h κ := by
  intro h args out hN
  unfold N51 at hN
  split at hN
  · rename_i n t m l x y z u
    obtain ⟨a, ha, hN⟩ := Option.bind_eq_some_iff.1 hN
    obtain ⟨b, hb, hN⟩ := Option.bind_eq_some_iff.1 hN
    obtain ⟨c, hc, hN⟩ := Option.bind_eq_some_iff.1 hN
    obtain ⟨d, hd, hN⟩ := Option.bind_eq_some_iff.1 hN
    cases hk : okS n t m l a b c d with
    | true =>
      rw [osel_pos hk] at hN
      cases hN
      refine ⟨fun c _ => ⟨_, rfl⟩, fun κ hκ => news_ok (args := [.v (.int .i64 n), .agg [.v (.int .i64 t), .v (.int .i64 m), .v (.int .i64 l)], .agg [x, y, z, u]]) (ok n t m l a b c d hk) (by rintro _ _ ⟨c, rfl, rfl⟩; exact ⟨rfl, rfl⟩) (fun g => rfl) ⟨Frz.same _, Frz.same _, sec_frz ha hb hc hd, trivial⟩ ?_ hκ⟩
      rintro _ _ ⟨c0, rfl, rfl⟩
      exact ⟨c0, Nat.zero_le _, rfl⟩
    | false =>
      rw [osel_neg hk] at hN
      cases hN
      refine ⟨⟨[], by simp⟩, fun κ hκ => news_ok (args := [.v (.int .i64 n), .agg [.v (.int .i64 t), .v (.int .i64 m), .v (.int .i64 l)], .agg [x, y, z, u]]) (bad n t m l a b c d hk) (by rintro _ _ ⟨rfl, rfl⟩; exact ⟨rfl, rfl⟩) (fun g => rfl) ⟨Frz.same _, Frz.same _, sec_frz ha hb hc hd, trivial⟩ ?_ hκ⟩
      rintro _ _ ⟨rfl, rfl⟩
      exact ⟨rfl, by simp⟩
  · cases hN
theorem good24 (k : Nat) : (c24 k).Good :=
  Cfg.Good.addN (Cfg.Good.addN (good23 k) (seed_use (fun n t m l a b c d h => no_heap (aseed_bad n t m l a b c d h)) aseed_ok) k) (seed_use (fun n t m l a b c d h => no_heap (rseed_bad n t m l a b c d h)) rseed_ok) k
end Go.Proofs.Ytfnfmbikooeiaaa

namespace Go.Proofs.Ytfnfmbikooeiaaa
open Go.Ax
def adrZ (pass slice lane i t l part : Nat) : List Int := [(pass : Int), (lane : Int), (slice : Int), ((4 * part * l : Nat) : Int), (t : Int), 2, ((i / 128 + 1 : Nat) : Int)] ++ List.replicate 121 0
def zeroP : List Int := List.replicate 128 0
def adrL (pass slice lane i t l part : Nat) : List Int := pagesL zeroP (pagesL zeroP (adrZ pass slice lane i t l part))
theorem adrZ_len (pass slice lane i t l part : Nat) : (adrZ pass slice lane i t l part).length = 128 := rfl
theorem addresses_spec (pass slice lane i t l part : Nat) (m : Int) (h1 : pass ≤ 8) (h2 : slice ≤ 4) (h3 : lane ≤ 4) (h4 : i ≤ 256) (h5 : t ≤ 8) (h6 : l ≤ 4) (h7 : part ≤ 256) :
    ACall Try.prog 76 [.rop (.agg [.v (.int .i64 t), .v (.int .i64 m), .v (.int .i64 l), .any, .v (.int .i64 part)]), .agg [.v (.int .i64 pass), .v (.int .i64 slice), .v (.int .i64 lane), .v (.int .i64 i)]] [] fun v _ => v = .arr 128 .u64 (adrL pass slice lane i t l part) := by
  have w1 : IntKind.u64.wrap (pass : Int) = pass := ar_u64 _ (by omega)
  have w2 : IntKind.u64.wrap (lane : Int) = lane := ar_u64 _ (by omega)
  have w3 : IntKind.u64.wrap (slice : Int) = slice := ar_u64 _ (by omega)
  have hpl : 4 * part * l ≤ 4 * 256 * 4 := Nat.mul_le_mul (by omega) h6
  have w4 : IntKind.i64.wrap (((4 * part : Nat) : Int) * (l : Int)) = ((4 * part * l : Nat) : Int) := by rw [← Int.natCast_mul]; exact wrap_i64_id _ (by omega)
  have w5 : IntKind.u64.wrap ((4 * part * l : Nat) : Int) = ((4 * part * l : Nat) : Int) := ar_u64 _ (by omega)
  have w6 : IntKind.u64.wrap (t : Int) = t := ar_u64 _ (by omega)
  have w7 : IntKind.u64.wrap (((i / 128 : Nat) : Int) + 1) = ((i / 128 + 1 : Nat) : Int) := ar_u64 (i / 128 + 1) (by omega)
  have w8 : IntKind.u64.wrap ((i / 128 + 1 : Nat) : Int) = ((i / 128 + 1 : Nat) : Int) := ar_u64 _ (by omega)
  refine bd (good24 0) Try.func76 ?_
  refine go24 (an w1 (an w2 (an w3 (an w4 (an w5 (an w6 (an w7 w8))))))) ?_
  rw [show List.take 128 ((((((((List.replicate 128 (0 : Int)).set 0 ↑pass).set 1 ↑lane).set 2 ↑slice).set 3 ↑(4 * part * l)).set 4 ↑t).set 5 2).set 6 ↑(i / 128 + 1)) = adrZ pass slice lane i t l part from rfl]
  have hl : (pagesL (List.replicate 128 0) (adrZ pass slice lane i t l part)).length = 128 := by rw [pagesL_len, List.length_replicate]
  refine ⟨hl, ?_⟩
  rw [List.take_of_length_le (by rw [pagesL_len, List.length_replicate]; omega)]
  rfl
def adrK (pass slice lane i : Int) (h : List Blk) : List AV → Option Out
  | [.v (.int .i64 t), .v (.int .i64 _), .v (.int .i64 l), .sl _ _ _ _ _ _, .v (.int .i64 part)] =>
      oguard ((0 ≤ pass ∧ pass ≤ 8) ∧ (0 ≤ slice ∧ slice ≤ 4) ∧ (0 ≤ lane ∧ lane ≤ 4) ∧ (0 ≤ i ∧ i ≤ 256) ∧ (0 ≤ t ∧ t ≤ 8) ∧ (0 ≤ l ∧ l ≤ 4) ∧ (0 ≤ part ∧ part ≤ 256)) (some (.one (.arr 128 .u64 (adrL pass.toNat slice.toNat lane.toNat i.toNat t.toNat l.toNat part.toNat)) h))
  | _ => none
theorem adrK_eq (pass slice lane i t m l part : Int) (b base sz off len cap : Nat) (h : List Blk) : adrK pass slice lane i h [.v (.int .i64 t), .v (.int .i64 m), .v (.int .i64 l), .sl b base sz off len cap, .v (.int .i64 part)] =
    oguard ((0 ≤ pass ∧ pass ≤ 8) ∧ (0 ≤ slice ∧ slice ≤ 4) ∧ (0 ≤ lane ∧ lane ≤ 4) ∧ (0 ≤ i ∧ i ≤ 256) ∧ (0 ≤ t ∧ t ≤ 8) ∧ (0 ≤ l ∧ l ≤ 4) ∧ (0 ≤ part ∧ part ≤ 256)) (some (.one (.arr 128 .u64 (adrL pass.toNat slice.toNat lane.toNat i.toNat t.toNat l.toNat part.toNat)) h)) := rfl
def N76 (h : List Blk) : List AV → Option Out
  | [.ptr b 0 0, .agg [.v (.int .i64 pass), .v (.int .i64 slice), .v (.int .i64 lane), .v (.int .i64 i)]] => (row h b).bind (adrK pass slice lane i h)
  | _ => none
theorem N76_eq (h : List Blk) (b : Nat) (pass slice lane i : Int) : N76 h [.ptr b 0 0, .agg [.v (.int .i64 pass), .v (.int .i64 slice), .v (.int .i64 lane), .v (.int .i64 i)]] = (row h b).bind (adrK pass slice lane i h) := rfl
theorem N76_use (h : List Blk) (args : List AV) (out : Out) (hN : N76 h args = some out) : (out.all fun _ h' => ∃ ext, h' = h ++ ext) ∧ ∀ κ, out.all κ → ACall Try.prog 76 args h κ := by
  unfold N76 at hN
  split at hN
  · rename_i b pass slice lane i
    obtain ⟨ps, hrow, hN⟩ := Option.bind_eq_some_iff.1 hN
    unfold adrK at hN
    split at hN
    · rename_i t m l c1 c2 c3 c4 c5 c6 part
      obtain ⟨⟨h1, h2, h3, h4, h5, h6, h7⟩, hN⟩ := oguard_some hN
      cases hN
      obtain ⟨pass, rfl⟩ := Int.eq_ofNat_of_zero_le h1.1
      obtain ⟨slice, rfl⟩ := Int.eq_ofNat_of_zero_le h2.1
      obtain ⟨lane, rfl⟩ := Int.eq_ofNat_of_zero_le h3.1
      obtain ⟨i, rfl⟩ := Int.eq_ofNat_of_zero_le h4.1
      obtain ⟨t, rfl⟩ := Int.eq_ofNat_of_zero_le h5.1
      obtain ⟨l, rfl⟩ := Int.eq_ofNat_of_zero_le h6.1
      obtain ⟨part, rfl⟩ := Int.eq_ofNat_of_zero_le h7.1
      have hs : ACall Try.prog 76 [.rop (.agg [.v (.int .i64 (t : Nat)), .v (.int .i64 m), .v (.int .i64 (l : Nat)), .any, .v (.int .i64 (part : Nat))]), .agg [.v (.int .i64 (pass : Nat)), .v (.int .i64 (slice : Nat)), .v (.int .i64 (lane : Nat)), .v (.int .i64 (i : Nat))]] [] fun v h' => v = .arr 128 .u64 (adrL pass slice lane i t l part) ∧ h' = [] := by
        refine ACall.weak (C := c24 0) rfl (addresses_spec pass slice lane i t l part m (by omega) (by omega) (by omega) (by omega) (by omega) (by omega) (by omega)) ?_
        rintro v h' rfl
        exact ⟨_, [], weak_none rfl rfl, rfl, rfl⟩
      refine ⟨⟨[], by simp⟩, fun κ hκ => news_ok (args := [.ptr b 0 0, .agg [.v (.int .i64 (pass : Nat)), .v (.int .i64 (slice : Nat)), .v (.int .i64 (lane : Nat)), .v (.int .i64 (i : Nat))]]) hs (by rintro _ _ ⟨rfl, rfl⟩; exact ⟨rfl, rfl⟩) (fun g => rfl)
        ⟨Frz.aggAny (List.mem_range.2 (row_lt hrow)) hrow ⟨.inl rfl, .inl rfl, .inl rfl, .inr ⟨rfl, rfl⟩, .inl rfl, trivial⟩ (fun f => rfl), Frz.same _, trivial⟩ ?_ hκ⟩
      rintro _ _ ⟨rfl, rfl⟩
      exact ⟨rfl, by simp⟩
    · cases hN
  · cases hN
end Go.Proofs.Ytfnfmbikooeiaaa

namespace Go.Proofs.Ytfnfmbikooeiaaa
open Go.Ax
noncomputable def n25 : FuncId → Option (List Blk → List AV → Option Out) := addNews n24 76 N76
noncomputable def c25 (k : Nat) : Cfg := ⟨Try.prog, k, p23, [], n25, none, []⟩
theorem c25_odd (k : Nat) : (c25 k).odd = [] := rfl
theorem c25_ro (k : Nat) : (c25 k).ro = [] := rfl
theorem c25_P (k : Nat) : (c25 k).P = Try.prog := rfl
theorem c25_pure (k : Nat) : (c25 k).pure = p23 := rfl
theorem c25_news (k : Nat) : (c25 k).news = n25 := rfl
theorem xc25 :
  (type_of% @Go.Proofs.Ytfnfmbikooeiaaa.c25_pure) ∧
  (type_of% @Go.Proofs.Ytfnfmbikooeiaaa.c25_news) ∧
  (type_of% @n25.eq_1) :=
  ⟨@Go.Proofs.Ytfnfmbikooeiaaa.c25_pure, @Go.Proofs.Ytfnfmbikooeiaaa.c25_news, @n25.eq_1⟩
theorem go25 {F A B : Prop} (f : F) (b : B) (h : F → A = B := by intro f; (repeat (first | simp only [c25_P, c25_odd, c25_ro, Nat.reduceBEq, reduceIte, Nat.reduceEqDiff, reduceCtorEq, ne_eq, if_true, if_false, exA, exA, tabs, exB, exD, buildA, rowOr, rowSetAt, rowAgg, mkAgg, AV.isAggV, AV.parts, AV.one, AV.solid, headSize, indexAddrA, indexA, fieldAddrA, fieldA, sliceA, boundsA, bndA, lenA, arrayAtA, rowOf, makeSliceA, intsOf, copyA, Nat.reduceAdd, Nat.reduceSub, Nat.reduceMul, Nat.reduceLeDiff, Nat.reduceLT, Nat.reduceGT, Int.reduceToNat, Int.reduceLE, Int.reduceLT, Int.reduceEq, Int.reduceNe, Int.reduceAdd, Int.reduceSub, Int.reduceMul, Int.reduceNeg, ite_true, ite_false, dite_true, xc10, xc11, xc12, xc13, xc14, xc15, xc16, xc17, xc20, xc21, xc22, xc23, xc24, xc25, run_range, exR, f] | simp (maxSteps := 1000000) (disch := omega) only [exE, Int.toNat_natCast, Int.reduceToNat])); all_goals rfl) : A := Eq.mpr (h f) b
theorem good25 (k : Nat) : (c25 k).Good := Cfg.Good.addN (good24 k) N76_use k
def pageAt (f : List Int) (i : Nat) : List Int := (f.drop (i * 128)).take 128
def laneA (n : Nat) (f : List Int) : AV := .roL 128 ((List.range n).map fun i => .arr 128 .u64 (pageAt f i))
def lanesA (n : Nat) (fs : List (List Int)) : AV := .roL 1 (fs.map (laneA n))
def oLane (pass slice lane l w : Nat) : Nat := if pass = 0 ∧ slice = 0 then lane else w / 4294967296 % l
def oDone (pass slice lane i part l w : Nat) : Nat :=
  let d := if 0 < pass then 3 * part else slice * part
  if oLane pass slice lane l w = lane then d + i - 1 else if i = 0 then d - 1 else d
def oBegin (pass slice part : Nat) : Nat := if 0 < pass then (slice + 1) * part else 0
def oIdx (pass slice lane i part l w : Nat) : Nat := (oBegin pass slice part + whichN (oDone pass slice lane i part l w) (w % 4294967296)) % (4 * part)
theorem other_spec (pass slice lane i t l part w : Nat) (m : Int) (fs : List (List Int)) (h1 : pass ≤ 8) (h2 : slice ≤ 4) (h3 : lane ≤ 4) (h4 : i < part) (h5 : t ≤ 8) (h6 : 1 ≤ l ∧ l ≤ 4) (h7 : 2 ≤ part ∧ part ≤ 256)
    (h8 : pass = 0 → slice = 0 → 2 ≤ i) (h9 : lane < l) (hf : fs.length = l) (hfl : ∀ f ∈ fs, f.length = 4 * part * 128) (hw : w < 18446744073709551616) :
    ACall Try.prog 77 [.rop (.agg [.v (.int .i64 t), .v (.int .i64 m), .v (.int .i64 l), lanesA (4 * part) fs, .v (.int .i64 part)]), .agg [.v (.int .i64 pass), .v (.int .i64 slice), .v (.int .i64 lane), .v (.int .i64 i)], .v (.int .u64 w)] [] fun v _ => v = .arr 128 .u64 (pageAt (fs.getD (oLane pass slice lane l w) []) (oIdx pass slice lane i part l w)) := by
  have hsh : shr .u64 (w : Int) 32 = ((w / 4294967296 : Nat) : Int) := by
    unfold shr
    rw [show (2 : Int) ^ min (32 : Int).toNat IntKind.u64.bits = ((4294967296 : Nat) : Int) from rfl, Int.fdiv_eq_ediv_of_nonneg _ (by omega)]
    omega
  have w1 : IntKind.u64.wrap (l : Int) = l := ar_u64 _ (by omega)
  have hml : (((w / 4294967296 : Nat) : Int)).tmod (l : Int) = ((w / 4294967296 % l : Nat) : Int) := by rw [← Int.ofNat_tmod]
  have hlt : w / 4294967296 % l < l := Nat.mod_lt _ (by omega)
  have w2 : IntKind.i64.wrap ((w / 4294967296 % l : Nat) : Int) = ((w / 4294967296 % l : Nat) : Int) := ar_nat _ (by omega)
  have hl0 : ((l : Int) = 0) = False := by simp; omega
  obtain ⟨es, hes⟩ : ∃ es, es = fs.map (laneA (4 * part)) := ⟨_, rfl⟩
  have hesl : es.length = l := by rw [hes, List.length_map, hf]
  have hget : ∀ j, j < l → es.getD j .any = laneA (4 * part) (fs.getD j []) := by
    intro j hj
    rw [hes, List.getD_eq_getElem?_getD, List.getElem?_map, List.getElem?_eq_getElem (by omega), List.getD_eq_getElem?_getD, List.getElem?_eq_getElem (by omega)]; rfl
  obtain ⟨q, hq⟩ : ∃ q, w / 4294967296 % l = q := ⟨_, rfl⟩
  rw [hq] at hlt w2 hml
  unfold lanesA
  rw [← hes]
  obtain ⟨ps, hps⟩ : ∃ ps, ps = (List.range (4 * part)).map fun i => AV.arr 128 .u64 (pageAt (fs.getD q []) i) := ⟨_, rfl⟩
  have hpl : ps.length = 4 * part := by rw [hps, List.length_map, List.length_range]
  have hpg : ∀ j, j < 4 * part → ps.getD j .any = .arr 128 .u64 (pageAt (fs.getD q []) j) := by
    intro j hj
    rw [hps, List.getD_eq_getElem?_getD, List.getElem?_map, List.getElem?_eq_getElem (by rw [List.length_range]; exact hj), List.getElem_range]; rfl
  have hg : es.getD q .any = .roL 128 ps := by rw [hget q hlt, hps]; rfl
  have hw32 : IntKind.u32.wrap (w : Int) = ((w % 4294967296 : Nat) : Int) := by
    unfold IntKind.wrap
    simp only [IntKind.bits, IntKind.signed]
    simp
  have hw33 : w % 4294967296 < 4294967296 := Nat.mod_lt _ (by omega)
  have wb1 : IntKind.i64.wrap (((slice + 1 : Nat) : Int) * (part : Int)) = (((slice + 1) * part : Nat) : Int) := by rw [← Int.natCast_mul]; exact ar_nat _ (by have : (slice + 1) * part ≤ 5 * 256 := Nat.mul_le_mul (by omega) (by omega); omega)
  have wsp : IntKind.i64.wrap ((slice : Int) * (part : Int)) = ((slice * part : Nat) : Int) := by rw [← Int.natCast_mul]; exact ar_nat _ (by have : slice * part ≤ 4 * 256 := Nat.mul_le_mul (by omega) (by omega); omega)
  have wi : IntKind.i64.wrap ((i : Int) - 1) = (i : Int) - 1 := wrap_i64_id _ (by omega)
  have hpage : ∀ j, j < 4 * part → (pageAt (fs.getD q []) j).length = 128 := by
    intro j hj
    have hm : fs.getD q [] ∈ fs := by rw [List.getD_eq_getElem?_getD, List.getElem?_eq_getElem (by omega)]; exact List.getElem_mem _
    unfold pageAt
    rw [List.length_take, List.length_drop, hfl _ hm]
    omega
  by_cases hp : 0 < pass
  · by_cases hql : q = lane
    · have hb : (((q : Nat) : Int) == (lane : Int)) = true := by simp [hql]
      have ho : oLane pass slice lane l w = q := by unfold oLane; rw [if_neg (by omega), hq]
      obtain ⟨D, hD⟩ : ∃ D, D = 3 * part + i - 1 := ⟨_, rfl⟩
      have hDl : D ≤ 2000 := by omega
      have hD0 : 0 < D := by omega
      have wd : IntKind.i64.wrap (((3 * part : Nat) : Int) + ((i : Int) - 1)) = (D : Int) := by rw [wrap_i64_id _ (by omega)]; omega
      have hDD : oDone pass slice lane i part l w = D := by unfold oDone; rw [ho, if_pos hql, if_pos hp, hD]
      have hWD : whichN D (w % 4294967296) < D := by unfold whichN; omega
      obtain ⟨Bg, hB⟩ : ∃ Bg, Bg = (slice + 1) * part := ⟨_, rfl⟩
      have hBl : Bg ≤ 5 * 256 := by rw [hB]; exact Nat.mul_le_mul (by omega) (by omega)
      have hBB : oBegin pass slice part = Bg := by unfold oBegin; rw [if_pos hp, hB]
      have wb2 : IntKind.i64.wrap ((Bg : Int) + (whichN D (w % 4294967296) : Int)) = ((Bg + whichN D (w % 4294967296) : Nat) : Int) := by rw [wrap_i64_id _ (by omega)]; omega
      have wb3 : ((Bg + whichN D (w % 4294967296) : Nat) : Int).tmod ((4 * part : Nat) : Int) = (((Bg + whichN D (w % 4294967296)) % (4 * part) : Nat) : Int) := by rw [← Int.ofNat_tmod]
      have hlt4 : (Bg + whichN D (w % 4294967296)) % (4 * part) < 4 * part := Nat.mod_lt _ (by omega)
      have hpj := hpg _ hlt4
      have hpa := hpage ((Bg + whichN D (w % 4294967296)) % (4 * part)) hlt4
      have hpt := List.take_of_length_le (Nat.le_of_eq hpa)
      unfold oIdx
      rw [ho, hDD, hBB]
      rw [hB] at wb2 wb3 hlt4 hpj hpa hpt ⊢
      skip
      skip
      refine bd (good25 0) Try.func77 ?_
      repeat (first | simp only [c25_P, c25_odd, c25_ro, Nat.reduceBEq, reduceIte, Nat.reduceEqDiff, reduceCtorEq, ne_eq, if_true, if_false, exA, exA, tabs, exB, exD, buildA, rowOr, rowSetAt, rowAgg, mkAgg, AV.isAggV, AV.parts, AV.one, AV.solid, headSize, indexAddrA, indexA, fieldAddrA, fieldA, sliceA, boundsA, bndA, lenA, arrayAtA, rowOf, makeSliceA, intsOf, copyA, Nat.reduceAdd, Nat.reduceSub, Nat.reduceMul, Nat.reduceLeDiff, Nat.reduceLT, Nat.reduceGT, Int.reduceToNat, Int.reduceLE, Int.reduceLT, Int.reduceEq, Int.reduceNe, Int.reduceAdd, Int.reduceSub, Int.reduceMul, Int.reduceNeg, ite_true, ite_false, dite_true, xc10, xc11, xc12, xc13, xc14, xc15, xc16, xc17, xc20, xc21, xc22, xc23, xc24, xc25, run_range, exR, hsh, w1, w2, hml, hl0, hesl, hg, hpl, wi, hw32, hb, wb2, wb3, hpj, hpa, hpt, wd, wb1] | simp (maxSteps := 1000000) (disch := omega) only [exE, Int.toNat_natCast, Int.reduceToNat])
      repeat with_reducible refine gd ?_
      exact Int.ofNat_lt.2 hlt4
    · have hb : (((q : Nat) : Int) == (lane : Int)) = false := by simp; omega
      by_cases hi : i = 0
      · have hib : ((i : Int) == 0) = true := by simp [hi]
        have ho : oLane pass slice lane l w = q := by unfold oLane; rw [if_neg (by omega), hq]
        obtain ⟨D, hD⟩ : ∃ D, D = 3 * part - 1 := ⟨_, rfl⟩
        have hDl : D ≤ 2000 := by omega
        have hD0 : 0 < D := by omega
        have hDD : oDone pass slice lane i part l w = D := by unfold oDone; rw [ho, if_neg hql, if_pos hi, if_pos hp, hD]
        have hWD : whichN D (w % 4294967296) < D := by unfold whichN; omega
        obtain ⟨Bg, hB⟩ : ∃ Bg, Bg = (slice + 1) * part := ⟨_, rfl⟩
        have hBl : Bg ≤ 5 * 256 := by rw [hB]; exact Nat.mul_le_mul (by omega) (by omega)
        have hBB : oBegin pass slice part = Bg := by unfold oBegin; rw [if_pos hp, hB]
        have wb2 : IntKind.i64.wrap ((Bg : Int) + (whichN D (w % 4294967296) : Int)) = ((Bg + whichN D (w % 4294967296) : Nat) : Int) := by rw [wrap_i64_id _ (by omega)]; omega
        have wb3 : ((Bg + whichN D (w % 4294967296) : Nat) : Int).tmod ((4 * part : Nat) : Int) = (((Bg + whichN D (w % 4294967296)) % (4 * part) : Nat) : Int) := by rw [← Int.ofNat_tmod]
        have hlt4 : (Bg + whichN D (w % 4294967296)) % (4 * part) < 4 * part := Nat.mod_lt _ (by omega)
        have hpj := hpg _ hlt4
        have hpa := hpage ((Bg + whichN D (w % 4294967296)) % (4 * part)) hlt4
        have hpt := List.take_of_length_le (Nat.le_of_eq hpa)
        unfold oIdx
        rw [ho, hDD, hBB]
        rw [hB, hD] at wb2 wb3 hlt4 hpj hpa hpt ⊢
        rw [hD] at hWD
        skip
        refine bd (good25 0) Try.func77 ?_
        refine go25 (an hsh (an w1 (an w2 (an hml (an hl0 (an hesl (an hg (an hpl (an wi (an hw32 (an hb (an wb2 (an wb3 (an hpj (an hpa (an hpt (an wb1 hib))))))))))))))))) ?_
        repeat with_reducible refine gd ?_
        exact Int.ofNat_lt.2 hlt4
      · have hib : ((i : Int) == 0) = false := by simp; omega
        have ho : oLane pass slice lane l w = q := by unfold oLane; rw [if_neg (by omega), hq]
        obtain ⟨D, hD⟩ : ∃ D, D = 3 * part := ⟨_, rfl⟩
        have hDl : D ≤ 2000 := by omega
        have hD0 : 0 < D := by omega
        have hDD : oDone pass slice lane i part l w = D := by unfold oDone; rw [ho, if_neg hql, if_neg hi, if_pos hp, hD]
        have hWD : whichN D (w % 4294967296) < D := by unfold whichN; omega
        obtain ⟨Bg, hB⟩ : ∃ Bg, Bg = (slice + 1) * part := ⟨_, rfl⟩
        have hBl : Bg ≤ 5 * 256 := by rw [hB]; exact Nat.mul_le_mul (by omega) (by omega)
        have hBB : oBegin pass slice part = Bg := by unfold oBegin; rw [if_pos hp, hB]
        have wb2 : IntKind.i64.wrap ((Bg : Int) + (whichN D (w % 4294967296) : Int)) = ((Bg + whichN D (w % 4294967296) : Nat) : Int) := by rw [wrap_i64_id _ (by omega)]; omega
        have wb3 : ((Bg + whichN D (w % 4294967296) : Nat) : Int).tmod ((4 * part : Nat) : Int) = (((Bg + whichN D (w % 4294967296)) % (4 * part) : Nat) : Int) := by rw [← Int.ofNat_tmod]
        have hlt4 : (Bg + whichN D (w % 4294967296)) % (4 * part) < 4 * part := Nat.mod_lt _ (by omega)
        have hpj := hpg _ hlt4
        have hpa := hpage ((Bg + whichN D (w % 4294967296)) % (4 * part)) hlt4
        have hpt := List.take_of_length_le (Nat.le_of_eq hpa)
        unfold oIdx
        rw [ho, hDD, hBB]
        rw [hB, hD] at wb2 wb3 hlt4 hpj hpa hpt ⊢
        rw [hD] at hWD
        skip
        refine bd (good25 0) Try.func77 ?_
        refine go25 (an hsh (an w1 (an w2 (an hml (an hl0 (an hesl (an hg (an hpl (an wi (an hw32 (an hb (an wb2 (an wb3 (an hpj (an hpa (an hpt (an wb1 hib))))))))))))))))) ?_
        repeat with_reducible refine gd ?_
        exact Int.ofNat_lt.2 hlt4
  by_cases hs : slice = 0
  · have hp0 : pass = 0 := by omega
    subst hp0; subst hs
    have h2i := h8 rfl rfl
    have hb : ((lane : Int) == (lane : Int)) = true := by simp
    have ho : oLane 0 0 lane l w = lane := by unfold oLane; rw [if_pos ⟨rfl, rfl⟩]
    obtain ⟨pl, hpls⟩ : ∃ pl, pl = (List.range (4 * part)).map fun i => AV.arr 128 .u64 (pageAt (fs.getD lane []) i) := ⟨_, rfl⟩
    have hgl : es.getD lane .any = .roL 128 pl := by rw [hget lane h9, hpls]; rfl
    have hpll : pl.length = 4 * part := by rw [hpls, List.length_map, List.length_range]
    have wi2 : IntKind.i64.wrap ((i : Int) - 1) = ((i - 1 : Nat) : Int) := by rw [wrap_i64_id _ (by omega)]; omega
    have hDD : oDone 0 0 lane i part l w = i - 1 := by unfold oDone; rw [ho, if_pos rfl, if_neg (by omega), Nat.zero_mul, Nat.zero_add]
    have hBB : oBegin 0 0 part = 0 := rfl
    have hWD : whichN (i - 1) (w % 4294967296) < i - 1 := by unfold whichN; omega
    have wb2 : IntKind.i64.wrap (0 + (whichN (i - 1) (w % 4294967296) : Int)) = ((whichN (i - 1) (w % 4294967296) : Nat) : Int) := by rw [wrap_i64_id _ (by omega)]; omega
    have wb3 : ((whichN (i - 1) (w % 4294967296) : Nat) : Int).tmod ((4 * part : Nat) : Int) = ((whichN (i - 1) (w % 4294967296) % (4 * part) : Nat) : Int) := by rw [← Int.ofNat_tmod]
    have hlt4 : whichN (i - 1) (w % 4294967296) % (4 * part) < 4 * part := Nat.mod_lt _ (by omega)
    have hpj : pl.getD (whichN (i - 1) (w % 4294967296) % (4 * part)) .any = .arr 128 .u64 (pageAt (fs.getD lane []) (whichN (i - 1) (w % 4294967296) % (4 * part))) := by
      rw [hpls, List.getD_eq_getElem?_getD, List.getElem?_map, List.getElem?_eq_getElem (by rw [List.length_range]; exact hlt4), List.getElem_range]; rfl
    have hpa : (pageAt (fs.getD lane []) (whichN (i - 1) (w % 4294967296) % (4 * part))).length = 128 := by
      have hm : fs.getD lane [] ∈ fs := by rw [List.getD_eq_getElem?_getD, List.getElem?_eq_getElem (by omega)]; exact List.getElem_mem _
      unfold pageAt
      rw [List.length_take, List.length_drop, hfl _ hm]
      omega
    have hpt := List.take_of_length_le (Nat.le_of_eq hpa)
    unfold oIdx
    rw [ho, hDD, hBB, Nat.zero_add]
    refine bd (good25 0) Try.func77 ?_
    refine go25 (an hsh (an w1 (an w2 (an hml (an hl0 (an hesl (an hgl (an hpll (an wi2 (an hw32 (an hb (an wb2 (an wb3 (an hpj (an hpa hpt))))))))))))))) ?_
    repeat with_reducible refine gd ?_
    exact Int.ofNat_lt.2 hlt4
  · by_cases hql : q = lane
    · have hb : (((q : Nat) : Int) == (lane : Int)) = true := by simp [hql]
      have hpz : ((pass : Int) == 0) = true := by simp; omega
      have hsz : ((slice : Int) == 0) = false := by simp; omega
      have ho : oLane pass slice lane l w = q := by unfold oLane; rw [if_neg (by omega), hq]
      obtain ⟨D, hD⟩ : ∃ D, D = slice * part + i - 1 := ⟨_, rfl⟩
      have hsp : slice * part ≤ 4 * 256 := Nat.mul_le_mul (by omega) (by omega)
      have hsp1 : 1 * 2 ≤ slice * part := Nat.mul_le_mul (by omega) (by omega)
      have hDl : D ≤ 2000 := by omega
      have hD0 : 0 < D := by omega
      have wd : IntKind.i64.wrap (((slice * part : Nat) : Int) + ((i : Int) - 1)) = (D : Int) := by rw [wrap_i64_id _ (by omega)]; omega
      have hDD : oDone pass slice lane i part l w = D := by unfold oDone; rw [ho, if_pos hql, if_neg hp, hD]
      have hWD : whichN D (w % 4294967296) < D := by unfold whichN; omega
      obtain ⟨Bg, hB⟩ : ∃ Bg, Bg = 0 := ⟨_, rfl⟩
      have hBl : Bg ≤ 5 * 256 := by omega
      have hBB : oBegin pass slice part = Bg := by unfold oBegin; rw [if_neg hp, hB]
      have wb2 : IntKind.i64.wrap ((Bg : Int) + (whichN D (w % 4294967296) : Int)) = ((Bg + whichN D (w % 4294967296) : Nat) : Int) := by rw [wrap_i64_id _ (by omega)]; omega
      have wb3 : ((Bg + whichN D (w % 4294967296) : Nat) : Int).tmod ((4 * part : Nat) : Int) = (((Bg + whichN D (w % 4294967296)) % (4 * part) : Nat) : Int) := by rw [← Int.ofNat_tmod]
      have hlt4 : (Bg + whichN D (w % 4294967296)) % (4 * part) < 4 * part := Nat.mod_lt _ (by omega)
      have hpj := hpg _ hlt4
      have hpa := hpage ((Bg + whichN D (w % 4294967296)) % (4 * part)) hlt4
      have hpt := List.take_of_length_le (Nat.le_of_eq hpa)
      unfold oIdx
      rw [ho, hDD, hBB]
      rw [hB] at wb2 wb3 hlt4 hpj hpa hpt ⊢
      skip
      simp only [Nat.zero_add, Int.cast_ofNat_Int, Int.zero_add] at wb2 wb3 hlt4 hpj hpa hpt ⊢
      refine bd (good25 0) Try.func77 ?_
      repeat (first | simp only [c25_P, c25_odd, c25_ro, Nat.reduceBEq, reduceIte, Nat.reduceEqDiff, reduceCtorEq, ne_eq, if_true, if_false, exA, exA, tabs, exB, exD, buildA, rowOr, rowSetAt, rowAgg, mkAgg, AV.isAggV, AV.parts, AV.one, AV.solid, headSize, indexAddrA, indexA, fieldAddrA, fieldA, sliceA, boundsA, bndA, lenA, arrayAtA, rowOf, makeSliceA, intsOf, copyA, Nat.reduceAdd, Nat.reduceSub, Nat.reduceMul, Nat.reduceLeDiff, Nat.reduceLT, Nat.reduceGT, Int.reduceToNat, Int.reduceLE, Int.reduceLT, Int.reduceEq, Int.reduceNe, Int.reduceAdd, Int.reduceSub, Int.reduceMul, Int.reduceNeg, ite_true, ite_false, dite_true, xc10, xc11, xc12, xc13, xc14, xc15, xc16, xc17, xc20, xc21, xc22, xc23, xc24, xc25, run_range, exR, hsh, w1, w2, hml, hl0, hesl, hg, hpl, wi, hw32, hb, wb2, wb3, hpj, hpa, hpt, wd, wsp, hsz] | simp (maxSteps := 1000000) (disch := omega) only [exE, Int.toNat_natCast, Int.reduceToNat])
      repeat with_reducible refine gd ?_
      exact Int.ofNat_lt.2 hlt4
    · have hb : (((q : Nat) : Int) == (lane : Int)) = false := by simp; omega
      have hsz : ((slice : Int) == 0) = false := by simp; omega
      by_cases hi : i = 0
      · have hib : ((i : Int) == 0) = true := by simp [hi]
        have ho : oLane pass slice lane l w = q := by unfold oLane; rw [if_neg (by omega), hq]
        obtain ⟨D, hD⟩ : ∃ D, D = slice * part - 1 := ⟨_, rfl⟩
        have hsp : slice * part ≤ 4 * 256 := Nat.mul_le_mul (by omega) (by omega)
        have hsp1 : 1 * 2 ≤ slice * part := Nat.mul_le_mul (by omega) (by omega)
        have hDl : D ≤ 2000 := by omega
        have hD0 : 0 < D := by omega
        have hDD : oDone pass slice lane i part l w = D := by unfold oDone; rw [ho, if_neg hql, if_pos hi, if_neg hp, hD]
        have hWD : whichN D (w % 4294967296) < D := by unfold whichN; omega
        obtain ⟨Bg, hB⟩ : ∃ Bg, Bg = 0 := ⟨_, rfl⟩
        have hBl : Bg ≤ 5 * 256 := by omega
        have hBB : oBegin pass slice part = Bg := by unfold oBegin; rw [if_neg hp, hB]
        have wb2 : IntKind.i64.wrap ((Bg : Int) + (whichN D (w % 4294967296) : Int)) = ((Bg + whichN D (w % 4294967296) : Nat) : Int) := by rw [wrap_i64_id _ (by omega)]; omega
        have wb3 : ((Bg + whichN D (w % 4294967296) : Nat) : Int).tmod ((4 * part : Nat) : Int) = (((Bg + whichN D (w % 4294967296)) % (4 * part) : Nat) : Int) := by rw [← Int.ofNat_tmod]
        have hlt4 : (Bg + whichN D (w % 4294967296)) % (4 * part) < 4 * part := Nat.mod_lt _ (by omega)
        have hpj := hpg _ hlt4
        have hpa := hpage ((Bg + whichN D (w % 4294967296)) % (4 * part)) hlt4
        have hpt := List.take_of_length_le (Nat.le_of_eq hpa)
        unfold oIdx
        rw [ho, hDD, hBB]
        rw [hB, hD] at wb2 wb3 hlt4 hpj hpa hpt ⊢
        rw [hD] at hWD
        simp only [Nat.zero_add, Int.cast_ofNat_Int, Int.zero_add] at wb2 wb3 hlt4 hpj hpa hpt ⊢
        refine bd (good25 0) Try.func77 ?_
        refine go25 (an hsh (an w1 (an w2 (an hml (an hl0 (an hesl (an hg (an hpl (an wi (an hw32 (an hb (an wb2 (an wb3 (an hpj (an hpa (an hpt (an wsp (an hsz hib)))))))))))))))))) ?_
        repeat with_reducible refine gd ?_
        exact Int.ofNat_lt.2 hlt4
      · have hib : ((i : Int) == 0) = false := by simp; omega
        have ho : oLane pass slice lane l w = q := by unfold oLane; rw [if_neg (by omega), hq]
        obtain ⟨D, hD⟩ : ∃ D, D = slice * part := ⟨_, rfl⟩
        have hsp : slice * part ≤ 4 * 256 := Nat.mul_le_mul (by omega) (by omega)
        have hsp1 : 1 * 2 ≤ slice * part := Nat.mul_le_mul (by omega) (by omega)
        have hDl : D ≤ 2000 := by omega
        have hD0 : 0 < D := by omega
        have hDD : oDone pass slice lane i part l w = D := by unfold oDone; rw [ho, if_neg hql, if_neg hi, if_neg hp, hD]
        have hWD : whichN D (w % 4294967296) < D := by unfold whichN; omega
        obtain ⟨Bg, hB⟩ : ∃ Bg, Bg = 0 := ⟨_, rfl⟩
        have hBl : Bg ≤ 5 * 256 := by omega
        have hBB : oBegin pass slice part = Bg := by unfold oBegin; rw [if_neg hp, hB]
        have wb2 : IntKind.i64.wrap ((Bg : Int) + (whichN D (w % 4294967296) : Int)) = ((Bg + whichN D (w % 4294967296) : Nat) : Int) := by rw [wrap_i64_id _ (by omega)]; omega
        have wb3 : ((Bg + whichN D (w % 4294967296) : Nat) : Int).tmod ((4 * part : Nat) : Int) = (((Bg + whichN D (w % 4294967296)) % (4 * part) : Nat) : Int) := by rw [← Int.ofNat_tmod]
        have hlt4 : (Bg + whichN D (w % 4294967296)) % (4 * part) < 4 * part := Nat.mod_lt _ (by omega)
        have hpj := hpg _ hlt4
        have hpa := hpage ((Bg + whichN D (w % 4294967296)) % (4 * part)) hlt4
        have hpt := List.take_of_length_le (Nat.le_of_eq hpa)
        unfold oIdx
        rw [ho, hDD, hBB]
        rw [hB, hD] at wb2 wb3 hlt4 hpj hpa hpt ⊢
        rw [hD] at hWD
        simp only [Nat.zero_add, Int.cast_ofNat_Int, Int.zero_add] at wb2 wb3 hlt4 hpj hpa hpt ⊢
        refine bd (good25 0) Try.func77 ?_
        refine go25 (an hsh (an w1 (an w2 (an hml (an hl0 (an hesl (an hg (an hpl (an wi (an hw32 (an hb (an wb2 (an wb3 (an hpj (an hpa (an hpt (an wsp (an hsz hib)))))))))))))))))) ?_
        repeat with_reducible refine gd ?_
        exact Int.ofNat_lt.2 hlt4
end Go.Proofs.Ytfnfmbikooeiaaa

namespace Go.Proofs.Ytfnfmbikooeiaaa
open Go.Ax
def flatOf (h : List Blk) (n : Nat) : AV → Option (List Int)
  | .sl b 0 128 0 len _ =>
    match row h b with
    | some [.arr N .u64 f] => oguard (len = n ∧ N = n * 128 ∧ f.length = n * 128) (some f)
    | _ => none
  | _ => none
theorem flatOf_frz {h : List Blk} {n : Nat} {x : AV} {f : List Int} (e : flatOf h n x = some f) : x.solid = true ∧ Frz h (List.range h.length) x (laneA n f) ∧ f.length = n * 128 := by
  unfold flatOf at e
  split at e
  · rename_i b len cap
    split at e
    · rename_i N f' hrow
      obtain ⟨⟨e1, e2, h3⟩, e3⟩ := oguard_some e
      cases e3
      subst e1 e2
      exact ⟨rfl, Frz.pages (by decide) (List.mem_range.2 (row_lt hrow)) hrow, h3⟩
    · cases e
  · cases e
theorem allOf_flats {h : List Blk} {n : Nat} : ∀ {xs : List AV} {fs : List (List Int)}, allOf (flatOf h n) xs = some fs →
    FrzL h (List.range h.length) xs (fs.map (laneA n)) ∧ (∀ x ∈ xs, x.solid = true) ∧ (∀ f ∈ fs, f.length = n * 128) ∧ xs.length = fs.length
  | [], fs, e => by cases e; exact ⟨trivial, by simp, by simp, rfl⟩
  | x :: xs, fs, e => by
    unfold allOf at e
    obtain ⟨a, ha, e⟩ := Option.bind_eq_some_iff.1 e
    obtain ⟨l, hl, e⟩ := Option.map_eq_some_iff.1 e
    subst e
    obtain ⟨h1, h2, h3, h4⟩ := allOf_flats hl
    obtain ⟨g1, g2, g3⟩ := flatOf_frz ha
    refine ⟨⟨g2, h1⟩, ?_, ?_, by simp [h4]⟩
    · intro y hy
      rcases List.mem_cons.1 hy with rfl | hy
      · exact g1
      · exact h2 y hy
    · intro y hy
      rcases List.mem_cons.1 hy with rfl | hy
      · exact g3
      · exact h3 y hy
def othL (pass slice lane i w : Int) (h : List Blk) (t l part : Int) (L : Nat) (xs : List AV) : Option Out :=
  (allOf (flatOf h (4 * part.toNat)) xs).bind fun fs =>
    oguard ((0 ≤ pass ∧ pass ≤ 8) ∧ (0 ≤ slice ∧ slice ≤ 4) ∧ (0 ≤ lane ∧ lane ≤ 4) ∧ (0 ≤ i ∧ i < part) ∧ (0 ≤ t ∧ t ≤ 8) ∧ (1 ≤ l ∧ l ≤ 4) ∧ (2 ≤ part ∧ part ≤ 256) ∧ (pass = 0 → slice = 0 → 2 ≤ i) ∧ lane < l ∧ fs.length = l.toNat ∧ L = l.toNat ∧ (0 ≤ w ∧ w < 18446744073709551616))
      (some (.one (.arr 128 .u64 (pageAt (fs.getD (oLane pass.toNat slice.toNat lane.toNat l.toNat w.toNat) []) (oIdx pass.toNat slice.toNat lane.toNat i.toNat part.toNat l.toNat w.toNat))) h))
def othK (pass slice lane i w : Int) (h : List Blk) : List AV → Option Out
  | [.v (.int .i64 t), .v (.int .i64 _), .v (.int .i64 l), .sl b1 0 1 0 L _, .v (.int .i64 part)] => (row h b1).bind (othL pass slice lane i w h t l part L)
  | _ => none
theorem othK_eq (pass slice lane i w t m l part : Int) (b1 L cap : Nat) (h : List Blk) : othK pass slice lane i w h [.v (.int .i64 t), .v (.int .i64 m), .v (.int .i64 l), .sl b1 0 1 0 L cap, .v (.int .i64 part)] = (row h b1).bind (othL pass slice lane i w h t l part L) := rfl
def N77 (h : List Blk) : List AV → Option Out
  | [.ptr b 0 0, .agg [.v (.int .i64 pass), .v (.int .i64 slice), .v (.int .i64 lane), .v (.int .i64 i)], .v (.int .u64 w)] => (row h b).bind (othK pass slice lane i w h)
  | _ => none
theorem N77_eq (h : List Blk) (b : Nat) (pass slice lane i w : Int) : N77 h [.ptr b 0 0, .agg [.v (.int .i64 pass), .v (.int .i64 slice), .v (.int .i64 lane), .v (.int .i64 i)], .v (.int .u64 w)] = (row h b).bind (othK pass slice lane i w h) := rfl
theorem N77_use (h : List Blk) (args : List AV) (out : Out) (hN : N77 h args = some out) : (out.all fun _ h' => ∃ ext, h' = h ++ ext) ∧ ∀ κ, out.all κ → ACall Try.prog 77 args h κ := by
  unfold N77 at hN
  split at hN
  · rename_i b pass slice lane i w
    obtain ⟨ps, hrow, hN⟩ := Option.bind_eq_some_iff.1 hN
    unfold othK at hN
    split at hN
    · rename_i t m l b1 L cap part
      obtain ⟨xs, hrow1, hN⟩ := Option.bind_eq_some_iff.1 hN
      unfold othL at hN
      obtain ⟨fs, hfs, hN⟩ := Option.bind_eq_some_iff.1 hN
      obtain ⟨⟨h1, h2, h3, h4, h5, h6, h7, h8, h9, h10, h11, h12⟩, hN⟩ := oguard_some hN
      cases hN
      obtain ⟨pass, rfl⟩ := Int.eq_ofNat_of_zero_le h1.1
      obtain ⟨slice, rfl⟩ := Int.eq_ofNat_of_zero_le h2.1
      obtain ⟨lane, rfl⟩ := Int.eq_ofNat_of_zero_le h3.1
      obtain ⟨i, rfl⟩ := Int.eq_ofNat_of_zero_le h4.1
      obtain ⟨t, rfl⟩ := Int.eq_ofNat_of_zero_le h5.1
      obtain ⟨l, rfl⟩ := Int.eq_ofNat_of_zero_le (show 0 ≤ l by omega)
      obtain ⟨part, rfl⟩ := Int.eq_ofNat_of_zero_le (show 0 ≤ part by omega)
      obtain ⟨w, rfl⟩ := Int.eq_ofNat_of_zero_le h12.1
      simp only [Int.toNat_natCast] at hfs h10 h11
      obtain ⟨g1, g2, g3, g4⟩ := allOf_flats hfs
      have hs : ACall Try.prog 77 [.rop (.agg [.v (.int .i64 (t : Nat)), .v (.int .i64 m), .v (.int .i64 (l : Nat)), lanesA (4 * part) fs, .v (.int .i64 (part : Nat))]), .agg [.v (.int .i64 (pass : Nat)), .v (.int .i64 (slice : Nat)), .v (.int .i64 (lane : Nat)), .v (.int .i64 (i : Nat))], .v (.int .u64 (w : Nat))] [] fun v h' => v = .arr 128 .u64 (pageAt (fs.getD (oLane pass slice lane l w) []) (oIdx pass slice lane i part l w)) ∧ h' = [] := by
        refine ACall.weak (C := c25 0) rfl (other_spec pass slice lane i t l part w m fs (by omega) (by omega) (by omega) (by omega) (by omega) (by omega) (by omega) (fun e1 e2 => by have := h8 (by omega) (by omega); omega) (by omega) h10 g3 (by omega)) ?_
        rintro v h' rfl
        exact ⟨_, [], weak_none rfl rfl, rfl, rfl⟩
      have hlanes : Frz h (List.range h.length) (.sl b1 0 1 0 L cap) (lanesA (4 * part) fs) := by
        refine Frz.list2 (es := xs) (List.mem_range.2 (row_lt hrow1)) hrow1 g2 (by omega) ?_ g1 ?_
        · rw [List.drop_zero]; exact List.take_of_length_le (by omega)
        · intro y hy
          obtain ⟨f, _, rfl⟩ := List.mem_map.1 hy
          rfl
      refine ⟨⟨[], by simp⟩, fun κ hκ => news_ok (args := [.ptr b 0 0, .agg [.v (.int .i64 (pass : Nat)), .v (.int .i64 (slice : Nat)), .v (.int .i64 (lane : Nat)), .v (.int .i64 (i : Nat))], .v (.int .u64 (w : Nat))]) hs (by rintro _ _ ⟨rfl, rfl⟩; exact ⟨rfl, rfl⟩) ?_
        ⟨Frz.struct2 (List.mem_range.2 (row_lt hrow)) hrow ?_ ?_ ⟨Frz.same _, Frz.same _, Frz.same _, hlanes, Frz.same _, trivial⟩, Frz.same _, Frz.same _, trivial⟩ ?_ hκ⟩
      · intro g
        rfl
      · intro x hx
        simp only [List.mem_cons, List.not_mem_nil, or_false] at hx
        rcases hx with rfl | rfl | rfl | rfl | rfl <;> rfl
      · intro x hx
        simp only [List.mem_cons, List.not_mem_nil, or_false] at hx
        rcases hx with rfl | rfl | rfl | rfl | rfl <;> rfl
      · rintro _ _ ⟨rfl, rfl⟩
        exact ⟨rfl, by simp⟩
    · cases hN
  · cases hN
end Go.Proofs.Ytfnfmbikooeiaaa
