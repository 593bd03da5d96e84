/- Part of the proof. -/
import Derived.Test.YtgkhngcnbddoiaaAc
import Derived.Test.YtgkhngcnbddoiaaChecked
import Derived.Shelf.SlMaps.Clone
import Derived.Shelf.SlIterI.Nil
import Derived.Shelf.SortM.Plain
import Derived.Shelf.SortM.SortNone
import Derived.Ground.GgzProg
import Derived.Ground.SlgmProg
set_option linter.unusedSimpArgs false
set_option linter.unusedVariables false
set_option maxHeartbeats 4000000
set_option maxRecDepth 100000
namespace Go.Proofs.Ytgkhngcnbddoiaa
open Go.Ax
def F53 : List AV → Option AV
  | [.agg [.v (.int .u64 a), .v (.int .i64 b), .v (.int .i64 c), .v (.int .i64 d), .v (.int .i64 e), .v (.int .i64 f), .v (.int .i64 g), .v (.int .i64 h), .arr 16 .u8 n], .agg [.v (.int .u64 p), .v (.bool q), .v (.int .i64 r), .arr 32 .u8 t]] => oguard (0 ≤ a ∧ t.length = 32) (some (nxA ⟨a, b, c, d, e, f, g, h, n⟩ ⟨p, q, r, t⟩))
  | _ => none
theorem F53_eq (a b c d e f g h p r : Int) (n t : List Int) (q : Bool) : F53 [.agg [.v (.int .u64 a), .v (.int .i64 b), .v (.int .i64 c), .v (.int .i64 d), .v (.int .i64 e), .v (.int .i64 f), .v (.int .i64 g), .v (.int .i64 h), .arr 16 .u8 n], .agg [.v (.int .u64 p), .v (.bool q), .v (.int .i64 r), .arr 32 .u8 t]] = oguard (0 ≤ a ∧ t.length = 32) (some (nxA ⟨a, b, c, d, e, f, g, h, n⟩ ⟨p, q, r, t⟩)) := rfl
noncomputable def p6 : FuncId → Option (List AV → Option AV) := addPure (addPure p5 53 F53) 67 F53
noncomputable def c6 (k : Nat) : Cfg := ⟨Try.prog, k, p6, [], fun _ => none, none, []⟩
theorem c6_odd (k : Nat) : (c6 k).odd = [] := rfl
theorem c6_ro (k : Nat) : (c6 k).ro = [] := rfl
theorem c6_P (k : Nat) : (c6 k).P = Try.prog := rfl
theorem c6_pure (k : Nat) : (c6 k).pure = p6 := rfl
theorem c6_news (k : Nat) : (c6 k).news = fun _ => none := rfl
theorem xc6 :
  (type_of% @c6_pure) ∧
  (type_of% @c6_news) ∧
  (type_of% @Go.Proofs.Ytgkhngcnbddoiaa.p6.eq_1) ∧
  (type_of% @F53_eq) :=
  ⟨@c6_pure, @c6_news, @Go.Proofs.Ytgkhngcnbddoiaa.p6.eq_1, @F53_eq⟩
theorem good6 (k : Nat) : (c6 k).Good := by
  refine Cfg.Good.add (Cfg.Good.add (good5 k) ?_ k) ?_ k
  · intro args v hF h κ hκ
    unfold F53 at hF
    split at hF
    · obtain ⟨h0, hF⟩ := oguard_some hF
      cases hF
      exact pure_call (next53 ⟨_, _, _, _, _, _, _, _, _⟩ ⟨_, _, _, _⟩ h0.1 h0.2) (fun g => by unfold nxA; split <;> rfl) (fun g => rfl) h κ hκ
    · cases hF
  · intro args v hF h κ hκ
    unfold F53 at hF
    split at hF
    · obtain ⟨h0, hF⟩ := oguard_some hF
      cases hF
      exact pure_call (next67 ⟨_, _, _, _, _, _, _, _, _⟩ ⟨_, _, _, _⟩ h0.1 h0.2) (fun g => by unfold nxA; split <;> rfl) (fun g => rfl) h κ hκ
    · cases hF
def dnB (H : Hd) (R : Rt) : Bool := toN H R == H.sec
def aft (H : Hd) (R : Rt) : Rt := ⟨R.ctr, !dnB H R, if dnB H R = true then 0 else toN H R, R.tre⟩
def afA (H : Hd) (R : Rt) : AV := if stE H R = 0 then .tup [.agg [.v (.int .u64 R.ctr), .v (.bool (!dnB H R)), .v (.int .i64 (if dnB H R = true then 0 else toN H R)), .arr 32 .u8 R.tre], .v (.bool (dnB H R)), .v (.int .i64 0)] else .tup [.agg [.v (.int .u64 0), .v (.bool false), .v (.int .i64 0), .arr 32 .u8 (List.replicate 32 0)], .v (.bool false), .v (.int .i64 (stE H R))]
theorem nx_0 {H : Hd} {R : Rt} (h : stE H R = 0) : nxA H R = .tup [.v (.int .i64 R.fro), .v (.int .i64 (toN H R)), .v (.int .i64 0)] := by rw [nxA, if_pos h]
theorem nx_n {H : Hd} {R : Rt} (h : ¬ stE H R = 0) : nxA H R = .tup [.v (.int .i64 0), .v (.int .i64 0), .v (.int .i64 (stE H R))] := by rw [nxA, if_neg h]
theorem after35 (H : Hd) (R : Rt) (hg : 0 ≤ H.gen) (ht : R.tre.length = 32) : ACall Try.prog 35 [.agg [.v (.int .u64 H.gen), .v (.int .i64 H.sec), .v (.int .i64 H.slo), .v (.int .i64 H.jou), .v (.int .i64 H.seg), .v (.int .i64 H.tim), .v (.int .i64 H.mem), .v (.int .i64 H.lan), .arr 16 .u8 H.nam], .agg [.v (.int .u64 R.ctr), .v (.bool R.rek), .v (.int .i64 R.fro), .arr 32 .u8 R.tre]] [] fun v _ => v = afA H R := by
  have ht2 : R.tre.take 32 = R.tre := List.take_of_length_le (by omega)
  have hz : (List.replicate 32 (0 : Int)).take 32 = List.replicate 32 0 := rfl
  by_cases h : stE H R = 0
  · have hb := mayB_b (stE_0 h).1
    have hto : toN H R ≤ H.sec := by unfold toN; split <;> omega
    rw [afA, if_pos h]
    cases h5 : dnB H R
    · have h6 : (toN H R == H.sec) = false := h5
      have h7 : toN H R < H.sec := by simp only [beq_eq_false_iff_ne, ne_eq] at h6; omega
      refine acall_run (good6 0) Try.func35 rfl ⟨by kernel_rfl, by show 2 ≤ _; decide, by kernel_rfl, by kernel_rfl⟩ rfl ?_; have hr : Try.f35.results.toList = [.cell 4 70, .tmp 5, .tmp 6] := rfl; repeat (first | simp only [c6_P, c6_odd, c6_ro, Nat.reduceBEq, reduceIte, Nat.reduceEqDiff, reduceCtorEq, ne_eq, if_true, if_false, exA, exA, tabs, exB, exD, buildA, rowOr, rowSetAt, rowAgg, mkAgg, AV.isAggV, AV.parts, AV.one, AV.solid, headSize, indexAddrA, indexA, fieldAddrA, fieldA, sliceA, boundsA, bndA, lenA, arrayAtA, rowOf, makeSliceA, intsOf, copyA, Nat.reduceAdd, Nat.reduceSub, Nat.reduceMul, Nat.reduceLeDiff, Nat.reduceLT, Nat.reduceGT, Int.reduceToNat, Int.reduceLE, Int.reduceLT, Int.reduceEq, Int.reduceNe, Int.reduceAdd, Int.reduceSub, Int.reduceMul, Int.reduceNeg, ite_true, ite_false, dite_true, xc1, xc2, xc3, xc4, xc5, xc6, hr, hg, ht, ht2, Hd_eta, Rt_eta, nx_0 h, h6, h7, hz] | simp (maxSteps := 1000000) (disch := omega) only [exE, Int.toNat_natCast, Int.reduceToNat])
      try rw [(stE_0 h).2]
    · have h6 : (toN H R == H.sec) = true := h5
      have h7 : ¬ toN H R < H.sec := by simp only [beq_iff_eq] at h6; omega
      refine acall_run (good6 0) Try.func35 rfl ⟨by kernel_rfl, by show 2 ≤ _; decide, by kernel_rfl, by kernel_rfl⟩ rfl ?_; have hr : Try.f35.results.toList = [.cell 4 70, .tmp 5, .tmp 6] := rfl; repeat (first | simp only [c6_P, c6_odd, c6_ro, Nat.reduceBEq, reduceIte, Nat.reduceEqDiff, reduceCtorEq, ne_eq, if_true, if_false, exA, exA, tabs, exB, exD, buildA, rowOr, rowSetAt, rowAgg, mkAgg, AV.isAggV, AV.parts, AV.one, AV.solid, headSize, indexAddrA, indexA, fieldAddrA, fieldA, sliceA, boundsA, bndA, lenA, arrayAtA, rowOf, makeSliceA, intsOf, copyA, Nat.reduceAdd, Nat.reduceSub, Nat.reduceMul, Nat.reduceLeDiff, Nat.reduceLT, Nat.reduceGT, Int.reduceToNat, Int.reduceLE, Int.reduceLT, Int.reduceEq, Int.reduceNe, Int.reduceAdd, Int.reduceSub, Int.reduceMul, Int.reduceNeg, ite_true, ite_false, dite_true, xc1, xc2, xc3, xc4, xc5, xc6, hr, hg, ht, ht2, Hd_eta, Rt_eta, nx_0 h, h6, h7, hz] | simp (maxSteps := 1000000) (disch := omega) only [exE, Int.toNat_natCast, Int.reduceToNat])
  · have hn : (stE H R != 0) = true := by simpa using h
    rw [afA, if_neg h]
    refine acall_run (good6 0) Try.func35 rfl ⟨by kernel_rfl, by show 2 ≤ _; decide, by kernel_rfl, by kernel_rfl⟩ rfl ?_; have hr : Try.f35.results.toList = [.cell 4 70, .tmp 5, .tmp 6] := rfl; repeat (first | simp only [c6_P, c6_odd, c6_ro, Nat.reduceBEq, reduceIte, Nat.reduceEqDiff, reduceCtorEq, ne_eq, if_true, if_false, exA, exA, tabs, exB, exD, buildA, rowOr, rowSetAt, rowAgg, mkAgg, AV.isAggV, AV.parts, AV.one, AV.solid, headSize, indexAddrA, indexA, fieldAddrA, fieldA, sliceA, boundsA, bndA, lenA, arrayAtA, rowOf, makeSliceA, intsOf, copyA, Nat.reduceAdd, Nat.reduceSub, Nat.reduceMul, Nat.reduceLeDiff, Nat.reduceLT, Nat.reduceGT, Int.reduceToNat, Int.reduceLE, Int.reduceLT, Int.reduceEq, Int.reduceNe, Int.reduceAdd, Int.reduceSub, Int.reduceMul, Int.reduceNeg, ite_true, ite_false, dite_true, xc1, xc2, xc3, xc4, xc5, xc6, hr, hg, ht, ht2, Hd_eta, Rt_eta, nx_n h, hn, hz] | simp (maxSteps := 1000000) (disch := omega) only [exE, Int.toNat_natCast, Int.reduceToNat])
theorem after60 (H : Hd) (R : Rt) (hg : 0 ≤ H.gen) (ht : R.tre.length = 32) : ACall Try.prog 60 [.agg [.v (.int .u64 H.gen), .v (.int .i64 H.sec), .v (.int .i64 H.slo), .v (.int .i64 H.jou), .v (.int .i64 H.seg), .v (.int .i64 H.tim), .v (.int .i64 H.mem), .v (.int .i64 H.lan), .arr 16 .u8 H.nam], .agg [.v (.int .u64 R.ctr), .v (.bool R.rek), .v (.int .i64 R.fro), .arr 32 .u8 R.tre]] [] fun v _ => v = afA H R := by
  have ht2 : R.tre.take 32 = R.tre := List.take_of_length_le (by omega)
  have hz : (List.replicate 32 (0 : Int)).take 32 = List.replicate 32 0 := rfl
  by_cases h : stE H R = 0
  · have hb := mayB_b (stE_0 h).1
    have hto : toN H R ≤ H.sec := by unfold toN; split <;> omega
    rw [afA, if_pos h]
    cases h5 : dnB H R
    · have h6 : (toN H R == H.sec) = false := h5
      have h7 : toN H R < H.sec := by simp only [beq_eq_false_iff_ne, ne_eq] at h6; omega
      refine acall_run (good6 0) Try.func60 rfl ⟨by kernel_rfl, by show 2 ≤ _; decide, by kernel_rfl, by kernel_rfl⟩ rfl ?_; have hr : Try.f60.results.toList = [.cell 4 70, .tmp 5, .tmp 6] := rfl; repeat (first | simp only [c6_P, c6_odd, c6_ro, Nat.reduceBEq, reduceIte, Nat.reduceEqDiff, reduceCtorEq, ne_eq, if_true, if_false, exA, exA, tabs, exB, exD, buildA, rowOr, rowSetAt, rowAgg, mkAgg, AV.isAggV, AV.parts, AV.one, AV.solid, headSize, indexAddrA, indexA, fieldAddrA, fieldA, sliceA, boundsA, bndA, lenA, arrayAtA, rowOf, makeSliceA, intsOf, copyA, Nat.reduceAdd, Nat.reduceSub, Nat.reduceMul, Nat.reduceLeDiff, Nat.reduceLT, Nat.reduceGT, Int.reduceToNat, Int.reduceLE, Int.reduceLT, Int.reduceEq, Int.reduceNe, Int.reduceAdd, Int.reduceSub, Int.reduceMul, Int.reduceNeg, ite_true, ite_false, dite_true, xc1, xc2, xc3, xc4, xc5, xc6, hr, hg, ht, ht2, Hd_eta, Rt_eta, nx_0 h, h6, h7, hz] | simp (maxSteps := 1000000) (disch := omega) only [exE, Int.toNat_natCast, Int.reduceToNat])
      try rw [(stE_0 h).2]
    · have h6 : (toN H R == H.sec) = true := h5
      have h7 : ¬ toN H R < H.sec := by simp only [beq_iff_eq] at h6; omega
      refine acall_run (good6 0) Try.func60 rfl ⟨by kernel_rfl, by show 2 ≤ _; decide, by kernel_rfl, by kernel_rfl⟩ rfl ?_; have hr : Try.f60.results.toList = [.cell 4 70, .tmp 5, .tmp 6] := rfl; repeat (first | simp only [c6_P, c6_odd, c6_ro, Nat.reduceBEq, reduceIte, Nat.reduceEqDiff, reduceCtorEq, ne_eq, if_true, if_false, exA, exA, tabs, exB, exD, buildA, rowOr, rowSetAt, rowAgg, mkAgg, AV.isAggV, AV.parts, AV.one, AV.solid, headSize, indexAddrA, indexA, fieldAddrA, fieldA, sliceA, boundsA, bndA, lenA, arrayAtA, rowOf, makeSliceA, intsOf, copyA, Nat.reduceAdd, Nat.reduceSub, Nat.reduceMul, Nat.reduceLeDiff, Nat.reduceLT, Nat.reduceGT, Int.reduceToNat, Int.reduceLE, Int.reduceLT, Int.reduceEq, Int.reduceNe, Int.reduceAdd, Int.reduceSub, Int.reduceMul, Int.reduceNeg, ite_true, ite_false, dite_true, xc1, xc2, xc3, xc4, xc5, xc6, hr, hg, ht, ht2, Hd_eta, Rt_eta, nx_0 h, h6, h7, hz] | simp (maxSteps := 1000000) (disch := omega) only [exE, Int.toNat_natCast, Int.reduceToNat])
  · have hn : (stE H R != 0) = true := by simpa using h
    rw [afA, if_neg h]
    refine acall_run (good6 0) Try.func60 rfl ⟨by kernel_rfl, by show 2 ≤ _; decide, by kernel_rfl, by kernel_rfl⟩ rfl ?_; have hr : Try.f60.results.toList = [.cell 4 70, .tmp 5, .tmp 6] := rfl; repeat (first | simp only [c6_P, c6_odd, c6_ro, Nat.reduceBEq, reduceIte, Nat.reduceEqDiff, reduceCtorEq, ne_eq, if_true, if_false, exA, exA, tabs, exB, exD, buildA, rowOr, rowSetAt, rowAgg, mkAgg, AV.isAggV, AV.parts, AV.one, AV.solid, headSize, indexAddrA, indexA, fieldAddrA, fieldA, sliceA, boundsA, bndA, lenA, arrayAtA, rowOf, makeSliceA, intsOf, copyA, Nat.reduceAdd, Nat.reduceSub, Nat.reduceMul, Nat.reduceLeDiff, Nat.reduceLT, Nat.reduceGT, Int.reduceToNat, Int.reduceLE, Int.reduceLT, Int.reduceEq, Int.reduceNe, Int.reduceAdd, Int.reduceSub, Int.reduceMul, Int.reduceNeg, ite_true, ite_false, dite_true, xc1, xc2, xc3, xc4, xc5, xc6, hr, hg, ht, ht2, Hd_eta, Rt_eta, nx_n h, hn, hz] | simp (maxSteps := 1000000) (disch := omega) only [exE, Int.toNat_natCast, Int.reduceToNat])
def F35 : List AV → Option AV
  | [.agg [.v (.int .u64 a), .v (.int .i64 b), .v (.int .i64 c), .v (.int .i64 d), .v (.int .i64 e), .v (.int .i64 f), .v (.int .i64 g), .v (.int .i64 h), .arr 16 .u8 n], .agg [.v (.int .u64 p), .v (.bool q), .v (.int .i64 r), .arr 32 .u8 t]] => oguard (0 ≤ a ∧ t.length = 32) (some (afA ⟨a, b, c, d, e, f, g, h, n⟩ ⟨p, q, r, t⟩))
  | _ => none
theorem F35_eq (a b c d e f g h p r : Int) (n t : List Int) (q : Bool) : F35 [.agg [.v (.int .u64 a), .v (.int .i64 b), .v (.int .i64 c), .v (.int .i64 d), .v (.int .i64 e), .v (.int .i64 f), .v (.int .i64 g), .v (.int .i64 h), .arr 16 .u8 n], .agg [.v (.int .u64 p), .v (.bool q), .v (.int .i64 r), .arr 32 .u8 t]] = oguard (0 ≤ a ∧ t.length = 32) (some (afA ⟨a, b, c, d, e, f, g, h, n⟩ ⟨p, q, r, t⟩)) := rfl
noncomputable def p7 : FuncId → Option (List AV → Option AV) := addPure (addPure p6 35 F35) 60 F35
noncomputable def c7 (k : Nat) : Cfg := ⟨Try.prog, k, p7, [], fun _ => none, none, []⟩
theorem c7_odd (k : Nat) : (c7 k).odd = [] := rfl
theorem c7_ro (k : Nat) : (c7 k).ro = [] := rfl
theorem c7_P (k : Nat) : (c7 k).P = Try.prog := rfl
theorem c7_pure (k : Nat) : (c7 k).pure = p7 := rfl
theorem c7_news (k : Nat) : (c7 k).news = fun _ => none := rfl
theorem xc7 :
  (type_of% @c7_pure) ∧
  (type_of% @c7_news) ∧
  (type_of% @Go.Proofs.Ytgkhngcnbddoiaa.p7.eq_1) ∧
  (type_of% @F35_eq) :=
  ⟨@c7_pure, @c7_news, @Go.Proofs.Ytgkhngcnbddoiaa.p7.eq_1, @F35_eq⟩
theorem good7 (k : Nat) : (c7 k).Good := by
  refine Cfg.Good.add (Cfg.Good.add (good6 k) ?_ k) ?_ k
  · intro args v hF h κ hκ
    unfold F35 at hF
    split at hF
    · obtain ⟨h0, hF⟩ := oguard_some hF
      cases hF
      exact pure_call (after35 ⟨_, _, _, _, _, _, _, _, _⟩ ⟨_, _, _, _⟩ h0.1 h0.2) (fun g => by unfold afA; split <;> rfl) (fun g => rfl) h κ hκ
    · cases hF
  · intro args v hF h κ hκ
    unfold F35 at hF
    split at hF
    · obtain ⟨h0, hF⟩ := oguard_some hF
      cases hF
      exact pure_call (after60 ⟨_, _, _, _, _, _, _, _, _⟩ ⟨_, _, _, _⟩ h0.1 h0.2) (fun g => by unfold afA; split <;> rfl) (fun g => rfl) h κ hκ
    · cases hF
def left (H : Hd) (R : Rt) : Int := if R.rek = true then (if 1 > (H.sec - R.fro + H.seg - 1) / H.seg then 1 else (H.sec - R.fro + H.seg - 1) / H.seg) else 0
def stA (H : Hd) (R : Rt) : AV := if mayB H R = true then .tup [.v (.int .i64 (left H R)), .v (.int .i64 0)] else .tup [.v (.int .i64 0), .v (.int .i64 1)]
theorem steps36 (H : Hd) (R : Rt) (hg : 0 ≤ H.gen) (ht : R.tre.length = 32) : ACall Try.prog 36 [.agg [.v (.int .u64 H.gen), .v (.int .i64 H.sec), .v (.int .i64 H.slo), .v (.int .i64 H.jou), .v (.int .i64 H.seg), .v (.int .i64 H.tim), .v (.int .i64 H.mem), .v (.int .i64 H.lan), .arr 16 .u8 H.nam], .agg [.v (.int .u64 R.ctr), .v (.bool R.rek), .v (.int .i64 R.fro), .arr 32 .u8 R.tre]] [] fun v _ => v = stA H R := by
  have ht2 : R.tre.take 32 = R.tre := List.take_of_length_le (by omega)
  cases h1 : mayB H R
  · have e : stE H R = 1 := by simp [stE, h1]
    rw [stA, if_neg (by simp [h1])]; refine acall_run (good7 0) Try.func36 rfl ⟨by kernel_rfl, by show 2 ≤ _; decide, by kernel_rfl, by kernel_rfl⟩ rfl ?_; have hr : Try.f36.results.toList = [.tmp 4, .tmp 5] := rfl; repeat (first | simp only [c7_P, c7_odd, c7_ro, Nat.reduceBEq, reduceIte, Nat.reduceEqDiff, reduceCtorEq, ne_eq, if_true, if_false, exA, exA, tabs, exB, exD, buildA, rowOr, rowSetAt, rowAgg, mkAgg, AV.isAggV, AV.parts, AV.one, AV.solid, headSize, indexAddrA, indexA, fieldAddrA, fieldA, sliceA, boundsA, bndA, lenA, arrayAtA, rowOf, makeSliceA, intsOf, copyA, Nat.reduceAdd, Nat.reduceSub, Nat.reduceMul, Nat.reduceLeDiff, Nat.reduceLT, Nat.reduceGT, Int.reduceToNat, Int.reduceLE, Int.reduceLT, Int.reduceEq, Int.reduceNe, Int.reduceAdd, Int.reduceSub, Int.reduceMul, Int.reduceNeg, ite_true, ite_false, dite_true, xc1, xc2, xc3, xc4, xc5, xc6, xc7, hr, hg, ht, ht2, Hd_eta, Rt_eta, e] | simp (maxSteps := 1000000) (disch := omega) only [exE, Int.toNat_natCast, Int.reduceToNat])
  rw [stA, if_pos h1]
  cases h2 : R.rek
  · have e : stE H R = 231 := by simp [stE, h1, h2]
    have e' : stE H ⟨R.ctr, false, R.fro, R.tre⟩ = 231 := by rw [← e]; simp only [stE, (mayB_set h2).trans h1, h1, h2]
    have el : left H R = 0 := by simp [left, h2]
    rw [el]; refine acall_run (good7 0) Try.func36 rfl ⟨by kernel_rfl, by show 2 ≤ _; decide, by kernel_rfl, by kernel_rfl⟩ rfl ?_; have hr : Try.f36.results.toList = [.tmp 4, .tmp 5] := rfl; repeat (first | simp only [c7_P, c7_odd, c7_ro, Nat.reduceBEq, reduceIte, Nat.reduceEqDiff, reduceCtorEq, ne_eq, if_true, if_false, exA, exA, tabs, exB, exD, buildA, rowOr, rowSetAt, rowAgg, mkAgg, AV.isAggV, AV.parts, AV.one, AV.solid, headSize, indexAddrA, indexA, fieldAddrA, fieldA, sliceA, boundsA, bndA, lenA, arrayAtA, rowOf, makeSliceA, intsOf, copyA, Nat.reduceAdd, Nat.reduceSub, Nat.reduceMul, Nat.reduceLeDiff, Nat.reduceLT, Nat.reduceGT, Int.reduceToNat, Int.reduceLE, Int.reduceLT, Int.reduceEq, Int.reduceNe, Int.reduceAdd, Int.reduceSub, Int.reduceMul, Int.reduceNeg, ite_true, ite_false, dite_true, xc1, xc2, xc3, xc4, xc5, xc6, xc7, hr, hg, ht, ht2, h2, Hd_eta, e'] | simp (maxSteps := 1000000) (disch := omega) only [exE, Int.toNat_natCast, Int.reduceToNat])
  · have e : stE H R = 0 := by simp [stE, h1, h2]
    have e' : stE H ⟨R.ctr, true, R.fro, R.tre⟩ = 0 := by rw [← e]; simp only [stE, (mayB_set h2).trans h1, h1, h2]
    have hb := mayB_b h1
    have w1 : IntKind.i64.wrap (H.sec - R.fro) = H.sec - R.fro := i64_id _ (by omega)
    have el : left H R = if 1 > (H.sec - R.fro + H.seg - 1) / H.seg then 1 else (H.sec - R.fro + H.seg - 1) / H.seg := by simp [left, h2]
    rw [el]; refine acall_run (good7 0) Try.func36 rfl ⟨by kernel_rfl, by show 2 ≤ _; decide, by kernel_rfl, by kernel_rfl⟩ rfl ?_; have hr : Try.f36.results.toList = [.tmp 4, .tmp 5] := rfl; repeat (first | simp only [c7_P, c7_odd, c7_ro, Nat.reduceBEq, reduceIte, Nat.reduceEqDiff, reduceCtorEq, ne_eq, if_true, if_false, exA, exA, tabs, exB, exD, buildA, rowOr, rowSetAt, rowAgg, mkAgg, AV.isAggV, AV.parts, AV.one, AV.solid, headSize, indexAddrA, indexA, fieldAddrA, fieldA, sliceA, boundsA, bndA, lenA, arrayAtA, rowOf, makeSliceA, intsOf, copyA, Nat.reduceAdd, Nat.reduceSub, Nat.reduceMul, Nat.reduceLeDiff, Nat.reduceLT, Nat.reduceGT, Int.reduceToNat, Int.reduceLE, Int.reduceLT, Int.reduceEq, Int.reduceNe, Int.reduceAdd, Int.reduceSub, Int.reduceMul, Int.reduceNeg, ite_true, ite_false, dite_true, xc1, xc2, xc3, xc4, xc5, xc6, xc7, hr, hg, ht, ht2, h2, Hd_eta, e', w1] | simp (maxSteps := 1000000) (disch := omega) only [exE, Int.toNat_natCast, Int.reduceToNat])
    exact ⟨by omega, by omega, by omega, by omega⟩
theorem aft_may {H : Hd} {R : Rt} (h : mayB H R = true) (h2 : R.rek = true) : mayB H (aft H R) = true := by
  have hb := mayB_b h
  have hk : okH H = true := by simp only [mayB, Bool.and_eq_true] at h; exact h.1
  have hto : 0 ≤ toN H R ∧ toN H R ≤ H.sec := by unfold toN; split <;> omega
  cases h3 : dnB H R
  · simp [mayB, aft, h3, hk, hto]
  · simp [mayB, aft, h3, hk]; omega
theorem aft_left {H : Hd} {R : Rt} (h : mayB H R = true) (h2 : R.rek = true) : left H (aft H R) + 1 = left H R := by
  have hb := mayB_b h
  cases h3 : dnB H R
  · have h4 : toN H R ≠ H.sec := by simpa [dnB] using h3
    have h5 : toN H R = R.fro + H.seg ∧ R.fro + H.seg < H.sec := by unfold toN at h4 ⊢; split at h4 <;> rename_i h6 <;> simp_all <;> omega
    have e1 : left H (aft H R) = if 1 > (H.sec - (R.fro + H.seg) + H.seg - 1) / H.seg then 1 else (H.sec - (R.fro + H.seg) + H.seg - 1) / H.seg := by simp [left, aft, h3, h5.1]
    have e2 : left H R = if 1 > (H.sec - R.fro + H.seg - 1) / H.seg then 1 else (H.sec - R.fro + H.seg - 1) / H.seg := by simp [left, h2]
    have e3 : (H.sec - R.fro + H.seg - 1) / H.seg = (H.sec - (R.fro + H.seg) + H.seg - 1) / H.seg + 1 := by
      rw [show H.sec - R.fro + H.seg - 1 = (H.sec - (R.fro + H.seg) + H.seg - 1) + H.seg from by omega, Int.add_ediv_of_dvd_right (Int.dvd_refl _), Int.ediv_self (by omega)]
    have e4 : 1 ≤ (H.sec - (R.fro + H.seg) + H.seg - 1) / H.seg := by
      rw [Int.le_ediv_iff_mul_le (by omega)]; omega
    rw [e1, e2, e3, if_neg (by omega), if_neg (by omega)]
  · have h4 : toN H R = H.sec := by simpa [dnB] using h3
    have h5 : H.sec ≤ R.fro + H.seg := by unfold toN at h4; split at h4 <;> omega
    have e1 : left H (aft H R) = 0 := by simp [left, aft, h3]
    have e2 : left H R = if 1 > (H.sec - R.fro + H.seg - 1) / H.seg then 1 else (H.sec - R.fro + H.seg - 1) / H.seg := by simp [left, h2]
    have e3 : (H.sec - R.fro + H.seg - 1) / H.seg < 2 := by
      rw [Int.ediv_lt_iff_lt_mul (by omega)]; omega
    rw [e1, e2]; split <;> omega
theorem left_nn {H : Hd} {R : Rt} (h : mayB H R = true) : 0 ≤ left H R ∧ left H R ≤ 1024 := by
  have hb := mayB_b h
  have h1 : (H.sec - R.fro + H.seg - 1) / H.seg < 1025 := by
    rw [Int.ediv_lt_iff_lt_mul (by omega)]
    have : (1025 : Int) * 1 ≤ 1025 * H.seg := Int.mul_le_mul_of_nonneg_left (by omega) (by omega)
    have : (1024 : Int) * 1 ≤ 1024 * H.seg := Int.mul_le_mul_of_nonneg_left (by omega) (by omega)
    omega
  unfold left; split
  · split <;> omega
  · omega
theorem steps61 (H : Hd) (R : Rt) (hg : 0 ≤ H.gen) (ht : R.tre.length = 32) : ACall Try.prog 61 [.agg [.v (.int .u64 H.gen), .v (.int .i64 H.sec), .v (.int .i64 H.slo), .v (.int .i64 H.jou), .v (.int .i64 H.seg), .v (.int .i64 H.tim), .v (.int .i64 H.mem), .v (.int .i64 H.lan), .arr 16 .u8 H.nam], .agg [.v (.int .u64 R.ctr), .v (.bool R.rek), .v (.int .i64 R.fro), .arr 32 .u8 R.tre]] [] fun v _ => v = stA H R := by
  have ht2 : R.tre.take 32 = R.tre := List.take_of_length_le (by omega)
  cases h1 : mayB H R
  · rw [stA, if_neg (by simp [h1])]; refine acall_run (good7 0) Try.func61 rfl ⟨by kernel_rfl, by show 2 ≤ _; decide, by kernel_rfl, by kernel_rfl⟩ rfl ?_; have hr : Try.f61.results.toList = [.tmp 4, .tmp 5] := rfl; repeat (first | simp only [c7_P, c7_odd, c7_ro, Nat.reduceBEq, reduceIte, Nat.reduceEqDiff, reduceCtorEq, ne_eq, if_true, if_false, exA, exA, tabs, exB, exD, buildA, rowOr, rowSetAt, rowAgg, mkAgg, AV.isAggV, AV.parts, AV.one, AV.solid, headSize, indexAddrA, indexA, fieldAddrA, fieldA, sliceA, boundsA, bndA, lenA, arrayAtA, rowOf, makeSliceA, intsOf, copyA, Nat.reduceAdd, Nat.reduceSub, Nat.reduceMul, Nat.reduceLeDiff, Nat.reduceLT, Nat.reduceGT, Int.reduceToNat, Int.reduceLE, Int.reduceLT, Int.reduceEq, Int.reduceNe, Int.reduceAdd, Int.reduceSub, Int.reduceMul, Int.reduceNeg, ite_true, ite_false, dite_true, xc1, xc2, xc3, xc4, xc5, xc6, xc7, hr, hg, ht, ht2, Hd_eta, Rt_eta, h1] | simp (maxSteps := 1000000) (disch := omega) only [exE, Int.toNat_natCast, Int.reduceToNat])
  rw [stA, if_pos h1]
  have hl0 := left_nn h1
  refine acall_run (good7 0) Try.func61 rfl ⟨by kernel_rfl, by show 2 ≤ _; decide, by kernel_rfl, by kernel_rfl⟩ rfl ?_; have hr : Try.f61.results.toList = [.tmp 4, .tmp 5] := rfl; repeat (first | simp only [c7_P, c7_odd, c7_ro, Nat.reduceBEq, reduceIte, Nat.reduceEqDiff, reduceCtorEq, ne_eq, if_true, if_false, exA, exA, tabs, exB, exD, buildA, rowOr, rowSetAt, rowAgg, mkAgg, AV.isAggV, AV.parts, AV.one, AV.solid, headSize, indexAddrA, indexA, fieldAddrA, fieldA, sliceA, boundsA, bndA, lenA, arrayAtA, rowOf, makeSliceA, intsOf, copyA, Nat.reduceAdd, Nat.reduceSub, Nat.reduceMul, Nat.reduceLeDiff, Nat.reduceLT, Nat.reduceGT, Int.reduceToNat, Int.reduceLE, Int.reduceLT, Int.reduceEq, Int.reduceNe, Int.reduceAdd, Int.reduceSub, Int.reduceMul, Int.reduceNeg, ite_true, ite_false, dite_true, xc1, xc2, xc3, xc4, xc5, xc6, xc7, hr, hg, ht, ht2, Hd_eta, Rt_eta, h1] | simp (maxSteps := 1000000) (disch := omega) only [exE, Int.toNat_natCast, Int.reduceToNat])
  refine loopR_of (good7 0) (α := {x : Rt // mayB H x = true ∧ x.tre.length = 32 ∧ x.ctr = R.ctr ∧ 0 ≤ left H x ∧ left H x ≤ left H R}) (fun x => ⟨envL [(2, .ptr 0 0 0), (3, .ptr 1 0 0), (6, .v (.int .i64 (left H R - left H x.1)))], [some [.v (.int .u64 H.gen), .v (.int .i64 H.sec), .v (.int .i64 H.slo), .v (.int .i64 H.jou), .v (.int .i64 H.seg), .v (.int .i64 H.tim), .v (.int .i64 H.mem), .v (.int .i64 H.lan), .arr 16 .u8 H.nam], some [.v (.int .u64 x.1.ctr), .v (.bool x.1.rek), .v (.int .i64 x.1.fro), .arr 32 .u8 x.1.tre]]⟩) (fun x => (left H x.1).toNat) ⟨R, h1, ht, rfl, hl0.1, Int.le_refl _⟩ (by kernel_rfl) ?_ ?_
  · have : left H R - left H R = 0 := by omega
    (refine weak_of ?_ ?_; (focus (first | with_reducible rfl | (simp only [this] <;> with_reducible rfl))); simp only [exF, Nat.reduceEqDiff, if_true, if_false, reduceIte, Option.some.injEq, reduceCtorEq, Int.cast_ofNat_Int, this])
  · rintro ⟨x, hx1, hx2, hx3, hx4, hx5⟩
    have hx6 : x.tre.take 32 = x.tre := List.take_of_length_le (by omega)
    simp only
    cases h2 : x.rek
    · have el : left H x = 0 := by simp [left, h2]
      rw [el]
      repeat (first | simp only [c7_P, c7_odd, c7_ro, Nat.reduceBEq, reduceIte, Nat.reduceEqDiff, reduceCtorEq, ne_eq, if_true, if_false, exA, exA, tabs, exB, exD, buildA, rowOr, rowSetAt, rowAgg, mkAgg, AV.isAggV, AV.parts, AV.one, AV.solid, headSize, indexAddrA, indexA, fieldAddrA, fieldA, sliceA, boundsA, bndA, lenA, arrayAtA, rowOf, makeSliceA, intsOf, copyA, Nat.reduceAdd, Nat.reduceSub, Nat.reduceMul, Nat.reduceLeDiff, Nat.reduceLT, Nat.reduceGT, Int.reduceToNat, Int.reduceLE, Int.reduceLT, Int.reduceEq, Int.reduceNe, Int.reduceAdd, Int.reduceSub, Int.reduceMul, Int.reduceNeg, ite_true, ite_false, dite_true, xc1, xc2, xc3, xc4, xc5, xc6, xc7, hr, hg, hx2, hx6, h2, Hd_eta, Int.sub_zero] | simp (maxSteps := 1000000) (disch := omega) only [exE, Int.toNat_natCast, Int.reduceToNat])
    · have e : stE H x = 0 := by simp [stE, hx1, h2]
      have e' : afA H ⟨x.ctr, true, x.fro, x.tre⟩ = .tup [.agg [.v (.int .u64 x.ctr), .v (.bool (!dnB H x)), .v (.int .i64 (if dnB H x = true then 0 else toN H x)), .arr 32 .u8 x.tre], .v (.bool (dnB H x)), .v (.int .i64 0)] := by
        have : (⟨x.ctr, true, x.fro, x.tre⟩ : Rt) = x := by cases x; simp only at h2; rw [h2]
        rw [this, afA, if_pos e]
      have h4 := aft_left hx1 h2
      have h5 := left_nn (aft_may hx1 h2)
      have w1 : IntKind.i64.wrap (left H R - left H x + 1) = left H R - left H (aft H x) := by rw [i64_id _ (by omega)]; omega
      repeat (first | simp only [c7_P, c7_odd, c7_ro, Nat.reduceBEq, reduceIte, Nat.reduceEqDiff, reduceCtorEq, ne_eq, if_true, if_false, exA, exA, tabs, exB, exD, buildA, rowOr, rowSetAt, rowAgg, mkAgg, AV.isAggV, AV.parts, AV.one, AV.solid, headSize, indexAddrA, indexA, fieldAddrA, fieldA, sliceA, boundsA, bndA, lenA, arrayAtA, rowOf, makeSliceA, intsOf, copyA, Nat.reduceAdd, Nat.reduceSub, Nat.reduceMul, Nat.reduceLeDiff, Nat.reduceLT, Nat.reduceGT, Int.reduceToNat, Int.reduceLE, Int.reduceLT, Int.reduceEq, Int.reduceNe, Int.reduceAdd, Int.reduceSub, Int.reduceMul, Int.reduceNeg, ite_true, ite_false, dite_true, xc1, xc2, xc3, xc4, xc5, xc6, xc7, hr, hg, hx2, hx6, h2, Hd_eta, e', w1] | simp (maxSteps := 1000000) (disch := omega) only [exE, Int.toNat_natCast, Int.reduceToNat])
      refine ⟨⟨aft H x, aft_may hx1 h2, hx2, hx3, h5.1, by omega⟩, by simp only; omega, ?_⟩
      (refine weak_of ?_ ?_; (focus (first | with_reducible rfl | (simp only [aft] <;> with_reducible rfl))); simp only [exF, Nat.reduceEqDiff, if_true, if_false, reduceIte, Option.some.injEq, reduceCtorEq, Int.cast_ofNat_Int, aft])
def F36 : List AV → Option AV
  | [.agg [.v (.int .u64 a), .v (.int .i64 b), .v (.int .i64 c), .v (.int .i64 d), .v (.int .i64 e), .v (.int .i64 f), .v (.int .i64 g), .v (.int .i64 h), .arr 16 .u8 n], .agg [.v (.int .u64 p), .v (.bool q), .v (.int .i64 r), .arr 32 .u8 t]] => oguard (0 ≤ a ∧ t.length = 32) (some (stA ⟨a, b, c, d, e, f, g, h, n⟩ ⟨p, q, r, t⟩))
  | _ => none
theorem F36_eq (a b c d e f g h p r : Int) (n t : List Int) (q : Bool) : F36 [.agg [.v (.int .u64 a), .v (.int .i64 b), .v (.int .i64 c), .v (.int .i64 d), .v (.int .i64 e), .v (.int .i64 f), .v (.int .i64 g), .v (.int .i64 h), .arr 16 .u8 n], .agg [.v (.int .u64 p), .v (.bool q), .v (.int .i64 r), .arr 32 .u8 t]] = oguard (0 ≤ a ∧ t.length = 32) (some (stA ⟨a, b, c, d, e, f, g, h, n⟩ ⟨p, q, r, t⟩)) := rfl
noncomputable def p8 : FuncId → Option (List AV → Option AV) := addPure (addPure p7 36 F36) 61 F36
noncomputable def c8 (k : Nat) : Cfg := ⟨Try.prog, k, p8, [], fun _ => none, none, []⟩
theorem c8_odd (k : Nat) : (c8 k).odd = [] := rfl
theorem c8_ro (k : Nat) : (c8 k).ro = [] := rfl
theorem c8_P (k : Nat) : (c8 k).P = Try.prog := rfl
theorem c8_pure (k : Nat) : (c8 k).pure = p8 := rfl
theorem c8_news (k : Nat) : (c8 k).news = fun _ => none := rfl
theorem xc8 :
  (type_of% @c8_pure) ∧
  (type_of% @c8_news) ∧
  (type_of% @Go.Proofs.Ytgkhngcnbddoiaa.p8.eq_1) ∧
  (type_of% @F36_eq) :=
  ⟨@c8_pure, @c8_news, @Go.Proofs.Ytgkhngcnbddoiaa.p8.eq_1, @F36_eq⟩
theorem good8 (k : Nat) : (c8 k).Good := by
  refine Cfg.Good.add (Cfg.Good.add (good7 k) ?_ k) ?_ k
  · intro args v hF h κ hκ
    unfold F36 at hF
    split at hF
    · obtain ⟨h0, hF⟩ := oguard_some hF
      cases hF
      exact pure_call (steps36 ⟨_, _, _, _, _, _, _, _, _⟩ ⟨_, _, _, _⟩ h0.1 h0.2) (fun g => by unfold stA; split <;> rfl) (fun g => rfl) h κ hκ
    · cases hF
  · intro args v hF h κ hκ
    unfold F36 at hF
    split at hF
    · obtain ⟨h0, hF⟩ := oguard_some hF
      cases hF
      exact pure_call (steps61 ⟨_, _, _, _, _, _, _, _, _⟩ ⟨_, _, _, _⟩ h0.1 h0.2) (fun g => by unfold stA; split <;> rfl) (fun g => rfl) h κ hκ
    · cases hF
end Go.Proofs.Ytgkhngcnbddoiaa

namespace Go.Proofs.Ytgkhngcnbddoiaa
open Go.Ax
theorem clone_spec (l : List Int) (hl : l.length ≤ 140737488355328) : ACall Try.prog 30 [.roI .u8 l] [] fun v h' => ∃ c, v = .sl 0 0 1 0 l.length c ∧ h' = [some [.arr l.length .u8 l]] := by
  refine ACall.weak (C := c8 0) rfl (κ := fun v h' => (v = .v (.slice none 0 0) ∧ h' = [] ∧ l = []) ∨ ∃ c, v = .sl 1 0 1 0 l.length c ∧ h' = [none, some [.arr l.length .u8 l]]) ?_ ?_
  · refine acall_run (good8 0) Try.func30 rfl ⟨by kernel_rfl, by show 1 ≤ _; decide, by kernel_rfl, by kernel_rfl⟩ rfl ?_; have hr : Try.f30.results.toList = [.tmp 2] := rfl
    repeat (first | simp only [c8_P, c8_odd, c8_ro, Nat.reduceBEq, reduceIte, Nat.reduceEqDiff, reduceCtorEq, ne_eq, if_true, if_false, exA, exA, tabs, exB, exD, buildA, rowOr, rowSetAt, rowAgg, mkAgg, AV.isAggV, AV.parts, AV.one, AV.solid, headSize, indexAddrA, indexA, fieldAddrA, fieldA, sliceA, boundsA, bndA, lenA, arrayAtA, rowOf, makeSliceA, intsOf, copyA, Nat.reduceAdd, Nat.reduceSub, Nat.reduceMul, Nat.reduceLeDiff, Nat.reduceLT, Nat.reduceGT, Int.reduceToNat, Int.reduceLE, Int.reduceLT, Int.reduceEq, Int.reduceNe, Int.reduceAdd, Int.reduceSub, Int.reduceMul, Int.reduceNeg, ite_true, ite_false, dite_true, xc1, xc2, xc3, xc4, xc5, xc6, xc7, xc8, hr] | simp (maxSteps := 1000000) (disch := omega) only [exE, Int.toNat_natCast, Int.reduceToNat])
    intro t ht
    cases t
    · repeat (first | simp only [c8_P, c8_odd, c8_ro, Nat.reduceBEq, reduceIte, Nat.reduceEqDiff, reduceCtorEq, ne_eq, if_true, if_false, exA, exA, tabs, exB, exD, buildA, rowOr, rowSetAt, rowAgg, mkAgg, AV.isAggV, AV.parts, AV.one, AV.solid, headSize, indexAddrA, indexA, fieldAddrA, fieldA, sliceA, boundsA, bndA, lenA, arrayAtA, rowOf, makeSliceA, intsOf, copyA, Nat.reduceAdd, Nat.reduceSub, Nat.reduceMul, Nat.reduceLeDiff, Nat.reduceLT, Nat.reduceGT, Int.reduceToNat, Int.reduceLE, Int.reduceLT, Int.reduceEq, Int.reduceNe, Int.reduceAdd, Int.reduceSub, Int.reduceMul, Int.reduceNeg, ite_true, ite_false, dite_true, xc1, xc2, xc3, xc4, xc5, xc6, xc7, xc8, hr] | simp (maxSteps := 1000000) (disch := omega) only [exE, Int.toNat_natCast, Int.reduceToNat])
      exact fun c _ => .inr ⟨c, rfl⟩
    · have := ht rfl
      repeat (first | simp only [c8_P, c8_odd, c8_ro, Nat.reduceBEq, reduceIte, Nat.reduceEqDiff, reduceCtorEq, ne_eq, if_true, if_false, exA, exA, tabs, exB, exD, buildA, rowOr, rowSetAt, rowAgg, mkAgg, AV.isAggV, AV.parts, AV.one, AV.solid, headSize, indexAddrA, indexA, fieldAddrA, fieldA, sliceA, boundsA, bndA, lenA, arrayAtA, rowOf, makeSliceA, intsOf, copyA, Nat.reduceAdd, Nat.reduceSub, Nat.reduceMul, Nat.reduceLeDiff, Nat.reduceLT, Nat.reduceGT, Int.reduceToNat, Int.reduceLE, Int.reduceLT, Int.reduceEq, Int.reduceNe, Int.reduceAdd, Int.reduceSub, Int.reduceMul, Int.reduceNeg, ite_true, ite_false, dite_true, xc1, xc2, xc3, xc4, xc5, xc6, xc7, xc8, hr] | simp (maxSteps := 1000000) (disch := omega) only [exE, Int.toNat_natCast, Int.reduceToNat])
      exact .inl (List.eq_nil_of_length_eq_zero this)
  · rintro v h' (⟨rfl, rfl, rfl⟩ | ⟨c, rfl, rfl⟩)
    · exact ⟨_, _, weak_nil_slot 0 .u8 rfl (fun j => by cases j <;> rfl), 0, rfl, rfl⟩
    · exact ⟨_, _, weak_gc' [1] (by decide) (by simp) (by rfl) rfl ⟨rfl, trivial⟩, c, rfl, rfl⟩
def N30 (h : List Blk) : List AV → Option Out
  | [x] => (u8Of h x).bind fun l => oguard (l.length ≤ 140737488355328) (some (.one (.roI .u8 l) h))
  | _ => none
theorem N30_eq (h : List Blk) (x : AV) : N30 h [x] = (u8Of h x).bind fun l => oguard (l.length ≤ 140737488355328) (some (.one (.roI .u8 l) h)) := rfl
noncomputable def n9 : FuncId → Option (List Blk → List AV → Option Out) := addNews (fun _ => none) 30 N30
noncomputable def c9 (k : Nat) : Cfg := ⟨Try.prog, k, p8, [], n9, none, []⟩
theorem c9_odd (k : Nat) : (c9 k).odd = [] := rfl
theorem c9_ro (k : Nat) : (c9 k).ro = [] := rfl
theorem c9_P (k : Nat) : (c9 k).P = Try.prog := rfl
theorem c9_pure (k : Nat) : (c9 k).pure = p8 := rfl
theorem c9_news (k : Nat) : (c9 k).news = n9 := rfl
theorem xc9 :
  (type_of% @c9_pure) ∧
  (type_of% @c9_news) ∧
  (type_of% @Go.Proofs.Ytgkhngcnbddoiaa.n9.eq_1) ∧
  (type_of% @N30_eq) :=
  ⟨@c9_pure, @c9_news, @Go.Proofs.Ytgkhngcnbddoiaa.n9.eq_1, @N30_eq⟩
theorem good9 (k : Nat) : (c9 k).Good := by
  refine Cfg.Good.addN (good8 k) ?_ k
  intro h args out hN
  unfold N30 at hN
  split at hN
  · rename_i x
    obtain ⟨l, hl, hN⟩ := Option.bind_eq_some_iff.1 hN
    obtain ⟨h1, hN⟩ := oguard_some hN
    cases hN
    refine ⟨⟨[], by simp⟩, fun κ hκ => ?_⟩
    refine ACall.shed (ACall.ro (args := [x]) (clone_spec l h1) (by rintro _ _ ⟨c, rfl, rfl⟩; exact ⟨rfl, rfl⟩) (fun g => rfl) (List.range h.length) ⟨u8Of_frz hl, trivial⟩) ?_
    rintro v h' ⟨v0, h0, ⟨c, rfl, rfl⟩, rfl, rfl⟩
    refine ⟨.roI .u8 l, _, rfl, by intro x hx; simp [renB] at hx; exact ⟨_, hx⟩, rfl, ?_, hκ⟩
    refine Frz.ints (by simp [List.mem_range'_1]) ?_
    simp [intsOf, row_def, rowS, noMap, renB, renL, AV.ren, rowDrop, oguard]
  · cases hN
def blockK (l : List Int) : Nat → List Int
  | 0 => List.replicate 512 0
  | i + 1 => (blockK l i).set i (l.getD (i % l.length) 0)
theorem blockK_len (l : List Int) : ∀ i, (blockK l i).length = 512
  | 0 => by simp [blockK]
  | i + 1 => by simp only [blockK, List.length_set]; exact blockK_len l i
def blockL (l : List Int) : List Int := if l.length = 0 then List.replicate 512 0 else blockK l 512
theorem blockL_len (l : List Int) : (blockL l).length = 512 := by unfold blockL; split; · simp
                                                                  · exact blockK_len l 512
theorem block_spec (l : List Int) (hl : l.length ≤ 9223372036854775807) : ACall Try.prog 11 [.roI .u8 l] [] fun v h' => v = .sl 0 0 1 0 512 512 ∧ h' = [some [.arr 512 .u8 (blockL l)]] := by
  have na : ∀ n : Nat, (0 : Int) ≤ n := fun n => Int.natCast_nonneg n
  by_cases h0 : l.length = 0
  · rw [blockL, if_pos h0]
    refine acall_run (good9 0) Try.func11 rfl ⟨by kernel_rfl, by show 1 ≤ _; decide, by kernel_rfl, by kernel_rfl⟩ rfl ?_; have hr : Try.f11.results.toList = [.tmp 2] := rfl
    repeat (first | simp only [c9_P, c9_odd, c9_ro, Nat.reduceBEq, reduceIte, Nat.reduceEqDiff, reduceCtorEq, ne_eq, if_true, if_false, exA, exA, tabs, exB, exD, buildA, rowOr, rowSetAt, rowAgg, mkAgg, AV.isAggV, AV.parts, AV.one, AV.solid, headSize, indexAddrA, indexA, fieldAddrA, fieldA, sliceA, boundsA, bndA, lenA, arrayAtA, rowOf, makeSliceA, intsOf, copyA, Nat.reduceAdd, Nat.reduceSub, Nat.reduceMul, Nat.reduceLeDiff, Nat.reduceLT, Nat.reduceGT, Int.reduceToNat, Int.reduceLE, Int.reduceLT, Int.reduceEq, Int.reduceNe, Int.reduceAdd, Int.reduceSub, Int.reduceMul, Int.reduceNeg, ite_true, ite_false, dite_true, xc1, xc2, xc3, xc4, xc5, xc6, xc7, xc8, xc9, hr] | simp (maxSteps := 1000000) (disch := omega) only [exE, Int.toNat_natCast, Int.reduceToNat])
    refine loop_count (good9 0) (fun i => ⟨envL [(0, .roI .u8 l), (3, .sl 0 0 1 0 512 512), (4, .v (.int .i64 0))], [some [.arr 512 .u8 (List.replicate 512 0)]]⟩) 0 (by kernel_rfl) ?_ ?_ ?_
    · (refine weak_of ?_ ?_; (focus (first | with_reducible rfl | (simp only [] <;> with_reducible rfl))); simp only [exF, Nat.reduceEqDiff, if_true, if_false, reduceIte, Option.some.injEq, reduceCtorEq, Int.cast_ofNat_Int])
    · intro i hi; omega
    · repeat (first | simp only [c9_P, c9_odd, c9_ro, Nat.reduceBEq, reduceIte, Nat.reduceEqDiff, reduceCtorEq, ne_eq, if_true, if_false, exA, exA, tabs, exB, exD, buildA, rowOr, rowSetAt, rowAgg, mkAgg, AV.isAggV, AV.parts, AV.one, AV.solid, headSize, indexAddrA, indexA, fieldAddrA, fieldA, sliceA, boundsA, bndA, lenA, arrayAtA, rowOf, makeSliceA, intsOf, copyA, Nat.reduceAdd, Nat.reduceSub, Nat.reduceMul, Nat.reduceLeDiff, Nat.reduceLT, Nat.reduceGT, Int.reduceToNat, Int.reduceLE, Int.reduceLT, Int.reduceEq, Int.reduceNe, Int.reduceAdd, Int.reduceSub, Int.reduceMul, Int.reduceNeg, ite_true, ite_false, dite_true, xc1, xc2, xc3, xc4, xc5, xc6, xc7, xc8, xc9, hr, h0] | simp (maxSteps := 1000000) (disch := omega) only [exE, Int.toNat_natCast, Int.reduceToNat])
  · rw [blockL, if_neg h0]
    refine acall_run (good9 0) Try.func11 rfl ⟨by kernel_rfl, by show 1 ≤ _; decide, by kernel_rfl, by kernel_rfl⟩ rfl ?_; have hr : Try.f11.results.toList = [.tmp 2] := rfl
    repeat (first | simp only [c9_P, c9_odd, c9_ro, Nat.reduceBEq, reduceIte, Nat.reduceEqDiff, reduceCtorEq, ne_eq, if_true, if_false, exA, exA, tabs, exB, exD, buildA, rowOr, rowSetAt, rowAgg, mkAgg, AV.isAggV, AV.parts, AV.one, AV.solid, headSize, indexAddrA, indexA, fieldAddrA, fieldA, sliceA, boundsA, bndA, lenA, arrayAtA, rowOf, makeSliceA, intsOf, copyA, Nat.reduceAdd, Nat.reduceSub, Nat.reduceMul, Nat.reduceLeDiff, Nat.reduceLT, Nat.reduceGT, Int.reduceToNat, Int.reduceLE, Int.reduceLT, Int.reduceEq, Int.reduceNe, Int.reduceAdd, Int.reduceSub, Int.reduceMul, Int.reduceNeg, ite_true, ite_false, dite_true, xc1, xc2, xc3, xc4, xc5, xc6, xc7, xc8, xc9, hr] | simp (maxSteps := 1000000) (disch := omega) only [exE, Int.toNat_natCast, Int.reduceToNat])
    refine loop_count (good9 0) (fun i => ⟨envL [(0, .roI .u8 l), (3, .sl 0 0 1 0 512 512), (4, .v (.int .i64 i))], [some [.arr 512 .u8 (blockK l i)]]⟩) 512 (by kernel_rfl) ?_ ?_ ?_
    · (refine weak_of ?_ ?_; (focus (first | with_reducible rfl | (simp only [blockK] <;> with_reducible rfl))); simp only [exF, Nat.reduceEqDiff, if_true, if_false, reduceIte, Option.some.injEq, reduceCtorEq, Int.cast_ofNat_Int, blockK])
    · intro i hi
      have hk := blockK_len l i
      have hp : 0 < l.length := by omega
      have w1 : IntKind.i64.wrap ((i : Int) + 1) = ((i + 1 : Nat) : Int) := by rw [i64_id _ (by omega)]; omega
      have hm : i % l.length < l.length := Nat.mod_lt _ hp
      have ht : (i : Int).tmod (l.length : Nat) = ((i % l.length : Nat) : Int) := by rw [Int.tmod_eq_emod_of_nonneg (na i)]; omega
      have hc : (i : Int) < 512 := by omega
      have hne : ((l.length : Nat) : Int) ≠ 0 := by omega
      repeat (first | simp only [c9_P, c9_odd, c9_ro, Nat.reduceBEq, reduceIte, Nat.reduceEqDiff, reduceCtorEq, ne_eq, if_true, if_false, exA, exA, tabs, exB, exD, buildA, rowOr, rowSetAt, rowAgg, mkAgg, AV.isAggV, AV.parts, AV.one, AV.solid, headSize, indexAddrA, indexA, fieldAddrA, fieldA, sliceA, boundsA, bndA, lenA, arrayAtA, rowOf, makeSliceA, intsOf, copyA, Nat.reduceAdd, Nat.reduceSub, Nat.reduceMul, Nat.reduceLeDiff, Nat.reduceLT, Nat.reduceGT, Int.reduceToNat, Int.reduceLE, Int.reduceLT, Int.reduceEq, Int.reduceNe, Int.reduceAdd, Int.reduceSub, Int.reduceMul, Int.reduceNeg, ite_true, ite_false, dite_true, xc1, xc2, xc3, xc4, xc5, xc6, xc7, xc8, xc9, hr, na, w1, ht, hc, hk, hne] | simp (maxSteps := 1000000) (disch := omega) only [exE, Int.toNat_natCast, Int.reduceToNat])
      repeat (with_reducible refine And.intro (by first | omega | assumption) ?_)
      (refine weak_of ?_ ?_; (focus (first | with_reducible rfl | (simp only [blockK] <;> with_reducible rfl))); simp only [exF, Nat.reduceEqDiff, if_true, if_false, reduceIte, Option.some.injEq, reduceCtorEq, Int.cast_ofNat_Int, blockK])
    · repeat (first | simp only [c9_P, c9_odd, c9_ro, Nat.reduceBEq, reduceIte, Nat.reduceEqDiff, reduceCtorEq, ne_eq, if_true, if_false, exA, exA, tabs, exB, exD, buildA, rowOr, rowSetAt, rowAgg, mkAgg, AV.isAggV, AV.parts, AV.one, AV.solid, headSize, indexAddrA, indexA, fieldAddrA, fieldA, sliceA, boundsA, bndA, lenA, arrayAtA, rowOf, makeSliceA, intsOf, copyA, Nat.reduceAdd, Nat.reduceSub, Nat.reduceMul, Nat.reduceLeDiff, Nat.reduceLT, Nat.reduceGT, Int.reduceToNat, Int.reduceLE, Int.reduceLT, Int.reduceEq, Int.reduceNe, Int.reduceAdd, Int.reduceSub, Int.reduceMul, Int.reduceNeg, ite_true, ite_false, dite_true, xc1, xc2, xc3, xc4, xc5, xc6, xc7, xc8, xc9, hr, na, blockK_len] | simp (maxSteps := 1000000) (disch := omega) only [exE, Int.toNat_natCast, Int.reduceToNat])
def N11 (h : List Blk) : List AV → Option Out
  | [x] => (u8Of h x).bind fun l => oguard (l.length ≤ 9223372036854775807) (some (.one (.sl h.length 0 1 0 512 512) (h ++ [some [.arr 512 .u8 (blockL l)]])))
  | _ => none
theorem N11_eq (h : List Blk) (x : AV) : N11 h [x] = (u8Of h x).bind fun l => oguard (l.length ≤ 9223372036854775807) (some (.one (.sl h.length 0 1 0 512 512) (h ++ [some [.arr 512 .u8 (blockL l)]]))) := rfl
noncomputable def n10 : FuncId → Option (List Blk → List AV → Option Out) := addNews n9 11 N11
noncomputable def c10 (k : Nat) : Cfg := ⟨Try.prog, k, p8, [], n10, none, []⟩
theorem c10_odd (k : Nat) : (c10 k).odd = [] := rfl
theorem c10_ro (k : Nat) : (c10 k).ro = [] := rfl
theorem c10_P (k : Nat) : (c10 k).P = Try.prog := rfl
theorem c10_pure (k : Nat) : (c10 k).pure = p8 := rfl
theorem c10_news (k : Nat) : (c10 k).news = n10 := rfl
theorem xc10 :
  (type_of% @c10_pure) ∧
  (type_of% @c10_news) ∧
  (type_of% @Go.Proofs.Ytgkhngcnbddoiaa.n10.eq_1) ∧
  (type_of% @N11_eq) :=
  ⟨@c10_pure, @c10_news, @Go.Proofs.Ytgkhngcnbddoiaa.n10.eq_1, @N11_eq⟩
theorem good10 (k : Nat) : (c10 k).Good := by
  refine Cfg.Good.addN (good9 k) ?_ k
  intro h args out hN
  unfold N11 at hN
  split at hN
  · rename_i x
    obtain ⟨l, hl, hN⟩ := Option.bind_eq_some_iff.1 hN
    obtain ⟨h1, hN⟩ := oguard_some hN
    cases hN
    refine ⟨⟨_, rfl⟩, fun κ hκ => news_ok (args := [x]) (block_spec l h1) (by rintro _ _ ⟨rfl, rfl⟩; exact ⟨rfl, rfl⟩) (fun g => rfl) ⟨u8Of_frz hl, trivial⟩ ?_ hκ⟩
    rintro _ _ ⟨rfl, rfl⟩
    exact ⟨rfl, rfl⟩
  · cases hN
end Go.Proofs.Ytgkhngcnbddoiaa

/- The shelf's contracts laid at this program: written by a tool of the kit (lay-plain). -/
namespace Go.Proofs
open Go.Shelf
def Try.lW1_ren : Go.Shelf.Ren := ⟨fun | 5 => 33 | 7 => 52 | n => n, fun | 23 => 66 | 25 => 3 | 3 => 23 | 4 => 4 | 20 => 20 | n => n, fun | n => n⟩
theorem Try.lW1 : Go.Proofs.SlLaysW.n5 Try.prog Try.lW1_ren := {
  mixed := by kernel_rfl
  f5 := ⟨Try.f33.name, by decide, Try.func33.trans (congrArg some (by kernel_rfl))⟩
  f7 := Try.func52.trans (congrArg some (by kernel_rfl))
  t4 := Try.underlying4
  a4 := Try.isAgg4
  z4 := Try.sizeOf4
  v4 := Try.zeroValue4
  t20 := Try.underlying20
  a20 := Try.isAgg20
  z20 := Try.sizeOf20
  v20 := Try.zeroValue20
  t23 := Try.underlying66
  a23 := Try.isAgg66
  z23 := Try.sizeOf66
  v23 := Try.zeroValue66 }
def Try.lW2_ren : Go.Shelf.Ren := ⟨fun | 5 => 34 | 7 => 52 | n => n, fun | 23 => 67 | 25 => 3 | 3 => 9 | 4 => 4 | 20 => 20 | n => n, fun | n => n⟩
theorem Try.lW2 : Go.Proofs.SlLaysW.n5 Try.prog Try.lW2_ren := {
  mixed := by kernel_rfl
  f5 := ⟨Try.f34.name, by decide, Try.func34.trans (congrArg some (by kernel_rfl))⟩
  f7 := Try.func52.trans (congrArg some (by kernel_rfl))
  t4 := Try.underlying4
  a4 := Try.isAgg4
  z4 := Try.sizeOf4
  v4 := Try.zeroValue4
  t20 := Try.underlying20
  a20 := Try.isAgg20
  z20 := Try.sizeOf20
  v20 := Try.zeroValue20
  t23 := Try.underlying67
  a23 := Try.isAgg67
  z23 := Try.sizeOf67
  v23 := Try.zeroValue67 }
def Try.keysA_ren : Go.Shelf.Ren := ⟨fun | 7 => 38 | 10 => 58 | n => n, fun | 23 => 66 | 26 => 3 | 3 => 23 | 28 => 82 | 0 => 0 | 27 => 81 | 33 => 99 | 4 => 4 | n => n, fun | n => n⟩
theorem Try.keysA : Go.Proofs.SlLaysZI.n7 Try.prog Try.keysA_ren := {
  mixed := by kernel_rfl
  f7 := ⟨Try.f38.name, by decide, Try.func38.trans (congrArg some (by kernel_rfl))⟩
  f10 := ⟨Try.f58.name, by decide, Try.func58.trans (congrArg some (by kernel_rfl))⟩
  t0 := Try.underlying0
  a0 := Try.isAgg0
  z0 := Try.sizeOf0
  v0 := Try.zeroValue0
  t4 := Try.underlying4
  a4 := Try.isAgg4
  z4 := Try.sizeOf4
  v4 := Try.zeroValue4
  t23 := Try.underlying66
  a23 := Try.isAgg66
  z23 := Try.sizeOf66
  v23 := Try.zeroValue66
  t26 := Try.underlying3
  a26 := Try.isAgg3
  z26 := Try.sizeOf3
  v26 := Try.zeroValue3
  t27 := Try.underlying81
  a27 := Try.isAgg81
  z27 := Try.sizeOf81
  v27 := Try.zeroValue81
  t28 := Try.underlying82
  a28 := Try.isAgg82
  z28 := Try.sizeOf82
  v28 := Try.zeroValue82
  t33 := Try.underlying99
  a33 := Try.isAgg99
  z33 := Try.sizeOf99
  v33 := Try.zeroValue99 }
def Try.sortedA_ren : Go.Shelf.Ren := ⟨fun | 6 => 37 | 8 => 56 | 9 => 57 | 11 => 64 | 13 => 66 | 12 => 65 | 23 => 78 | 24 => 79 | 14 => 69 | 15 => 70 | 16 => 71 | 17 => 72 | 18 => 73 | 19 => 74 | 20 => 75 | 21 => 76 | 22 => 77 | 25 => 80 | 26 => 81 | 27 => 82 | 28 => 83 | 29 => 84 | 30 => 85 | 31 => 86 | n => n, fun | 26 => 3 | 28 => 82 | 24 => 52 | 0 => 0 | 3 => 3 | 37 => 104 | 48 => 115 | 50 => 31 | 4 => 4 | 40 => 107 | 39 => 106 | 45 => 112 | 5 => 5 | 9 => 9 | 51 => 117 | 55 => 121 | 57 => 123 | 58 => 124 | 33 => 99 | n => n, fun | n => n⟩
theorem Try.sortedA : Go.Proofs.SlLaysZI.n6 Try.prog Try.sortedA_ren := {
  mixed := by kernel_rfl
  f6 := ⟨Try.f37.name, by decide, Try.func37.trans (congrArg some (by kernel_rfl))⟩
  f8 := ⟨Try.f56.name, by decide, Try.func56.trans (congrArg some (by kernel_rfl))⟩
  f11 := ⟨Try.f64.name, by decide, Try.func64.trans (congrArg some (by kernel_rfl))⟩
  t0 := Try.underlying0
  a0 := Try.isAgg0
  z0 := Try.sizeOf0
  v0 := Try.zeroValue0
  t24 := Try.underlying52
  a24 := Try.isAgg52
  z24 := Try.sizeOf52
  v24 := Try.zeroValue52
  t26 := Try.underlying3
  a26 := Try.isAgg3
  z26 := Try.sizeOf3
  v26 := Try.zeroValue3
  t28 := Try.underlying82
  a28 := Try.isAgg82
  z28 := Try.sizeOf82
  v28 := Try.zeroValue82
  i26 := by kernel_rfl }
def Try.sortA_ren : Go.Shelf.Ren := ⟨fun | 5 => 57 | 8 => 66 | 7 => 65 | 19 => 78 | 20 => 79 | 10 => 69 | 11 => 70 | 12 => 71 | 13 => 72 | 14 => 73 | 15 => 74 | 16 => 75 | 17 => 76 | 18 => 77 | 30 => 80 | 31 => 81 | 32 => 82 | 33 => 83 | 34 => 84 | 35 => 85 | 40 => 86 | n => n, fun | 23 => 52 | 25 => 3 | 3 => 3 | 32 => 104 | 22 => 52 | 0 => 0 | 44 => 115 | 46 => 31 | 4 => 4 | 36 => 107 | 35 => 106 | 41 => 112 | 5 => 5 | 9 => 9 | 53 => 117 | 57 => 121 | 63 => 123 | 64 => 124 | n => n, fun | n => n⟩
theorem Try.sortA : Go.Proofs.SlLaysM.n5 Try.prog Try.sortA_ren := {
  mixed := by kernel_rfl
  f5 := ⟨Try.f57.name, by decide, Try.func57.trans (congrArg some (by kernel_rfl))⟩
  f7 := ⟨Try.f65.name, by decide, Try.func65.trans (congrArg some (by kernel_rfl))⟩
  f8 := Try.func66.trans (congrArg some (by kernel_rfl))
  f10 := ⟨Try.f69.name, by decide, Try.func69.trans (congrArg some (by kernel_rfl))⟩
  f11 := ⟨Try.f70.name, by decide, Try.func70.trans (congrArg some (by kernel_rfl))⟩
  f12 := ⟨Try.f71.name, by decide, Try.func71.trans (congrArg some (by kernel_rfl))⟩
  f13 := ⟨Try.f72.name, by decide, Try.func72.trans (congrArg some (by kernel_rfl))⟩
  f14 := ⟨Try.f73.name, by decide, Try.func73.trans (congrArg some (by kernel_rfl))⟩
  f15 := ⟨Try.f74.name, by decide, Try.func74.trans (congrArg some (by kernel_rfl))⟩
  f16 := ⟨Try.f75.name, by decide, Try.func75.trans (congrArg some (by kernel_rfl))⟩
  f17 := ⟨Try.f76.name, by decide, Try.func76.trans (congrArg some (by kernel_rfl))⟩
  f18 := ⟨Try.f77.name, by decide, Try.func77.trans (congrArg some (by kernel_rfl))⟩
  f19 := Try.func78.trans (congrArg some (by kernel_rfl))
  f20 := Try.func79.trans (congrArg some (by kernel_rfl))
  f30 := ⟨Try.f80.name, by decide, Try.func80.trans (congrArg some (by kernel_rfl))⟩
  f31 := Try.func81.trans (congrArg some (by kernel_rfl))
  f32 := Try.func82.trans (congrArg some (by kernel_rfl))
  f33 := ⟨Try.f83.name, by decide, Try.func83.trans (congrArg some (by kernel_rfl))⟩
  f34 := ⟨Try.f84.name, by decide, Try.func84.trans (congrArg some (by kernel_rfl))⟩
  f35 := ⟨Try.f85.name, by decide, Try.func85.trans (congrArg some (by kernel_rfl))⟩
  f40 := ⟨Try.f86.name, by decide, Try.func86.trans (congrArg some (by kernel_rfl))⟩
  t0 := Try.underlying0
  a0 := Try.isAgg0
  z0 := Try.sizeOf0
  v0 := Try.zeroValue0
  t3 := Try.underlying3
  a3 := Try.isAgg3
  z3 := Try.sizeOf3
  v3 := Try.zeroValue3
  t4 := Try.underlying4
  a4 := Try.isAgg4
  z4 := Try.sizeOf4
  v4 := Try.zeroValue4
  t5 := Try.underlying5
  a5 := Try.isAgg5
  z5 := Try.sizeOf5
  v5 := Try.zeroValue5
  t9 := Try.underlying9
  a9 := Try.isAgg9
  z9 := Try.sizeOf9
  v9 := Try.zeroValue9
  t22 := Try.underlying52
  a22 := Try.isAgg52
  z22 := Try.sizeOf52
  v22 := Try.zeroValue52
  t23 := Try.underlying52
  a23 := Try.isAgg52
  z23 := Try.sizeOf52
  v23 := Try.zeroValue52
  t25 := Try.underlying3
  a25 := Try.isAgg3
  z25 := Try.sizeOf3
  v25 := Try.zeroValue3
  t32 := Try.underlying104
  a32 := Try.isAgg104
  z32 := Try.sizeOf104
  v32 := Try.zeroValue104
  t35 := Try.underlying106
  a35 := Try.isAgg106
  z35 := Try.sizeOf106
  v35 := Try.zeroValue106
  t36 := Try.underlying107
  a36 := Try.isAgg107
  z36 := Try.sizeOf107
  v36 := Try.zeroValue107
  t41 := Try.underlying112
  a41 := Try.isAgg112
  z41 := Try.sizeOf112
  v41 := Try.zeroValue112
  t44 := Try.underlying115
  a44 := Try.isAgg115
  z44 := Try.sizeOf115
  v44 := Try.zeroValue115
  t46 := Try.underlying31
  a46 := Try.isAgg31
  z46 := Try.sizeOf31
  v46 := Try.zeroValue31
  t53 := Try.underlying117
  a53 := Try.isAgg117
  z53 := Try.sizeOf117
  v53 := Try.zeroValue117
  t57 := Try.underlying121
  a57 := Try.isAgg121
  z57 := Try.sizeOf121
  v57 := Try.zeroValue121
  t63 := Try.underlying123
  a63 := Try.isAgg123
  z63 := Try.sizeOf123
  v63 := Try.zeroValue123
  t64 := Try.underlying124
  a64 := Try.isAgg124
  z64 := Try.sizeOf124
  v64 := Try.zeroValue124 }
end Go.Proofs

namespace Go.Proofs.Ytgkhngcnbddoiaa
open Go.Ax Go.MapKept Go.Maps
theorem mclone_ok {f : FuncId} (hb : hasBody Try.prog f = true) (hc : ∀ (b : Nat) (es : Array MapEntry) (clock : Nat) (w : World), w.heap[b]? = some (.map es clock) → Calls Try.prog f #[.map (some b)] w fun e w' => e = .returned (.map (some w.heap.size)) ∧ w' = w.alloc (.map es clock))
    {h : List Blk} {b : Nat} {r : List Int × List AV} (hm : mrow h b = some r) {κ : AV → List Blk → Prop} (hκ : κ (.mp h.length) (h ++ [some [.mobj r.1 r.2]])) : ACall Try.prog f [.mp b] h κ := by
  refine ⟨hb, fun E w ρ vs h1 h2 h3 => ?_⟩
  simp only [relVs] at h1
  obtain ⟨a, l, hvs, ha, rfl⟩ := h1
  simp only [AV.relV, AV.rel, List.cons.injEq, and_true] at ha
  obtain ⟨q, hq, rfl⟩ := ha
  obtain rfl : vs = #[.map (some q)] := by apply Array.ext'; simpa using hvs
  have hB := h2.blk b _ (mrow_some hm)
  rw [hq] at hB
  rcases hB with ⟨c, e, fz, _, _, cs, post, _, h5⟩ | ⟨ks, vs, heq, es, clk, g1, g2, g3, g4, g5⟩
  · simp [relAll, AV.rel] at h5
  simp only [List.cons.injEq, AV.mobj.injEq, and_true] at heq
  obtain ⟨rfl, rfl⟩ := heq
  refine (hc q es clk w g1).mono ?_
  rintro en w' ⟨rfl, rfl⟩
  have hf : Ax.Frame (XOf E ρ h) w (w.alloc (.map es clk)) := Ax.Frame.alloc
  have hX : ∀ r', r' < w.heap.size → XOf E (ρ ++ [some w.heap.size]) (h ++ [some [.mobj r.1 r.2]]) r' → XOf E ρ h r' := by
    rintro r' hlt (hr | hr)
    · exact .inl hr
    · rcases own_snoc h2 hr with hr | hr
      · exact .inr hr
      · cases hr; omega
  refine ⟨_, _, ρ ++ [some w.heap.size], _, rfl, hκ, ?_, h2.allocB hf (fun r' hr => Ax.heap_alloc_old w _ r' hr) hX (.inr ⟨_, _, rfl, es, clk, Ax.heap_alloc_new w _, g2, relAll_keep hf.keep hX _ [] [] _ (fun _ _ h => h) g3, g4, g5⟩), fun _ _ h => get_snoc_old h, ?_, Ax.Frame.alloc⟩
  · simp only [AV.relV, AV.rel]
    exact ⟨_, by rw [← h2.len]; simp, rfl⟩
  · intro r' hr
    rcases own_snoc h2 hr with hr | hr
    · exact .inl hr
    · cases hr; exact .inr (Nat.le_refl _)
theorem sortsA (m : Nat) : AnyZI.SortsIn Try.prog Try.sortedA_ren Fence.wide m :=
  ⟨fun blk off cap ss W hH hblk hsz => callsIn_wide.2 (AnyM.slices_Sort_int Try.sortA blk off cap ss W hH hblk hsz),
   fun p cap W => callsIn_wide.2 (AnyM.slices_Sort_int_none Try.sortA p cap W)⟩
def srt (ks : List Int) : List Int := ks.mergeSort (fun x y => decide (x ≤ y))
theorem keys_fit {es : Array MapEntry} {clk : Nat} {ks : List Int} (h1 : es.toList.map (·.key) = ks.map (Value.int .i64)) (h2 : Stamped es clk) (hk : ∀ k ∈ ks, 0 ≤ k ∧ k ≤ 1048576) (hl : ks.length ≤ 1048576) {w : World} {b : Nat} (hb : w.heap[b]? = some (.map es clk)) :
    ∃ D0 : DataW Unit, w.ownsMap Try.prog 3 (fun _ => some (.nil, [])) b es.size D0 ∧ (intKeys D0).Perm ks ∧ Maps.size D0 = ks.length := by
  have hlen : es.size = ks.length := by have := congrArg List.length h1; simpa using this
  have hrd : ∀ x ∈ es.toList, ∃ k ∈ ks, x.key = .int .i64 k := by
    intro x hx
    have : x.key ∈ ks.map (Value.int .i64) := by rw [← h1]; exact List.mem_map_of_mem hx
    obtain ⟨k, h3, h4⟩ := List.mem_map.1 this
    exact ⟨k, h3, h4.symm⟩
  have hkey : ∀ k ∈ ks, Go.keyOf Try.prog 3 (.int .i64 k) = some (.int .i64 k) := by
    intro k hkk
    have h3 := hk k hkk
    have hw : (Lit.int .i64 k).wf = true := by
      simp only [Lit.wf, Bool.and_eq_true, decide_eq_true_eq]
      have : IntKind.i64.min = -9223372036854775808 ∧ IntKind.i64.max = 9223372036854775807 := by decide
      omega
    simp [Go.keyOf, Try.underlying3, mapKey, hw]
  have hr : ∀ x ∈ es.toList, ∀ k, k ∈ ks → x.key = .int .i64 k → Go.WideElems.rd (H := Unit) Try.prog 3 (fun _ => some (.nil, [])) x = some (.int .i64 k, .nil) := by
    intro x hx k hkk he
    simp [Go.WideElems.rd, he, hkey k hkk]
  refine ⟨_, ⟨es, clk, hb, ⟨by rw [hlen]; unfold maxLen; omega, h2, fun x hx => ?_⟩, Nat.le_refl _, rfl⟩, ?_, ?_⟩
  · obtain ⟨k, h3, h4⟩ := hrd x hx
    exact ⟨_, hr x hx k h3 h4⟩
  · show (List.map (fun p : Lit × DataW Unit => Go.intOf p.1) _).Perm ks
    refine (List.Perm.map _ (Go.WideShapes.sorted_perm (H := Unit) _)).trans ?_
    rw [List.map_map]
    have : es.toList.map ((fun p : Lit × DataW Unit => Go.intOf p.1) ∘ Go.WideElems.rg Try.prog 3 (fun _ => some (.nil, []))) = ks := by
      have h5 : es.toList.map ((fun p : Lit × DataW Unit => Go.intOf p.1) ∘ Go.WideElems.rg Try.prog 3 (fun _ => some (.nil, []))) = (es.toList.map (·.key)).map (fun v => match v with | .int _ k => k | _ => 0) := by
        rw [List.map_map]
        refine List.map_congr_left fun x hx => ?_
        obtain ⟨k, h3, h4⟩ := hrd x hx
        simp only [Function.comp, Go.WideElems.rg_of (hr x hx k h3 h4), Go.intOf, h4]
      rw [h5, h1, List.map_map]
      conv => rhs; rw [← List.map_id ks]
      exact List.map_congr_left fun _ _ => rfl
    rw [this]
  · show (List.foldr DataW.insert [] _).length = ks.length
    rw [(Go.WideShapes.sorted_perm (H := Unit) _).length_eq, List.length_map, Array.length_toList, hlen]
theorem sorted_spec (ks : List Int) (vs : List AV) (hk : ∀ k ∈ ks, 0 ≤ k ∧ k ≤ 1048576) (hl : ks.length ≤ 1048576) : ACall Try.prog 37 [.fn (.func 58) [] [.ptr 1 0 0]] [some [.mobj ks vs], some [.mp 0]] fun v h' =>
    (ks = [] ∧ v = .v (.slice none 0 0) ∧ h' = [some [.mobj ks vs], some [.mp 0]]) ∨ ∃ c, v = .sl 2 0 1 0 ks.length c ∧ h' = [some [.mobj ks vs], some [.mp 0], some [.arr ks.length .i64 (srt ks)]] := by
  refine ⟨by kernel_rfl, fun E w ρ xs h1 h2 h3 => ?_⟩
  simp only [relVs, AV.relV, AV.rel] at h1
  obtain ⟨a, l, hxs, ⟨f1, c1, ha1, hf1, hc1⟩, rfl⟩ := h1
  simp only [List.cons.injEq, and_true] at ha1
  subst ha1
  obtain ⟨a2, l2, hc1', ⟨B, hB, ha2⟩, rfl⟩ := hc1
  simp only [List.cons.injEq, and_true] at ha2
  subst ha2
  obtain rfl : f1 = #[] := by apply Array.ext'; simpa using hf1
  obtain rfl : c1 = #[.pointer (some ⟨B, 0, none⟩)] := by apply Array.ext'; simpa using hc1'
  obtain rfl : xs = #[.func (.func 58) #[] #[.pointer (some ⟨B, 0, none⟩)]] := by apply Array.ext'; simpa using hxs
  have hb0 := h2.blk 0 _ rfl
  have hb1 := h2.blk 1 _ rfl
  rw [hB] at hb1
  obtain ⟨cc, te, fz, hc, _, cs, post, hcs, hrel⟩ := hb1.cells rfl
  rw [relAll_one] at hrel
  simp only [AV.rel] at hrel
  obtain ⟨b, hb, rfl⟩ := hrel
  rw [hb] at hb0
  rcases hb0 with ⟨c, e, fz, _, _, cs, post, _, h5⟩ | ⟨ks', vs', heq, es, clk, g1, g2, g3, g4, g5⟩
  · simp [relAll, AV.rel] at h5
  simp only [List.cons.injEq, AV.mobj.injEq, and_true] at heq
  obtain ⟨rfl, rfl⟩ := heq
  obtain ⟨D0, hown, hperm, hsz⟩ := keys_fit g2 g5 hk hl g1
  have hBl : B < w.heap.size := Ax.heap_lt hc
  have hcell : w.cell? ⟨B, 0, none⟩ = some (.map (some b)) := Ax.cell_of hc (by rw [← Array.getElem?_toList, hcs]; rfl)
  have hseq : SeqGives Fence.wide 2 Try.prog 58 #[.pointer (some ⟨B, 0, none⟩)] encZ (fun ss => ss.Perm (intKeys D0)) (Maps.size D0) w :=
    AnyZI.keys_gives (ρ := Try.keysA_ren) { Try.keysA with } Fence.wide _ trivial rfl (by omega) B b _ D0 _ hBl hcell hown
  have cS := AnyZI.sorted_in Try.sortedA Fence.wide 5 trivial trivial trivial trivial rfl (by omega) (sortsA _) (enters_of Try.func57 (by kernel_rfl) rfl) 58 #[.pointer (some ⟨B, 0, none⟩)] trivial (enters_of Try.func58 (by kernel_rfl) rfl) _ _ (by rw [hsz]; unfold maxLen; omega) (by rw [hsz]; omega) _ hseq
  change CallsIn _ _ Try.prog 37 _ _ _ at cS
  refine (callsIn_wide.1 cS).mono ?_
  rintro en w' ⟨v, ss, rfl, hS, hrow, hnil, hbel⟩
  have hss : ss.Perm ks := hS.trans hperm
  have hlen : ss.length = ks.length := hss.length_eq
  have hsort : ss.mergeSort (fun x y => decide (x ≤ y)) = srt ks := mergeSort_of_perm_i hss
  have hfr : ∀ F : Nat → Prop, Ax.Frame F w w' := fun F => ⟨hbel.size, fun r hr _ => hbel.block r hr, fun r n hr => by
    have := Ax.room.lt hr
    obtain ⟨c, e, fz, h, hn⟩ := hr
    exact ⟨c, e, fz, (hbel.block r this).trans h, hn⟩, hbel.os, hbel.output, hbel.tape⟩
  rcases hrow.2 with ⟨rfl, hn0⟩ | ⟨g, cap, cur, rfl, hg, hgc, hcap1, hcap2, hcur, htake⟩
  · have hks : ks = [] := List.eq_nil_of_length_eq_zero (by omega)
    refine ⟨_, _, ρ, _, rfl, .inl ⟨hks, rfl, rfl⟩, v_rel rfl, ?_, fun _ _ h => h, fun r hr => .inl hr, hfr _⟩
    refine ⟨h2.len, fun b' ps hp => (h2.blk b' ps hp).keep (hfr (XOf E ρ _)).keep (fun _ _ h => h) (fun _ _ h => h) ?_, h2.inj⟩
    intro r hr
    have := h2.blk b' ps hp
    rw [hr] at this
    exact hbel.block r this.lt
  · have hown' : ∀ r, own (ρ ++ [some g]) ([some [.mobj ks vs], some [.mp 0]] ++ [some [.arr ks.length .i64 (srt ks)]]) r → own ρ [some [.mobj ks vs], some [.mp 0]] r ∨ some g = some r := fun r hr => own_snoc h2 hr
    have hX : ∀ r', r' < w.heap.size → XOf E (ρ ++ [some g]) ([some [.mobj ks vs], some [.mp 0]] ++ [some [.arr ks.length .i64 (srt ks)]]) r' → XOf E ρ [some [.mobj ks vs], some [.mp 0]] r' := by
      rintro r' hlt (hr | hr)
      · exact .inl hr
      · rcases hown' r' hr with hr | hr
        · exact .inr hr
        · cases hr; omega
    have hcell2 : cur.toList = (srt ks).map (Value.int .i64) ++ cur.toList.drop ks.length := by
      rw [hsort] at htake
      conv => lhs; rw [← List.take_append_drop ks.length cur.toList]
      rw [← hlen]
      rw [Nat.mul_one] at htake
      rw [htake]
    have hsl : (srt ks).length = ks.length := List.length_mergeSort _
    refine ⟨_, _, ρ ++ [some g], _, rfl, .inr ⟨cap, rfl, rfl⟩, ?_, h2.addB hg (hfr _) hbel.block hX (.inl ⟨cur, _, _, hgc, .inl rfl, _, _, hcell2, ?_⟩), fun _ _ h => get_snoc_old h, ?_, hfr _⟩
    · simp only [AV.relV, AV.rel]
      left
      refine ⟨g, 0, by have := h2.len; simp only [List.length_cons, List.length_nil] at this; rw [List.getElem?_append_right (by omega)]; simp [this], by rw [hlen], ⟨cur, _, _, hgc, Nat.zero_le _⟩, .inr ⟨rfl, cur, _, _, hgc, ?_⟩, by omega⟩
      rw [hcur]; omega
    · rw [relAll_one]
      simp only [AV.rel]
      exact ⟨trivial, hsl⟩
    · intro r hr
      rcases hown' r hr with hr | hr
      · exact .inl hr
      · cases hr; exact .inr hg
end Go.Proofs.Ytgkhngcnbddoiaa

namespace Go.Proofs.Ytgkhngcnbddoiaa
open Go.Ax
def N33 (h : List Blk) : List AV → Option Out
  | [.mp b] => (mrow h b).map fun r => .one (.mp h.length) (h ++ [some [.mobj r.1 r.2]])
  | _ => none
theorem N33_eq (h : List Blk) (b : Nat) : N33 h [.mp b] = (mrow h b).map fun r => .one (.mp h.length) (h ++ [some [.mobj r.1 r.2]]) := rfl
noncomputable def n11 : FuncId → Option (List Blk → List AV → Option Out) := addNews (addNews n10 33 N33) 34 N33
noncomputable def c11 (k : Nat) : Cfg := ⟨Try.prog, k, p8, [], n11, none, []⟩
theorem c11_odd (k : Nat) : (c11 k).odd = [] := rfl
theorem c11_ro (k : Nat) : (c11 k).ro = [] := rfl
theorem c11_P (k : Nat) : (c11 k).P = Try.prog := rfl
theorem c11_pure (k : Nat) : (c11 k).pure = p8 := rfl
theorem c11_news (k : Nat) : (c11 k).news = n11 := rfl
theorem xc11 :
  (type_of% @c11_pure) ∧
  (type_of% @c11_news) ∧
  (type_of% @Go.Proofs.Ytgkhngcnbddoiaa.n11.eq_1) ∧
  (type_of% @N33_eq) :=
  ⟨@c11_pure, @c11_news, @Go.Proofs.Ytgkhngcnbddoiaa.n11.eq_1, @N33_eq⟩
theorem good11 (k : Nat) : (c11 k).Good := by
  refine Cfg.Good.addN (Cfg.Good.addN (good10 k) ?_ k) ?_ k
  · intro h args out hN
    unfold N33 at hN
    split at hN
    · obtain ⟨r, hr, rfl⟩ := Option.map_eq_some_iff.1 hN
      exact ⟨⟨_, rfl⟩, fun κ hκ => mclone_ok (by kernel_rfl) (fun b es clk w hb => AnyW.maps_Clone Try.lW1 b es clk w hb) hr hκ⟩
    · cases hN
  · intro h args out hN
    unfold N33 at hN
    split at hN
    · obtain ⟨r, hr, rfl⟩ := Option.map_eq_some_iff.1 hN
      exact ⟨⟨_, rfl⟩, fun κ hκ => mclone_ok (by kernel_rfl) (fun b es clk w hb => AnyW.maps_Clone Try.lW2 b es clk w hb) hr hκ⟩
    · cases hN
structure Mf where
  H : Hd
  s : Nat
  p : Nat
  ep : Int
  R : Rt
  op : Bool
  sl : Int
def mrowP : Option Blk → Option Mf
  | some (some [.v (.int .u64 ha), .v (.int .i64 hb), .v (.int .i64 hc), .v (.int .i64 hd), .v (.int .i64 he), .v (.int .i64 hf), .v (.int .i64 hg), .v (.int .i64 hi), .arr 16 .u8 hn, .mp s, .mp p, .v (.int .i64 ep), .v (.int .u64 ra), .v (.bool rb), .v (.int .i64 rc), .arr 32 .u8 rd, .v (.bool op), .v (.int .i64 sl)]) => some ⟨⟨ha, hb, hc, hd, he, hf, hg, hi, hn⟩, s, p, ep, ⟨ra, rb, rc, rd⟩, op, sl⟩
  | _ => none
theorem mrowP_mk {ha hb hc hd he hf hg hi ra rc ep sl : Int} {hn rd : List Int} {rb op : Bool} {s p : Nat} : mrowP (some (some [.v (.int .u64 ha), .v (.int .i64 hb), .v (.int .i64 hc), .v (.int .i64 hd), .v (.int .i64 he), .v (.int .i64 hf), .v (.int .i64 hg), .v (.int .i64 hi), .arr 16 .u8 hn, .mp s, .mp p, .v (.int .i64 ep), .v (.int .u64 ra), .v (.bool rb), .v (.int .i64 rc), .arr 32 .u8 rd, .v (.bool op), .v (.int .i64 sl)])) = some ⟨⟨ha, hb, hc, hd, he, hf, hg, hi, hn⟩, s, p, ep, ⟨ra, rb, rc, rd⟩, op, sl⟩ := rfl
def mfL (m : Mf) : List AV := [.v (.int .u64 m.H.gen), .v (.int .i64 m.H.sec), .v (.int .i64 m.H.slo), .v (.int .i64 m.H.jou), .v (.int .i64 m.H.seg), .v (.int .i64 m.H.tim), .v (.int .i64 m.H.mem), .v (.int .i64 m.H.lan), .arr 16 .u8 m.H.nam, .mp m.s, .mp m.p, .v (.int .i64 m.ep), .v (.int .u64 m.R.ctr), .v (.bool m.R.rek), .v (.int .i64 m.R.fro), .arr 32 .u8 m.R.tre, .v (.bool m.op), .v (.int .i64 m.sl)]
theorem mrowP_some {x : Option Blk} {m : Mf} (h : mrowP x = some m) : x = some (some (mfL m)) := by
  unfold mrowP at h
  split at h
  · cases h; rfl
  · cases h
def mayE (m : Mf) (n : Int) : Int := if m.op = true then (if 0 ≤ n ∧ n < m.H.sec then 0 else 100) else 6
def plE (R : Rt) (H : Hd) (n : Int) : Int := if R.rek = true then 230 else if 0 ≤ n ∧ n < H.slo then 0 else 100
section
variable {h : List Blk} {b : Nat} {m : Mf} {κ : AV → List Blk → Prop}
theorem made_ok (hb : h[b]? = some (some (mfL m))) (hκ : κ (.v (.bool true)) h) : ACall Try.prog 28 [.ptr b 0 0] h κ := by
  unfold mfL at hb
  refine acall_run (good11 h.length) Try.func28 rfl ⟨by kernel_rfl, by show 1 ≤ _; decide, by kernel_rfl, by kernel_rfl⟩ rfl ?_; have hr : Try.f28.results.toList = [.tmp 2] := rfl
  repeat (first | simp only [c11_P, c11_odd, c11_ro, Nat.reduceBEq, reduceIte, Nat.reduceEqDiff, reduceCtorEq, ne_eq, if_true, if_false, exA, exA, tabs, exB, exD, buildA, rowOr, rowSetAt, rowAgg, mkAgg, AV.isAggV, AV.parts, AV.one, AV.solid, headSize, indexAddrA, indexA, fieldAddrA, fieldA, sliceA, boundsA, bndA, lenA, arrayAtA, rowOf, makeSliceA, intsOf, copyA, Nat.reduceAdd, Nat.reduceSub, Nat.reduceMul, Nat.reduceLeDiff, Nat.reduceLT, Nat.reduceGT, Int.reduceToNat, Int.reduceLE, Int.reduceLT, Int.reduceEq, Int.reduceNe, Int.reduceAdd, Int.reduceSub, Int.reduceMul, Int.reduceNeg, ite_true, ite_false, dite_true, xc1, xc2, xc3, xc4, xc5, xc6, xc7, xc8, xc9, xc10, xc11, hr, hb, hκ] | simp (maxSteps := 1000000) (disch := omega) only [exE, Int.toNat_natCast, Int.reduceToNat])
theorem made_nil (hκ : κ (.v (.bool false)) h) : ACall Try.prog 28 [.v (.pointer none)] h κ := by
  refine acall_run (good11 h.length) Try.func28 rfl ⟨by kernel_rfl, by show 1 ≤ _; decide, by kernel_rfl, by kernel_rfl⟩ rfl ?_; have hr : Try.f28.results.toList = [.tmp 2] := rfl
  repeat (first | simp only [c11_P, c11_odd, c11_ro, Nat.reduceBEq, reduceIte, Nat.reduceEqDiff, reduceCtorEq, ne_eq, if_true, if_false, exA, exA, tabs, exB, exD, buildA, rowOr, rowSetAt, rowAgg, mkAgg, AV.isAggV, AV.parts, AV.one, AV.solid, headSize, indexAddrA, indexA, fieldAddrA, fieldA, sliceA, boundsA, bndA, lenA, arrayAtA, rowOf, makeSliceA, intsOf, copyA, Nat.reduceAdd, Nat.reduceSub, Nat.reduceMul, Nat.reduceLeDiff, Nat.reduceLT, Nat.reduceGT, Int.reduceToNat, Int.reduceLE, Int.reduceLT, Int.reduceEq, Int.reduceNe, Int.reduceAdd, Int.reduceSub, Int.reduceMul, Int.reduceNeg, ite_true, ite_false, dite_true, xc1, xc2, xc3, xc4, xc5, xc6, xc7, xc8, xc9, xc10, xc11, hr, hκ] | simp (maxSteps := 1000000) (disch := omega) only [exE, Int.toNat_natCast, Int.reduceToNat])
def N28 (h : List Blk) : List AV → Option Out
  | [.ptr b 0 0] => (mrowP h[b]?).map fun _ => .one (.v (.bool true)) h
  | [.v (.pointer none)] => some (.one (.v (.bool false)) h)
  | _ => none
theorem N28_ptr (h : List Blk) (b : Nat) : N28 h [.ptr b 0 0] = (mrowP h[b]?).map fun _ => .one (.v (.bool true)) h := rfl
theorem N28_nil (h : List Blk) : N28 h [.v (.pointer none)] = some (.one (.v (.bool false)) h) := rfl
end
noncomputable def n12 : FuncId → Option (List Blk → List AV → Option Out) := addNews n11 28 N28
noncomputable def c12 (k : Nat) : Cfg := ⟨Try.prog, k, p8, [], n12, none, []⟩
theorem c12_odd (k : Nat) : (c12 k).odd = [] := rfl
theorem c12_ro (k : Nat) : (c12 k).ro = [] := rfl
theorem c12_P (k : Nat) : (c12 k).P = Try.prog := rfl
theorem c12_pure (k : Nat) : (c12 k).pure = p8 := rfl
theorem c12_news (k : Nat) : (c12 k).news = n12 := rfl
theorem xc12 :
  (type_of% @c12_pure) ∧
  (type_of% @c12_news) ∧
  (type_of% @Go.Proofs.Ytgkhngcnbddoiaa.n12.eq_1) ∧
  (type_of% @N28_ptr) ∧
  (type_of% @N28_nil) ∧
  (type_of% @mrowP_mk) :=
  ⟨@c12_pure, @c12_news, @Go.Proofs.Ytgkhngcnbddoiaa.n12.eq_1, @N28_ptr, @N28_nil, @mrowP_mk⟩
theorem good12 (k : Nat) : (c12 k).Good := by
  refine Cfg.Good.addN (good11 k) ?_ k
  intro h args out hN
  unfold N28 at hN
  split at hN
  · obtain ⟨m, hm, rfl⟩ := Option.map_eq_some_iff.1 hN
    exact ⟨⟨[], by simp⟩, fun κ hκ => made_ok (mrowP_some hm) hκ⟩
  · cases hN; exact ⟨⟨[], by simp⟩, fun κ hκ => made_nil hκ⟩
  · cases hN
section
variable {h : List Blk} {b : Nat} {m : Mf} {κ : AV → List Blk → Prop}
theorem is_ok (hb : h[b]? = some (some (mfL m))) (hκ : κ (.v (.bool m.op)) h) : ACall Try.prog 31 [.ptr b 0 0] h κ := by
  unfold mfL at hb
  refine acall_run (good12 h.length) Try.func31 rfl ⟨by kernel_rfl, by show 1 ≤ _; decide, by kernel_rfl, by kernel_rfl⟩ rfl ?_; have hr : Try.f31.results.toList = [.tmp 2] := rfl
  repeat (first | simp only [c12_P, c12_odd, c12_ro, Nat.reduceBEq, reduceIte, Nat.reduceEqDiff, reduceCtorEq, ne_eq, if_true, if_false, exA, exA, tabs, exB, exD, buildA, rowOr, rowSetAt, rowAgg, mkAgg, AV.isAggV, AV.parts, AV.one, AV.solid, headSize, indexAddrA, indexA, fieldAddrA, fieldA, sliceA, boundsA, bndA, lenA, arrayAtA, rowOf, makeSliceA, intsOf, copyA, Nat.reduceAdd, Nat.reduceSub, Nat.reduceMul, Nat.reduceLeDiff, Nat.reduceLT, Nat.reduceGT, Int.reduceToNat, Int.reduceLE, Int.reduceLT, Int.reduceEq, Int.reduceNe, Int.reduceAdd, Int.reduceSub, Int.reduceMul, Int.reduceNeg, ite_true, ite_false, dite_true, xc1, xc2, xc3, xc4, xc5, xc6, xc7, xc8, xc9, xc10, xc11, xc12, hr, hb, mrowP_mk, hκ] | simp (maxSteps := 1000000) (disch := omega) only [exE, Int.toNat_natCast, Int.reduceToNat])
theorem is_nil (hκ : κ (.v (.bool false)) h) : ACall Try.prog 31 [.v (.pointer none)] h κ := by
  refine acall_run (good12 h.length) Try.func31 rfl ⟨by kernel_rfl, by show 1 ≤ _; decide, by kernel_rfl, by kernel_rfl⟩ rfl ?_; have hr : Try.f31.results.toList = [.tmp 2] := rfl
  repeat (first | simp only [c12_P, c12_odd, c12_ro, Nat.reduceBEq, reduceIte, Nat.reduceEqDiff, reduceCtorEq, ne_eq, if_true, if_false, exA, exA, tabs, exB, exD, buildA, rowOr, rowSetAt, rowAgg, mkAgg, AV.isAggV, AV.parts, AV.one, AV.solid, headSize, indexAddrA, indexA, fieldAddrA, fieldA, sliceA, boundsA, bndA, lenA, arrayAtA, rowOf, makeSliceA, intsOf, copyA, Nat.reduceAdd, Nat.reduceSub, Nat.reduceMul, Nat.reduceLeDiff, Nat.reduceLT, Nat.reduceGT, Int.reduceToNat, Int.reduceLE, Int.reduceLT, Int.reduceEq, Int.reduceNe, Int.reduceAdd, Int.reduceSub, Int.reduceMul, Int.reduceNeg, ite_true, ite_false, dite_true, xc1, xc2, xc3, xc4, xc5, xc6, xc7, xc8, xc9, xc10, xc11, xc12, hr, hκ] | simp (maxSteps := 1000000) (disch := omega) only [exE, Int.toNat_natCast, Int.reduceToNat])
theorem place_ok (n : Int) (hb : h[b]? = some (some (mfL m))) (hκ : κ (.v (.int .i64 (plE m.R m.H n))) h) : ACall Try.prog 32 [.ptr b 0 0, .v (.int .i64 n)] h κ := by
  unfold mfL at hb
  cases h1 : m.R.rek
  · by_cases h2 : 0 ≤ n
    · by_cases h3 : n < m.H.slo
      · have e : plE m.R m.H n = 0 := by simp [plE, h1, h2, h3]
        rw [e] at hκ; refine acall_run (good12 h.length) Try.func32 rfl ⟨by kernel_rfl, by show 2 ≤ _; decide, by kernel_rfl, by kernel_rfl⟩ rfl ?_; have hr : Try.f32.results.toList = [.tmp 4] := rfl; repeat (first | simp only [c12_P, c12_odd, c12_ro, Nat.reduceBEq, reduceIte, Nat.reduceEqDiff, reduceCtorEq, ne_eq, if_true, if_false, exA, exA, tabs, exB, exD, buildA, rowOr, rowSetAt, rowAgg, mkAgg, AV.isAggV, AV.parts, AV.one, AV.solid, headSize, indexAddrA, indexA, fieldAddrA, fieldA, sliceA, boundsA, bndA, lenA, arrayAtA, rowOf, makeSliceA, intsOf, copyA, Nat.reduceAdd, Nat.reduceSub, Nat.reduceMul, Nat.reduceLeDiff, Nat.reduceLT, Nat.reduceGT, Int.reduceToNat, Int.reduceLE, Int.reduceLT, Int.reduceEq, Int.reduceNe, Int.reduceAdd, Int.reduceSub, Int.reduceMul, Int.reduceNeg, ite_true, ite_false, dite_true, xc1, xc2, xc3, xc4, xc5, xc6, xc7, xc8, xc9, xc10, xc11, xc12, hr, hb, h1, hκ] | simp (maxSteps := 1000000) (disch := omega) only [exE, Int.toNat_natCast, Int.reduceToNat])
      · have e : plE m.R m.H n = 100 := by simp [plE, h1, h2, h3]
        rw [e] at hκ; refine acall_run (good12 h.length) Try.func32 rfl ⟨by kernel_rfl, by show 2 ≤ _; decide, by kernel_rfl, by kernel_rfl⟩ rfl ?_; have hr : Try.f32.results.toList = [.tmp 4] := rfl; repeat (first | simp only [c12_P, c12_odd, c12_ro, Nat.reduceBEq, reduceIte, Nat.reduceEqDiff, reduceCtorEq, ne_eq, if_true, if_false, exA, exA, tabs, exB, exD, buildA, rowOr, rowSetAt, rowAgg, mkAgg, AV.isAggV, AV.parts, AV.one, AV.solid, headSize, indexAddrA, indexA, fieldAddrA, fieldA, sliceA, boundsA, bndA, lenA, arrayAtA, rowOf, makeSliceA, intsOf, copyA, Nat.reduceAdd, Nat.reduceSub, Nat.reduceMul, Nat.reduceLeDiff, Nat.reduceLT, Nat.reduceGT, Int.reduceToNat, Int.reduceLE, Int.reduceLT, Int.reduceEq, Int.reduceNe, Int.reduceAdd, Int.reduceSub, Int.reduceMul, Int.reduceNeg, ite_true, ite_false, dite_true, xc1, xc2, xc3, xc4, xc5, xc6, xc7, xc8, xc9, xc10, xc11, xc12, hr, hb, h1, hκ] | simp (maxSteps := 1000000) (disch := omega) only [exE, Int.toNat_natCast, Int.reduceToNat])
    · have e : plE m.R m.H n = 100 := by simp [plE, h1, h2]
      rw [e] at hκ; refine acall_run (good12 h.length) Try.func32 rfl ⟨by kernel_rfl, by show 2 ≤ _; decide, by kernel_rfl, by kernel_rfl⟩ rfl ?_; have hr : Try.f32.results.toList = [.tmp 4] := rfl; repeat (first | simp only [c12_P, c12_odd, c12_ro, Nat.reduceBEq, reduceIte, Nat.reduceEqDiff, reduceCtorEq, ne_eq, if_true, if_false, exA, exA, tabs, exB, exD, buildA, rowOr, rowSetAt, rowAgg, mkAgg, AV.isAggV, AV.parts, AV.one, AV.solid, headSize, indexAddrA, indexA, fieldAddrA, fieldA, sliceA, boundsA, bndA, lenA, arrayAtA, rowOf, makeSliceA, intsOf, copyA, Nat.reduceAdd, Nat.reduceSub, Nat.reduceMul, Nat.reduceLeDiff, Nat.reduceLT, Nat.reduceGT, Int.reduceToNat, Int.reduceLE, Int.reduceLT, Int.reduceEq, Int.reduceNe, Int.reduceAdd, Int.reduceSub, Int.reduceMul, Int.reduceNeg, ite_true, ite_false, dite_true, xc1, xc2, xc3, xc4, xc5, xc6, xc7, xc8, xc9, xc10, xc11, xc12, hr, hb, h1, hκ] | simp (maxSteps := 1000000) (disch := omega) only [exE, Int.toNat_natCast, Int.reduceToNat])
  · have e : plE m.R m.H n = 230 := by simp [plE, h1]
    rw [e] at hκ; refine acall_run (good12 h.length) Try.func32 rfl ⟨by kernel_rfl, by show 2 ≤ _; decide, by kernel_rfl, by kernel_rfl⟩ rfl ?_; have hr : Try.f32.results.toList = [.tmp 4] := rfl; repeat (first | simp only [c12_P, c12_odd, c12_ro, Nat.reduceBEq, reduceIte, Nat.reduceEqDiff, reduceCtorEq, ne_eq, if_true, if_false, exA, exA, tabs, exB, exD, buildA, rowOr, rowSetAt, rowAgg, mkAgg, AV.isAggV, AV.parts, AV.one, AV.solid, headSize, indexAddrA, indexA, fieldAddrA, fieldA, sliceA, boundsA, bndA, lenA, arrayAtA, rowOf, makeSliceA, intsOf, copyA, Nat.reduceAdd, Nat.reduceSub, Nat.reduceMul, Nat.reduceLeDiff, Nat.reduceLT, Nat.reduceGT, Int.reduceToNat, Int.reduceLE, Int.reduceLT, Int.reduceEq, Int.reduceNe, Int.reduceAdd, Int.reduceSub, Int.reduceMul, Int.reduceNeg, ite_true, ite_false, dite_true, xc1, xc2, xc3, xc4, xc5, xc6, xc7, xc8, xc9, xc10, xc11, xc12, hr, hb, h1, hκ] | simp (maxSteps := 1000000) (disch := omega) only [exE, Int.toNat_natCast, Int.reduceToNat])
def N31 (h : List Blk) : List AV → Option Out
  | [.ptr b 0 0] => (mrowP h[b]?).map fun m => .one (.v (.bool m.op)) h
  | [.v (.pointer none)] => some (.one (.v (.bool false)) h)
  | _ => none
theorem N31_ptr (h : List Blk) (b : Nat) : N31 h [.ptr b 0 0] = (mrowP h[b]?).map fun m => .one (.v (.bool m.op)) h := rfl
theorem N31_nil (h : List Blk) : N31 h [.v (.pointer none)] = some (.one (.v (.bool false)) h) := rfl
def N32 (h : List Blk) : List AV → Option Out
  | [.ptr b 0 0, .v (.int .i64 n)] => (mrowP h[b]?).map fun m => .one (.v (.int .i64 (plE m.R m.H n))) h
  | _ => none
theorem N32_ptr (h : List Blk) (b : Nat) (n : Int) : N32 h [.ptr b 0 0, .v (.int .i64 n)] = (mrowP h[b]?).map fun m => .one (.v (.int .i64 (plE m.R m.H n))) h := rfl
end
noncomputable def n13 : FuncId → Option (List Blk → List AV → Option Out) := addNews (addNews n12 31 N31) 32 N32
noncomputable def c13 (k : Nat) : Cfg := ⟨Try.prog, k, p8, [], n13, none, []⟩
theorem c13_odd (k : Nat) : (c13 k).odd = [] := rfl
theorem c13_ro (k : Nat) : (c13 k).ro = [] := rfl
theorem c13_P (k : Nat) : (c13 k).P = Try.prog := rfl
theorem c13_pure (k : Nat) : (c13 k).pure = p8 := rfl
theorem c13_news (k : Nat) : (c13 k).news = n13 := rfl
theorem xc13 :
  (type_of% @c13_pure) ∧
  (type_of% @c13_news) ∧
  (type_of% @Go.Proofs.Ytgkhngcnbddoiaa.n13.eq_1) ∧
  (type_of% @N31_ptr) ∧
  (type_of% @N31_nil) ∧
  (type_of% @N32_ptr) :=
  ⟨@c13_pure, @c13_news, @Go.Proofs.Ytgkhngcnbddoiaa.n13.eq_1, @N31_ptr, @N31_nil, @N32_ptr⟩
theorem good13 (k : Nat) : (c13 k).Good := by
  refine Cfg.Good.addN (Cfg.Good.addN (good12 k) ?_ k) ?_ k
  · intro h args out hN
    unfold N31 at hN
    split at hN
    · obtain ⟨m, hm, rfl⟩ := Option.map_eq_some_iff.1 hN
      exact ⟨⟨[], by simp⟩, fun κ hκ => is_ok (mrowP_some hm) hκ⟩
    · cases hN; exact ⟨⟨[], by simp⟩, fun κ hκ => is_nil hκ⟩
    · cases hN
  · intro h args out hN
    unfold N32 at hN
    split at hN
    · obtain ⟨m, hm, rfl⟩ := Option.map_eq_some_iff.1 hN
      exact ⟨⟨[], by simp⟩, fun κ hκ => place_ok _ (mrowP_some hm) hκ⟩
    · cases hN
section
variable {h : List Blk} {b : Nat} {m : Mf} {κ : AV → List Blk → Prop}
theorem may_ok (n : Int) (hb : h[b]? = some (some (mfL m))) (hκ : κ (.v (.int .i64 (mayE m n))) h) : ACall Try.prog 29 [.ptr b 0 0, .v (.int .i64 n)] h κ := by
  unfold mfL at hb
  cases h1 : m.op
  · have e : mayE m n = 6 := by simp [mayE, h1]
    rw [e] at hκ; refine acall_run (good13 h.length) Try.func29 rfl ⟨by kernel_rfl, by show 2 ≤ _; decide, by kernel_rfl, by kernel_rfl⟩ rfl ?_; have hr : Try.f29.results.toList = [.tmp 4] := rfl; repeat (first | simp only [c13_P, c13_odd, c13_ro, Nat.reduceBEq, reduceIte, Nat.reduceEqDiff, reduceCtorEq, ne_eq, if_true, if_false, exA, exA, tabs, exB, exD, buildA, rowOr, rowSetAt, rowAgg, mkAgg, AV.isAggV, AV.parts, AV.one, AV.solid, headSize, indexAddrA, indexA, fieldAddrA, fieldA, sliceA, boundsA, bndA, lenA, arrayAtA, rowOf, makeSliceA, intsOf, copyA, Nat.reduceAdd, Nat.reduceSub, Nat.reduceMul, Nat.reduceLeDiff, Nat.reduceLT, Nat.reduceGT, Int.reduceToNat, Int.reduceLE, Int.reduceLT, Int.reduceEq, Int.reduceNe, Int.reduceAdd, Int.reduceSub, Int.reduceMul, Int.reduceNeg, ite_true, ite_false, dite_true, xc1, xc2, xc3, xc4, xc5, xc6, xc7, xc8, xc9, xc10, xc11, xc12, xc13, hr, hb, h1, mrowP_mk, hκ] | simp (maxSteps := 1000000) (disch := omega) only [exE, Int.toNat_natCast, Int.reduceToNat])
  · by_cases h2 : 0 ≤ n
    · by_cases h3 : n < m.H.sec
      · have e : mayE m n = 0 := by simp [mayE, h1, h2, h3]
        rw [e] at hκ; refine acall_run (good13 h.length) Try.func29 rfl ⟨by kernel_rfl, by show 2 ≤ _; decide, by kernel_rfl, by kernel_rfl⟩ rfl ?_; have hr : Try.f29.results.toList = [.tmp 4] := rfl; repeat (first | simp only [c13_P, c13_odd, c13_ro, Nat.reduceBEq, reduceIte, Nat.reduceEqDiff, reduceCtorEq, ne_eq, if_true, if_false, exA, exA, tabs, exB, exD, buildA, rowOr, rowSetAt, rowAgg, mkAgg, AV.isAggV, AV.parts, AV.one, AV.solid, headSize, indexAddrA, indexA, fieldAddrA, fieldA, sliceA, boundsA, bndA, lenA, arrayAtA, rowOf, makeSliceA, intsOf, copyA, Nat.reduceAdd, Nat.reduceSub, Nat.reduceMul, Nat.reduceLeDiff, Nat.reduceLT, Nat.reduceGT, Int.reduceToNat, Int.reduceLE, Int.reduceLT, Int.reduceEq, Int.reduceNe, Int.reduceAdd, Int.reduceSub, Int.reduceMul, Int.reduceNeg, ite_true, ite_false, dite_true, xc1, xc2, xc3, xc4, xc5, xc6, xc7, xc8, xc9, xc10, xc11, xc12, xc13, hr, hb, h1, mrowP_mk, hκ] | simp (maxSteps := 1000000) (disch := omega) only [exE, Int.toNat_natCast, Int.reduceToNat])
      · have e : mayE m n = 100 := by simp [mayE, h1, h2, h3]
        rw [e] at hκ; refine acall_run (good13 h.length) Try.func29 rfl ⟨by kernel_rfl, by show 2 ≤ _; decide, by kernel_rfl, by kernel_rfl⟩ rfl ?_; have hr : Try.f29.results.toList = [.tmp 4] := rfl; repeat (first | simp only [c13_P, c13_odd, c13_ro, Nat.reduceBEq, reduceIte, Nat.reduceEqDiff, reduceCtorEq, ne_eq, if_true, if_false, exA, exA, tabs, exB, exD, buildA, rowOr, rowSetAt, rowAgg, mkAgg, AV.isAggV, AV.parts, AV.one, AV.solid, headSize, indexAddrA, indexA, fieldAddrA, fieldA, sliceA, boundsA, bndA, lenA, arrayAtA, rowOf, makeSliceA, intsOf, copyA, Nat.reduceAdd, Nat.reduceSub, Nat.reduceMul, Nat.reduceLeDiff, Nat.reduceLT, Nat.reduceGT, Int.reduceToNat, Int.reduceLE, Int.reduceLT, Int.reduceEq, Int.reduceNe, Int.reduceAdd, Int.reduceSub, Int.reduceMul, Int.reduceNeg, ite_true, ite_false, dite_true, xc1, xc2, xc3, xc4, xc5, xc6, xc7, xc8, xc9, xc10, xc11, xc12, xc13, hr, hb, h1, mrowP_mk, hκ] | simp (maxSteps := 1000000) (disch := omega) only [exE, Int.toNat_natCast, Int.reduceToNat])
    · have e : mayE m n = 100 := by simp [mayE, h1, h2]
      rw [e] at hκ; refine acall_run (good13 h.length) Try.func29 rfl ⟨by kernel_rfl, by show 2 ≤ _; decide, by kernel_rfl, by kernel_rfl⟩ rfl ?_; have hr : Try.f29.results.toList = [.tmp 4] := rfl; repeat (first | simp only [c13_P, c13_odd, c13_ro, Nat.reduceBEq, reduceIte, Nat.reduceEqDiff, reduceCtorEq, ne_eq, if_true, if_false, exA, exA, tabs, exB, exD, buildA, rowOr, rowSetAt, rowAgg, mkAgg, AV.isAggV, AV.parts, AV.one, AV.solid, headSize, indexAddrA, indexA, fieldAddrA, fieldA, sliceA, boundsA, bndA, lenA, arrayAtA, rowOf, makeSliceA, intsOf, copyA, Nat.reduceAdd, Nat.reduceSub, Nat.reduceMul, Nat.reduceLeDiff, Nat.reduceLT, Nat.reduceGT, Int.reduceToNat, Int.reduceLE, Int.reduceLT, Int.reduceEq, Int.reduceNe, Int.reduceAdd, Int.reduceSub, Int.reduceMul, Int.reduceNeg, ite_true, ite_false, dite_true, xc1, xc2, xc3, xc4, xc5, xc6, xc7, xc8, xc9, xc10, xc11, xc12, xc13, hr, hb, h1, mrowP_mk, hκ] | simp (maxSteps := 1000000) (disch := omega) only [exE, Int.toNat_natCast, Int.reduceToNat])
theorem may_nil (n : Int) (hκ : κ (.v (.int .i64 6)) h) : ACall Try.prog 29 [.v (.pointer none), .v (.int .i64 n)] h κ := by
  refine acall_run (good13 h.length) Try.func29 rfl ⟨by kernel_rfl, by show 2 ≤ _; decide, by kernel_rfl, by kernel_rfl⟩ rfl ?_; have hr : Try.f29.results.toList = [.tmp 4] := rfl
  repeat (first | simp only [c13_P, c13_odd, c13_ro, Nat.reduceBEq, reduceIte, Nat.reduceEqDiff, reduceCtorEq, ne_eq, if_true, if_false, exA, exA, tabs, exB, exD, buildA, rowOr, rowSetAt, rowAgg, mkAgg, AV.isAggV, AV.parts, AV.one, AV.solid, headSize, indexAddrA, indexA, fieldAddrA, fieldA, sliceA, boundsA, bndA, lenA, arrayAtA, rowOf, makeSliceA, intsOf, copyA, Nat.reduceAdd, Nat.reduceSub, Nat.reduceMul, Nat.reduceLeDiff, Nat.reduceLT, Nat.reduceGT, Int.reduceToNat, Int.reduceLE, Int.reduceLT, Int.reduceEq, Int.reduceNe, Int.reduceAdd, Int.reduceSub, Int.reduceMul, Int.reduceNeg, ite_true, ite_false, dite_true, xc1, xc2, xc3, xc4, xc5, xc6, xc7, xc8, xc9, xc10, xc11, xc12, xc13, hr, hκ] | simp (maxSteps := 1000000) (disch := omega) only [exE, Int.toNat_natCast, Int.reduceToNat])
def N29 (h : List Blk) : List AV → Option Out
  | [.ptr b 0 0, .v (.int .i64 n)] => (mrowP h[b]?).map fun m => .one (.v (.int .i64 (mayE m n))) h
  | [.v (.pointer none), .v (.int .i64 n)] => some (.one (.v (.int .i64 6)) h)
  | _ => none
theorem N29_ptr (h : List Blk) (b : Nat) (n : Int) : N29 h [.ptr b 0 0, .v (.int .i64 n)] = (mrowP h[b]?).map fun m => .one (.v (.int .i64 (mayE m n))) h := rfl
theorem N29_nil (h : List Blk) (n : Int) : N29 h [.v (.pointer none), .v (.int .i64 n)] = some (.one (.v (.int .i64 6)) h) := rfl
end
noncomputable def n14 : FuncId → Option (List Blk → List AV → Option Out) := addNews n13 29 N29
noncomputable def c14 (k : Nat) : Cfg := ⟨Try.prog, k, p8, [], n14, none, []⟩
theorem c14_odd (k : Nat) : (c14 k).odd = [] := rfl
theorem c14_ro (k : Nat) : (c14 k).ro = [] := rfl
theorem c14_P (k : Nat) : (c14 k).P = Try.prog := rfl
theorem c14_pure (k : Nat) : (c14 k).pure = p8 := rfl
theorem c14_news (k : Nat) : (c14 k).news = n14 := rfl
theorem xc14 :
  (type_of% @c14_pure) ∧
  (type_of% @c14_news) ∧
  (type_of% @Go.Proofs.Ytgkhngcnbddoiaa.n14.eq_1) ∧
  (type_of% @N29_ptr) ∧
  (type_of% @N29_nil) :=
  ⟨@c14_pure, @c14_news, @Go.Proofs.Ytgkhngcnbddoiaa.n14.eq_1, @N29_ptr, @N29_nil⟩
theorem good14 (k : Nat) : (c14 k).Good := by
  refine Cfg.Good.addN (good13 k) ?_ k
  intro h args out hN
  unfold N29 at hN
  split at hN
  · obtain ⟨m, hm, rfl⟩ := Option.map_eq_some_iff.1 hN
    exact ⟨⟨[], by simp⟩, fun κ hκ => may_ok _ (mrowP_some hm) hκ⟩
  · cases hN; exact ⟨⟨[], by simp⟩, fun κ hκ => may_nil _ hκ⟩
  · cases hN
end Go.Proofs.Ytgkhngcnbddoiaa

namespace Go.Proofs.Ytgkhngcnbddoiaa
open Go.Ax
structure Ms where
  H : Hd
  S : List (Int × List Int)
  P : List (Int × ByteArray)
  ep : Int
  R : Rt
  op : Bool
  sl : Int
def roB (l : List Int) : AV := .roI .u8 l
def strV (s : ByteArray) : AV := .v (.string s)
def mfO (m : Ms) : Mf := ⟨m.H, 1, 2, m.ep, m.R, m.op, m.sl⟩
def mblk (m : Ms) : List Blk := [some (mfL ⟨m.H, 1, 2, m.ep, m.R, m.op, m.sl⟩), some [.mobj (aK m.S) (aV roB m.S)], some [.mobj (aK m.P) (aV strV m.P)]]
def up (R : Rt) : Rt := ⟨IntKind.u64.wrap (R.ctr + 1), R.rek, R.fro, R.tre⟩
theorem aV_roB (S : List (Int × List Int)) (n : Int) (v : List Int) : mputV (aK S) (aV roB S) n (.roI .u8 v) = aV roB (aput S n v) := mputV_a S n v
theorem aV_strV (S : List (Int × ByteArray)) (n : Int) (v : ByteArray) : mputV (aK S) (aV strV S) n (.v (.string v)) = aV strV (aput S n v) := mputV_a S n v
def mFlush (m : Ms) : Int := if m.op = true then 0 else 6
theorem flush_spec (m : Ms) : ACall Try.prog 25 [.ptr 0 0 0] (mblk m) fun v h' => v = .v (.int .i64 (mFlush m)) ∧ h' = mblk m := by
  unfold mblk mfL
  cases h1 : m.op <;> (simp only [mFlush, h1]; refine acall_run (good14 3) Try.func25 rfl ⟨by kernel_rfl, by show 1 ≤ _; decide, by kernel_rfl, by kernel_rfl⟩ rfl ?_; have hr : Try.f25.results.toList = [.tmp 2] := rfl; repeat (first | simp only [c14_P, c14_odd, c14_ro, Nat.reduceBEq, reduceIte, Nat.reduceEqDiff, reduceCtorEq, ne_eq, if_true, if_false, exA, exA, tabs, exB, exD, buildA, rowOr, rowSetAt, rowAgg, mkAgg, AV.isAggV, AV.parts, AV.one, AV.solid, headSize, indexAddrA, indexA, fieldAddrA, fieldA, sliceA, boundsA, bndA, lenA, arrayAtA, rowOf, makeSliceA, intsOf, copyA, Nat.reduceAdd, Nat.reduceSub, Nat.reduceMul, Nat.reduceLeDiff, Nat.reduceLT, Nat.reduceGT, Int.reduceToNat, Int.reduceLE, Int.reduceLT, Int.reduceEq, Int.reduceNe, Int.reduceAdd, Int.reduceSub, Int.reduceMul, Int.reduceNeg, ite_true, ite_false, dite_true, xc1, xc2, xc3, xc4, xc5, xc6, xc7, xc8, xc9, xc10, xc11, xc12, xc13, xc14, hr, h1] | simp (maxSteps := 1000000) (disch := omega) only [exE, Int.toNat_natCast, Int.reduceToNat]); try trivial)
def mClose (m : Ms) : Int × Ms := if m.op = true then (0, { m with op := false }) else (6, m)
theorem close_spec (m : Ms) : ACall Try.prog 26 [.ptr 0 0 0] (mblk m) fun v h' => v = .v (.int .i64 (mClose m).1) ∧ h' = mblk (mClose m).2 := by
  unfold mblk mfL
  cases h1 : m.op <;> (simp only [mClose, h1, if_true, if_false, Bool.false_eq_true]; refine acall_run (good14 3) Try.func26 rfl ⟨by kernel_rfl, by show 1 ≤ _; decide, by kernel_rfl, by kernel_rfl⟩ rfl ?_; have hr : Try.f26.results.toList = [.tmp 2] := rfl; repeat (first | simp only [c14_P, c14_odd, c14_ro, Nat.reduceBEq, reduceIte, Nat.reduceEqDiff, reduceCtorEq, ne_eq, if_true, if_false, exA, exA, tabs, exB, exD, buildA, rowOr, rowSetAt, rowAgg, mkAgg, AV.isAggV, AV.parts, AV.one, AV.solid, headSize, indexAddrA, indexA, fieldAddrA, fieldA, sliceA, boundsA, bndA, lenA, arrayAtA, rowOf, makeSliceA, intsOf, copyA, Nat.reduceAdd, Nat.reduceSub, Nat.reduceMul, Nat.reduceLeDiff, Nat.reduceLT, Nat.reduceGT, Int.reduceToNat, Int.reduceLE, Int.reduceLT, Int.reduceEq, Int.reduceNe, Int.reduceAdd, Int.reduceSub, Int.reduceMul, Int.reduceNeg, ite_true, ite_false, dite_true, xc1, xc2, xc3, xc4, xc5, xc6, xc7, xc8, xc9, xc10, xc11, xc12, xc13, xc14, hr, h1] | simp (maxSteps := 1000000) (disch := omega) only [exE, Int.toNat_natCast, Int.reduceToNat]))
def mRekeyStart (m : Ms) : Int × Ms :=
  if m.op = true then (if m.R.rek = true then (230, m) else if 4294967295 ≤ m.ep then (2, m) else (0, { m with ep := IntKind.i64.wrap (m.ep + 1), R := ⟨IntKind.u64.wrap (m.R.ctr + 1), true, m.R.fro, m.R.tre⟩ })) else (6, m)
theorem rekeyStart_spec (m : Ms) : ACall Try.prog 13 [.ptr 0 0 0] (mblk m) fun v h' => v = .v (.int .i64 (mRekeyStart m).1) ∧ h' = mblk (mRekeyStart m).2 := by
  unfold mblk mfL
  cases h1 : m.op
  · simp only [mRekeyStart, h1, if_true, if_false, Bool.false_eq_true]; refine acall_run (good14 3) Try.func13 rfl ⟨by kernel_rfl, by show 1 ≤ _; decide, by kernel_rfl, by kernel_rfl⟩ rfl ?_; have hr : Try.f13.results.toList = [.tmp 2] := rfl; repeat (first | simp only [c14_P, c14_odd, c14_ro, Nat.reduceBEq, reduceIte, Nat.reduceEqDiff, reduceCtorEq, ne_eq, if_true, if_false, exA, exA, tabs, exB, exD, buildA, rowOr, rowSetAt, rowAgg, mkAgg, AV.isAggV, AV.parts, AV.one, AV.solid, headSize, indexAddrA, indexA, fieldAddrA, fieldA, sliceA, boundsA, bndA, lenA, arrayAtA, rowOf, makeSliceA, intsOf, copyA, Nat.reduceAdd, Nat.reduceSub, Nat.reduceMul, Nat.reduceLeDiff, Nat.reduceLT, Nat.reduceGT, Int.reduceToNat, Int.reduceLE, Int.reduceLT, Int.reduceEq, Int.reduceNe, Int.reduceAdd, Int.reduceSub, Int.reduceMul, Int.reduceNeg, ite_true, ite_false, dite_true, xc1, xc2, xc3, xc4, xc5, xc6, xc7, xc8, xc9, xc10, xc11, xc12, xc13, xc14, hr, h1] | simp (maxSteps := 1000000) (disch := omega) only [exE, Int.toNat_natCast, Int.reduceToNat])
  cases h2 : m.R.rek
  · by_cases h3 : 4294967295 ≤ m.ep
    · simp only [mRekeyStart, h1, h2, h3, if_true, if_false, Bool.false_eq_true]; refine acall_run (good14 3) Try.func13 rfl ⟨by kernel_rfl, by show 1 ≤ _; decide, by kernel_rfl, by kernel_rfl⟩ rfl ?_; have hr : Try.f13.results.toList = [.tmp 2] := rfl; repeat (first | simp only [c14_P, c14_odd, c14_ro, Nat.reduceBEq, reduceIte, Nat.reduceEqDiff, reduceCtorEq, ne_eq, if_true, if_false, exA, exA, tabs, exB, exD, buildA, rowOr, rowSetAt, rowAgg, mkAgg, AV.isAggV, AV.parts, AV.one, AV.solid, headSize, indexAddrA, indexA, fieldAddrA, fieldA, sliceA, boundsA, bndA, lenA, arrayAtA, rowOf, makeSliceA, intsOf, copyA, Nat.reduceAdd, Nat.reduceSub, Nat.reduceMul, Nat.reduceLeDiff, Nat.reduceLT, Nat.reduceGT, Int.reduceToNat, Int.reduceLE, Int.reduceLT, Int.reduceEq, Int.reduceNe, Int.reduceAdd, Int.reduceSub, Int.reduceMul, Int.reduceNeg, ite_true, ite_false, dite_true, xc1, xc2, xc3, xc4, xc5, xc6, xc7, xc8, xc9, xc10, xc11, xc12, xc13, xc14, hr, h1, h2] | simp (maxSteps := 1000000) (disch := omega) only [exE, Int.toNat_natCast, Int.reduceToNat])
    · simp only [mRekeyStart, h1, h2, h3, if_true, if_false, Bool.false_eq_true]; refine acall_run (good14 3) Try.func13 rfl ⟨by kernel_rfl, by show 1 ≤ _; decide, by kernel_rfl, by kernel_rfl⟩ rfl ?_; have hr : Try.f13.results.toList = [.tmp 2] := rfl; repeat (first | simp only [c14_P, c14_odd, c14_ro, Nat.reduceBEq, reduceIte, Nat.reduceEqDiff, reduceCtorEq, ne_eq, if_true, if_false, exA, exA, tabs, exB, exD, buildA, rowOr, rowSetAt, rowAgg, mkAgg, AV.isAggV, AV.parts, AV.one, AV.solid, headSize, indexAddrA, indexA, fieldAddrA, fieldA, sliceA, boundsA, bndA, lenA, arrayAtA, rowOf, makeSliceA, intsOf, copyA, Nat.reduceAdd, Nat.reduceSub, Nat.reduceMul, Nat.reduceLeDiff, Nat.reduceLT, Nat.reduceGT, Int.reduceToNat, Int.reduceLE, Int.reduceLT, Int.reduceEq, Int.reduceNe, Int.reduceAdd, Int.reduceSub, Int.reduceMul, Int.reduceNeg, ite_true, ite_false, dite_true, xc1, xc2, xc3, xc4, xc5, xc6, xc7, xc8, xc9, xc10, xc11, xc12, xc13, xc14, hr, h1, h2] | simp (maxSteps := 1000000) (disch := omega) only [exE, Int.toNat_natCast, Int.reduceToNat])
  · simp only [mRekeyStart, h1, h2, if_true, if_false, Bool.false_eq_true]; refine acall_run (good14 3) Try.func13 rfl ⟨by kernel_rfl, by show 1 ≤ _; decide, by kernel_rfl, by kernel_rfl⟩ rfl ?_; have hr : Try.f13.results.toList = [.tmp 2] := rfl; repeat (first | simp only [c14_P, c14_odd, c14_ro, Nat.reduceBEq, reduceIte, Nat.reduceEqDiff, reduceCtorEq, ne_eq, if_true, if_false, exA, exA, tabs, exB, exD, buildA, rowOr, rowSetAt, rowAgg, mkAgg, AV.isAggV, AV.parts, AV.one, AV.solid, headSize, indexAddrA, indexA, fieldAddrA, fieldA, sliceA, boundsA, bndA, lenA, arrayAtA, rowOf, makeSliceA, intsOf, copyA, Nat.reduceAdd, Nat.reduceSub, Nat.reduceMul, Nat.reduceLeDiff, Nat.reduceLT, Nat.reduceGT, Int.reduceToNat, Int.reduceLE, Int.reduceLT, Int.reduceEq, Int.reduceNe, Int.reduceAdd, Int.reduceSub, Int.reduceMul, Int.reduceNeg, ite_true, ite_false, dite_true, xc1, xc2, xc3, xc4, xc5, xc6, xc7, xc8, xc9, xc10, xc11, xc12, xc13, xc14, hr, h1, h2] | simp (maxSteps := 1000000) (disch := omega) only [exE, Int.toNat_natCast, Int.reduceToNat])
def mWrite (m : Ms) (n : Int) (b : List Int) : Int × Ms :=
  if mayE (mfO m) n = 0 then (if b.length = 512 then (0, { m with S := aput m.S n b, R := up m.R }) else (101, m)) else (mayE (mfO m) n, m)
theorem mayE_0 {m : Mf} {n : Int} (h : mayE m n = 0) : m.op = true ∧ 0 ≤ n ∧ n < m.H.sec := by
  unfold mayE at h
  split at h
  · split at h
    · rename_i h1 h2; exact ⟨h1, h2⟩
    · omega
  · omega
theorem write_spec (m : Ms) (n : Int) (b : List Int) (hb : b.length ≤ 9223372036854775807) : ACall Try.prog 10 [.ptr 0 0 0, .v (.int .i64 n), .roI .u8 b] (mblk m) fun v h' => v = .v (.int .i64 (mWrite m n b).1) ∧ h' = mblk (mWrite m n b).2 := by
  by_cases h1 : mayE (mfO m) n = 0
  · by_cases h2 : b.length = 512
    · simp only [mWrite, h1, h2, if_true]
      unfold mfO at h1
      unfold mblk mfL
      refine acall_run (good14 3) Try.func10 rfl ⟨by kernel_rfl, by show 3 ≤ _; decide, by kernel_rfl, by kernel_rfl⟩ rfl ?_; have hr : Try.f10.results.toList = [.tmp 6] := rfl; repeat (first | simp only [c14_P, c14_odd, c14_ro, Nat.reduceBEq, reduceIte, Nat.reduceEqDiff, reduceCtorEq, ne_eq, if_true, if_false, exA, exA, tabs, exB, exD, buildA, rowOr, rowSetAt, rowAgg, mkAgg, AV.isAggV, AV.parts, AV.one, AV.solid, headSize, indexAddrA, indexA, fieldAddrA, fieldA, sliceA, boundsA, bndA, lenA, arrayAtA, rowOf, makeSliceA, intsOf, copyA, Nat.reduceAdd, Nat.reduceSub, Nat.reduceMul, Nat.reduceLeDiff, Nat.reduceLT, Nat.reduceGT, Int.reduceToNat, Int.reduceLE, Int.reduceLT, Int.reduceEq, Int.reduceNe, Int.reduceAdd, Int.reduceSub, Int.reduceMul, Int.reduceNeg, ite_true, ite_false, dite_true, xc1, xc2, xc3, xc4, xc5, xc6, xc7, xc8, xc9, xc10, xc11, xc12, xc13, xc14, hr, h1, h2, mputK_a _ n b, aV_roB, up] | simp (maxSteps := 1000000) (disch := omega) only [exE, Int.toNat_natCast, Int.reduceToNat])
    · simp only [mWrite, h1, h2, if_true, if_false]
      unfold mfO at h1
      unfold mblk mfL
      have h3 : (((b.length : Nat) : Int) != 512) = true := by simp; omega
      refine acall_run (good14 3) Try.func10 rfl ⟨by kernel_rfl, by show 3 ≤ _; decide, by kernel_rfl, by kernel_rfl⟩ rfl ?_; have hr : Try.f10.results.toList = [.tmp 6] := rfl; repeat (first | simp only [c14_P, c14_odd, c14_ro, Nat.reduceBEq, reduceIte, Nat.reduceEqDiff, reduceCtorEq, ne_eq, if_true, if_false, exA, exA, tabs, exB, exD, buildA, rowOr, rowSetAt, rowAgg, mkAgg, AV.isAggV, AV.parts, AV.one, AV.solid, headSize, indexAddrA, indexA, fieldAddrA, fieldA, sliceA, boundsA, bndA, lenA, arrayAtA, rowOf, makeSliceA, intsOf, copyA, Nat.reduceAdd, Nat.reduceSub, Nat.reduceMul, Nat.reduceLeDiff, Nat.reduceLT, Nat.reduceGT, Int.reduceToNat, Int.reduceLE, Int.reduceLT, Int.reduceEq, Int.reduceNe, Int.reduceAdd, Int.reduceSub, Int.reduceMul, Int.reduceNeg, ite_true, ite_false, dite_true, xc1, xc2, xc3, xc4, xc5, xc6, xc7, xc8, xc9, xc10, xc11, xc12, xc13, xc14, hr, h1, h3] | simp (maxSteps := 1000000) (disch := omega) only [exE, Int.toNat_natCast, Int.reduceToNat])
  · simp only [mWrite, h1, if_false]
    have h3 : (mayE (mfO m) n != 0) = true := by simpa using h1
    unfold mfO at h1 h3 ⊢
    unfold mblk mfL
    refine acall_run (good14 3) Try.func10 rfl ⟨by kernel_rfl, by show 3 ≤ _; decide, by kernel_rfl, by kernel_rfl⟩ rfl ?_; have hr : Try.f10.results.toList = [.tmp 6] := rfl; repeat (first | simp only [c14_P, c14_odd, c14_ro, Nat.reduceBEq, reduceIte, Nat.reduceEqDiff, reduceCtorEq, ne_eq, if_true, if_false, exA, exA, tabs, exB, exD, buildA, rowOr, rowSetAt, rowAgg, mkAgg, AV.isAggV, AV.parts, AV.one, AV.solid, headSize, indexAddrA, indexA, fieldAddrA, fieldA, sliceA, boundsA, bndA, lenA, arrayAtA, rowOf, makeSliceA, intsOf, copyA, Nat.reduceAdd, Nat.reduceSub, Nat.reduceMul, Nat.reduceLeDiff, Nat.reduceLT, Nat.reduceGT, Int.reduceToNat, Int.reduceLE, Int.reduceLT, Int.reduceEq, Int.reduceNe, Int.reduceAdd, Int.reduceSub, Int.reduceMul, Int.reduceNeg, ite_true, ite_false, dite_true, xc1, xc2, xc3, xc4, xc5, xc6, xc7, xc8, xc9, xc10, xc11, xc12, xc13, xc14, hr, h3] | simp (maxSteps := 1000000) (disch := omega) only [exE, Int.toNat_natCast, Int.reduceToNat])
end Go.Proofs.Ytgkhngcnbddoiaa

namespace Go.Proofs.Ytgkhngcnbddoiaa
open Go.Ax
theorem plE_0 {R : Rt} {H : Hd} {n : Int} (h : plE R H n = 0) : R.rek = false ∧ 0 ≤ n ∧ n < H.slo := by
  unfold plE at h
  split at h
  · omega
  · rename_i h1
    split at h
    · rename_i h2; exact ⟨by simpa using h1, h2⟩
    · omega
def mSlotAdd (m : Ms) (n : Int) (b : List Int) : Int × Ms :=
  if m.op = true then (if 512 < b.length then (1, m) else if plE m.R m.H n = 0 then (if (aget m.P n).isSome = true then (5, m) else (0, { m with P := aput m.P n (bytesOf b), R := up m.R })) else (plE m.R m.H n, m)) else (6, m)
theorem slotAdd_spec (m : Ms) (n : Int) (b : List Int) : ACall Try.prog 12 [.ptr 0 0 0, .v (.int .i64 n), .roI .u8 b] (mblk m) fun v h' => v = .v (.int .i64 (mSlotAdd m n b).1) ∧ h' = mblk (mSlotAdd m n b).2 := by
  unfold mblk mfL
  cases h1 : m.op
  · simp only [mSlotAdd, h1, if_false, Bool.false_eq_true]; refine acall_run (good14 3) Try.func12 rfl ⟨by kernel_rfl, by show 3 ≤ _; decide, by kernel_rfl, by kernel_rfl⟩ rfl ?_; have hr : Try.f12.results.toList = [.tmp 6] := rfl; repeat (first | simp only [c14_P, c14_odd, c14_ro, Nat.reduceBEq, reduceIte, Nat.reduceEqDiff, reduceCtorEq, ne_eq, if_true, if_false, exA, exA, tabs, exB, exD, buildA, rowOr, rowSetAt, rowAgg, mkAgg, AV.isAggV, AV.parts, AV.one, AV.solid, headSize, indexAddrA, indexA, fieldAddrA, fieldA, sliceA, boundsA, bndA, lenA, arrayAtA, rowOf, makeSliceA, intsOf, copyA, Nat.reduceAdd, Nat.reduceSub, Nat.reduceMul, Nat.reduceLeDiff, Nat.reduceLT, Nat.reduceGT, Int.reduceToNat, Int.reduceLE, Int.reduceLT, Int.reduceEq, Int.reduceNe, Int.reduceAdd, Int.reduceSub, Int.reduceMul, Int.reduceNeg, ite_true, ite_false, dite_true, xc1, xc2, xc3, xc4, xc5, xc6, xc7, xc8, xc9, xc10, xc11, xc12, xc13, xc14, hr, h1] | simp (maxSteps := 1000000) (disch := omega) only [exE, Int.toNat_natCast, Int.reduceToNat])
  by_cases h2 : 512 < b.length
  · simp only [mSlotAdd, h1, h2, if_true]; refine acall_run (good14 3) Try.func12 rfl ⟨by kernel_rfl, by show 3 ≤ _; decide, by kernel_rfl, by kernel_rfl⟩ rfl ?_; have hr : Try.f12.results.toList = [.tmp 6] := rfl; repeat (first | simp only [c14_P, c14_odd, c14_ro, Nat.reduceBEq, reduceIte, Nat.reduceEqDiff, reduceCtorEq, ne_eq, if_true, if_false, exA, exA, tabs, exB, exD, buildA, rowOr, rowSetAt, rowAgg, mkAgg, AV.isAggV, AV.parts, AV.one, AV.solid, headSize, indexAddrA, indexA, fieldAddrA, fieldA, sliceA, boundsA, bndA, lenA, arrayAtA, rowOf, makeSliceA, intsOf, copyA, Nat.reduceAdd, Nat.reduceSub, Nat.reduceMul, Nat.reduceLeDiff, Nat.reduceLT, Nat.reduceGT, Int.reduceToNat, Int.reduceLE, Int.reduceLT, Int.reduceEq, Int.reduceNe, Int.reduceAdd, Int.reduceSub, Int.reduceMul, Int.reduceNeg, ite_true, ite_false, dite_true, xc1, xc2, xc3, xc4, xc5, xc6, xc7, xc8, xc9, xc10, xc11, xc12, xc13, xc14, hr, h1] | simp (maxSteps := 1000000) (disch := omega) only [exE, Int.toNat_natCast, Int.reduceToNat])
  by_cases h3 : plE m.R m.H n = 0
  · have h3b : (plE m.R m.H n == 0) = true := by simpa using h3
    cases h4 : aget m.P n
    · simp only [mSlotAdd, h1, h2, h3, h4, if_true, if_false, Bool.false_eq_true, Option.isSome_none]
      refine acall_run (good14 3) Try.func12 rfl ⟨by kernel_rfl, by show 3 ≤ _; decide, by kernel_rfl, by kernel_rfl⟩ rfl ?_; have hr : Try.f12.results.toList = [.tmp 6] := rfl; repeat (first | simp only [c14_P, c14_odd, c14_ro, Nat.reduceBEq, reduceIte, Nat.reduceEqDiff, reduceCtorEq, ne_eq, if_true, if_false, exA, exA, tabs, exB, exD, buildA, rowOr, rowSetAt, rowAgg, mkAgg, AV.isAggV, AV.parts, AV.one, AV.solid, headSize, indexAddrA, indexA, fieldAddrA, fieldA, sliceA, boundsA, bndA, lenA, arrayAtA, rowOf, makeSliceA, intsOf, copyA, Nat.reduceAdd, Nat.reduceSub, Nat.reduceMul, Nat.reduceLeDiff, Nat.reduceLT, Nat.reduceGT, Int.reduceToNat, Int.reduceLE, Int.reduceLT, Int.reduceEq, Int.reduceNe, Int.reduceAdd, Int.reduceSub, Int.reduceMul, Int.reduceNeg, ite_true, ite_false, dite_true, xc1, xc2, xc3, xc4, xc5, xc6, xc7, xc8, xc9, xc10, xc11, xc12, xc13, xc14, hr, h1, h3, mfind_a, false_implies, implies_true, forall_eq', h4, mputK_a _ n (bytesOf b), aV_strV, up] | simp (maxSteps := 1000000) (disch := omega) only [exE, Int.toNat_natCast, Int.reduceToNat])
    · simp only [mSlotAdd, h1, h2, h3, h4, if_true, if_false, Bool.false_eq_true, Option.isSome_some]
      refine acall_run (good14 3) Try.func12 rfl ⟨by kernel_rfl, by show 3 ≤ _; decide, by kernel_rfl, by kernel_rfl⟩ rfl ?_; have hr : Try.f12.results.toList = [.tmp 6] := rfl; repeat (first | simp only [c14_P, c14_odd, c14_ro, Nat.reduceBEq, reduceIte, Nat.reduceEqDiff, reduceCtorEq, ne_eq, if_true, if_false, exA, exA, tabs, exB, exD, buildA, rowOr, rowSetAt, rowAgg, mkAgg, AV.isAggV, AV.parts, AV.one, AV.solid, headSize, indexAddrA, indexA, fieldAddrA, fieldA, sliceA, boundsA, bndA, lenA, arrayAtA, rowOf, makeSliceA, intsOf, copyA, Nat.reduceAdd, Nat.reduceSub, Nat.reduceMul, Nat.reduceLeDiff, Nat.reduceLT, Nat.reduceGT, Int.reduceToNat, Int.reduceLE, Int.reduceLT, Int.reduceEq, Int.reduceNe, Int.reduceAdd, Int.reduceSub, Int.reduceMul, Int.reduceNeg, ite_true, ite_false, dite_true, xc1, xc2, xc3, xc4, xc5, xc6, xc7, xc8, xc9, xc10, xc11, xc12, xc13, xc14, hr, h1, h3, mfind_a, false_implies, implies_true, forall_eq', h4] | simp (maxSteps := 1000000) (disch := omega) only [exE, Int.toNat_natCast, Int.reduceToNat])
  · have h3b : (plE m.R m.H n != 0) = true := by simpa using h3
    simp only [mSlotAdd, h1, h2, h3, if_true, if_false, Bool.false_eq_true]
    refine acall_run (good14 3) Try.func12 rfl ⟨by kernel_rfl, by show 3 ≤ _; decide, by kernel_rfl, by kernel_rfl⟩ rfl ?_; have hr : Try.f12.results.toList = [.tmp 6] := rfl; repeat (first | simp only [c14_P, c14_odd, c14_ro, Nat.reduceBEq, reduceIte, Nat.reduceEqDiff, reduceCtorEq, ne_eq, if_true, if_false, exA, exA, tabs, exB, exD, buildA, rowOr, rowSetAt, rowAgg, mkAgg, AV.isAggV, AV.parts, AV.one, AV.solid, headSize, indexAddrA, indexA, fieldAddrA, fieldA, sliceA, boundsA, bndA, lenA, arrayAtA, rowOf, makeSliceA, intsOf, copyA, Nat.reduceAdd, Nat.reduceSub, Nat.reduceMul, Nat.reduceLeDiff, Nat.reduceLT, Nat.reduceGT, Int.reduceToNat, Int.reduceLE, Int.reduceLT, Int.reduceEq, Int.reduceNe, Int.reduceAdd, Int.reduceSub, Int.reduceMul, Int.reduceNeg, ite_true, ite_false, dite_true, xc1, xc2, xc3, xc4, xc5, xc6, xc7, xc8, xc9, xc10, xc11, xc12, xc13, xc14, hr, h1, h3b] | simp (maxSteps := 1000000) (disch := omega) only [exE, Int.toNat_natCast, Int.reduceToNat])
def mSlotRevoke (m : Ms) (n : Int) : Int × Ms :=
  if m.op = true then (if plE m.R m.H n = 0 then (if (aget m.P n).isSome = true then (if m.P.length = 1 then (210, m) else (0, { m with P := adel m.P n, R := up m.R })) else (4, m)) else (plE m.R m.H n, m)) else (6, m)
theorem slotRevoke_spec (m : Ms) (n : Int) : ACall Try.prog 15 [.ptr 0 0 0, .v (.int .i64 n)] (mblk m) fun v h' => v = .v (.int .i64 (mSlotRevoke m n).1) ∧ h' = mblk (mSlotRevoke m n).2 := by
  unfold mblk mfL
  cases h1 : m.op
  · simp only [mSlotRevoke, h1, if_false, Bool.false_eq_true]; refine acall_run (good14 3) Try.func15 rfl ⟨by kernel_rfl, by show 2 ≤ _; decide, by kernel_rfl, by kernel_rfl⟩ rfl ?_; have hr : Try.f15.results.toList = [.tmp 4] := rfl; repeat (first | simp only [c14_P, c14_odd, c14_ro, Nat.reduceBEq, reduceIte, Nat.reduceEqDiff, reduceCtorEq, ne_eq, if_true, if_false, exA, exA, tabs, exB, exD, buildA, rowOr, rowSetAt, rowAgg, mkAgg, AV.isAggV, AV.parts, AV.one, AV.solid, headSize, indexAddrA, indexA, fieldAddrA, fieldA, sliceA, boundsA, bndA, lenA, arrayAtA, rowOf, makeSliceA, intsOf, copyA, Nat.reduceAdd, Nat.reduceSub, Nat.reduceMul, Nat.reduceLeDiff, Nat.reduceLT, Nat.reduceGT, Int.reduceToNat, Int.reduceLE, Int.reduceLT, Int.reduceEq, Int.reduceNe, Int.reduceAdd, Int.reduceSub, Int.reduceMul, Int.reduceNeg, ite_true, ite_false, dite_true, xc1, xc2, xc3, xc4, xc5, xc6, xc7, xc8, xc9, xc10, xc11, xc12, xc13, xc14, hr, h1] | simp (maxSteps := 1000000) (disch := omega) only [exE, Int.toNat_natCast, Int.reduceToNat])
  by_cases h3 : plE m.R m.H n = 0
  · cases h4 : aget m.P n
    · simp only [mSlotRevoke, h1, h3, h4, if_true, if_false, Bool.false_eq_true, Option.isSome_none]
      refine acall_run (good14 3) Try.func15 rfl ⟨by kernel_rfl, by show 2 ≤ _; decide, by kernel_rfl, by kernel_rfl⟩ rfl ?_; have hr : Try.f15.results.toList = [.tmp 4] := rfl; repeat (first | simp only [c14_P, c14_odd, c14_ro, Nat.reduceBEq, reduceIte, Nat.reduceEqDiff, reduceCtorEq, ne_eq, if_true, if_false, exA, exA, tabs, exB, exD, buildA, rowOr, rowSetAt, rowAgg, mkAgg, AV.isAggV, AV.parts, AV.one, AV.solid, headSize, indexAddrA, indexA, fieldAddrA, fieldA, sliceA, boundsA, bndA, lenA, arrayAtA, rowOf, makeSliceA, intsOf, copyA, Nat.reduceAdd, Nat.reduceSub, Nat.reduceMul, Nat.reduceLeDiff, Nat.reduceLT, Nat.reduceGT, Int.reduceToNat, Int.reduceLE, Int.reduceLT, Int.reduceEq, Int.reduceNe, Int.reduceAdd, Int.reduceSub, Int.reduceMul, Int.reduceNeg, ite_true, ite_false, dite_true, xc1, xc2, xc3, xc4, xc5, xc6, xc7, xc8, xc9, xc10, xc11, xc12, xc13, xc14, hr, h1, h3, mfind_a, false_implies, implies_true, forall_eq', h4] | simp (maxSteps := 1000000) (disch := omega) only [exE, Int.toNat_natCast, Int.reduceToNat])
    · by_cases h5 : m.P.length = 1
      · simp only [mSlotRevoke, h1, h3, h4, h5, if_true, if_false, Bool.false_eq_true, Option.isSome_some]
        refine acall_run (good14 3) Try.func15 rfl ⟨by kernel_rfl, by show 2 ≤ _; decide, by kernel_rfl, by kernel_rfl⟩ rfl ?_; have hr : Try.f15.results.toList = [.tmp 4] := rfl; repeat (first | simp only [c14_P, c14_odd, c14_ro, Nat.reduceBEq, reduceIte, Nat.reduceEqDiff, reduceCtorEq, ne_eq, if_true, if_false, exA, exA, tabs, exB, exD, buildA, rowOr, rowSetAt, rowAgg, mkAgg, AV.isAggV, AV.parts, AV.one, AV.solid, headSize, indexAddrA, indexA, fieldAddrA, fieldA, sliceA, boundsA, bndA, lenA, arrayAtA, rowOf, makeSliceA, intsOf, copyA, Nat.reduceAdd, Nat.reduceSub, Nat.reduceMul, Nat.reduceLeDiff, Nat.reduceLT, Nat.reduceGT, Int.reduceToNat, Int.reduceLE, Int.reduceLT, Int.reduceEq, Int.reduceNe, Int.reduceAdd, Int.reduceSub, Int.reduceMul, Int.reduceNeg, ite_true, ite_false, dite_true, xc1, xc2, xc3, xc4, xc5, xc6, xc7, xc8, xc9, xc10, xc11, xc12, xc13, xc14, hr, h1, h3, mfind_a, false_implies, implies_true, forall_eq', h4, aK_len, h5] | simp (maxSteps := 1000000) (disch := omega) only [exE, Int.toNat_natCast, Int.reduceToNat])
      · simp only [mSlotRevoke, h1, h3, h4, h5, if_true, if_false, Bool.false_eq_true, Option.isSome_some]
        have h6 : (((m.P.length : Nat) : Int) == 1) = false := by simp; omega
        refine acall_run (good14 3) Try.func15 rfl ⟨by kernel_rfl, by show 2 ≤ _; decide, by kernel_rfl, by kernel_rfl⟩ rfl ?_; have hr : Try.f15.results.toList = [.tmp 4] := rfl; repeat (first | simp only [c14_P, c14_odd, c14_ro, Nat.reduceBEq, reduceIte, Nat.reduceEqDiff, reduceCtorEq, ne_eq, if_true, if_false, exA, exA, tabs, exB, exD, buildA, rowOr, rowSetAt, rowAgg, mkAgg, AV.isAggV, AV.parts, AV.one, AV.solid, headSize, indexAddrA, indexA, fieldAddrA, fieldA, sliceA, boundsA, bndA, lenA, arrayAtA, rowOf, makeSliceA, intsOf, copyA, Nat.reduceAdd, Nat.reduceSub, Nat.reduceMul, Nat.reduceLeDiff, Nat.reduceLT, Nat.reduceGT, Int.reduceToNat, Int.reduceLE, Int.reduceLT, Int.reduceEq, Int.reduceNe, Int.reduceAdd, Int.reduceSub, Int.reduceMul, Int.reduceNeg, ite_true, ite_false, dite_true, xc1, xc2, xc3, xc4, xc5, xc6, xc7, xc8, xc9, xc10, xc11, xc12, xc13, xc14, hr, h1, h3, mfind_a, false_implies, implies_true, forall_eq', h4, aK_len, h6, mdelK_a, mdelV_a, up] | simp (maxSteps := 1000000) (disch := omega) only [exE, Int.toNat_natCast, Int.reduceToNat])
  · have h3b : (plE m.R m.H n != 0) = true := by simpa using h3
    simp only [mSlotRevoke, h1, h3, if_true, if_false, Bool.false_eq_true]
    refine acall_run (good14 3) Try.func15 rfl ⟨by kernel_rfl, by show 2 ≤ _; decide, by kernel_rfl, by kernel_rfl⟩ rfl ?_; have hr : Try.f15.results.toList = [.tmp 4] := rfl; repeat (first | simp only [c14_P, c14_odd, c14_ro, Nat.reduceBEq, reduceIte, Nat.reduceEqDiff, reduceCtorEq, ne_eq, if_true, if_false, exA, exA, tabs, exB, exD, buildA, rowOr, rowSetAt, rowAgg, mkAgg, AV.isAggV, AV.parts, AV.one, AV.solid, headSize, indexAddrA, indexA, fieldAddrA, fieldA, sliceA, boundsA, bndA, lenA, arrayAtA, rowOf, makeSliceA, intsOf, copyA, Nat.reduceAdd, Nat.reduceSub, Nat.reduceMul, Nat.reduceLeDiff, Nat.reduceLT, Nat.reduceGT, Int.reduceToNat, Int.reduceLE, Int.reduceLT, Int.reduceEq, Int.reduceNe, Int.reduceAdd, Int.reduceSub, Int.reduceMul, Int.reduceNeg, ite_true, ite_false, dite_true, xc1, xc2, xc3, xc4, xc5, xc6, xc7, xc8, xc9, xc10, xc11, xc12, xc13, xc14, hr, h1, h3b] | simp (maxSteps := 1000000) (disch := omega) only [exE, Int.toNat_natCast, Int.reduceToNat])
theorem read_spec (m : Ms) (n : Int) (hS : ∀ b, aget m.S n = some b → b.length = 512) : ACall Try.prog 24 [.ptr 0 0 0, .v (.int .i64 n)] (mblk m) fun v h' =>
    (mayE (mfO m) n ≠ 0 ∧ v = .tup [.v (.slice none 0 0), .v (.int .i64 (mayE (mfO m) n))] ∧ h' = mblk m) ∨
    (mayE (mfO m) n = 0 ∧ ∃ b, aget m.S n = some b ∧ v = .tup [.roI .u8 b, .v (.int .i64 0)] ∧ h' = mblk m) ∨
    (mayE (mfO m) n = 0 ∧ aget m.S n = none ∧ v = .tup [.sl 3 0 1 0 512 512, .v (.int .i64 0)] ∧ h' = mblk m ++ [some [.arr 512 .u8 (List.replicate 512 0)]]) := by
  by_cases h1 : mayE (mfO m) n = 0
  · cases h2 : aget m.S n
    · refine ACall.mono (κ := fun v h' => v = .tup [.sl 3 0 1 0 512 512, .v (.int .i64 0)] ∧ h' = mblk m ++ [some [.arr 512 .u8 (List.replicate 512 0)]]) ?_ (fun v h' h => .inr (.inr ⟨h1, rfl, h⟩))
      unfold mfO at h1
      unfold mblk mfL
      refine acall_run (good14 3) Try.func24 rfl ⟨by kernel_rfl, by show 2 ≤ _; decide, by kernel_rfl, by kernel_rfl⟩ rfl ?_; have hr : Try.f24.results.toList = [.tmp 4, .tmp 5] := rfl; repeat (first | simp only [c14_P, c14_odd, c14_ro, Nat.reduceBEq, reduceIte, Nat.reduceEqDiff, reduceCtorEq, ne_eq, if_true, if_false, exA, exA, tabs, exB, exD, buildA, rowOr, rowSetAt, rowAgg, mkAgg, AV.isAggV, AV.parts, AV.one, AV.solid, headSize, indexAddrA, indexA, fieldAddrA, fieldA, sliceA, boundsA, bndA, lenA, arrayAtA, rowOf, makeSliceA, intsOf, copyA, Nat.reduceAdd, Nat.reduceSub, Nat.reduceMul, Nat.reduceLeDiff, Nat.reduceLT, Nat.reduceGT, Int.reduceToNat, Int.reduceLE, Int.reduceLT, Int.reduceEq, Int.reduceNe, Int.reduceAdd, Int.reduceSub, Int.reduceMul, Int.reduceNeg, ite_true, ite_false, dite_true, xc1, xc2, xc3, xc4, xc5, xc6, xc7, xc8, xc9, xc10, xc11, xc12, xc13, xc14, hr, h1, mfind_a, false_implies, implies_true, forall_eq', h2] | simp (maxSteps := 1000000) (disch := omega) only [exE, Int.toNat_natCast, Int.reduceToNat])
    · rename_i b
      have hb := hS b h2
      refine ACall.mono (κ := fun v h' => v = .tup [.roI .u8 b, .v (.int .i64 0)] ∧ h' = mblk m) ?_ (fun v h' h => .inr (.inl ⟨h1, b, rfl, h⟩))
      unfold mfO at h1
      unfold mblk mfL
      refine acall_run (good14 3) Try.func24 rfl ⟨by kernel_rfl, by show 2 ≤ _; decide, by kernel_rfl, by kernel_rfl⟩ rfl ?_; have hr : Try.f24.results.toList = [.tmp 4, .tmp 5] := rfl; repeat (first | simp only [c14_P, c14_odd, c14_ro, Nat.reduceBEq, reduceIte, Nat.reduceEqDiff, reduceCtorEq, ne_eq, if_true, if_false, exA, exA, tabs, exB, exD, buildA, rowOr, rowSetAt, rowAgg, mkAgg, AV.isAggV, AV.parts, AV.one, AV.solid, headSize, indexAddrA, indexA, fieldAddrA, fieldA, sliceA, boundsA, bndA, lenA, arrayAtA, rowOf, makeSliceA, intsOf, copyA, Nat.reduceAdd, Nat.reduceSub, Nat.reduceMul, Nat.reduceLeDiff, Nat.reduceLT, Nat.reduceGT, Int.reduceToNat, Int.reduceLE, Int.reduceLT, Int.reduceEq, Int.reduceNe, Int.reduceAdd, Int.reduceSub, Int.reduceMul, Int.reduceNeg, ite_true, ite_false, dite_true, xc1, xc2, xc3, xc4, xc5, xc6, xc7, xc8, xc9, xc10, xc11, xc12, xc13, xc14, hr, h1, mfind_a, false_implies, implies_true, forall_eq', h2, roB, hb] | simp (maxSteps := 1000000) (disch := omega) only [exE, Int.toNat_natCast, Int.reduceToNat])
  · have h3 : (mayE (mfO m) n != 0) = true := by simpa using h1
    refine ACall.mono (κ := fun v h' => v = .tup [.v (.slice none 0 0), .v (.int .i64 (mayE (mfO m) n))] ∧ h' = mblk m) ?_ (fun v h' h => .inl ⟨h1, h⟩)
    unfold mfO at h3 ⊢
    unfold mblk mfL
    refine acall_run (good14 3) Try.func24 rfl ⟨by kernel_rfl, by show 2 ≤ _; decide, by kernel_rfl, by kernel_rfl⟩ rfl ?_; have hr : Try.f24.results.toList = [.tmp 4, .tmp 5] := rfl; repeat (first | simp only [c14_P, c14_odd, c14_ro, Nat.reduceBEq, reduceIte, Nat.reduceEqDiff, reduceCtorEq, ne_eq, if_true, if_false, exA, exA, tabs, exB, exD, buildA, rowOr, rowSetAt, rowAgg, mkAgg, AV.isAggV, AV.parts, AV.one, AV.solid, headSize, indexAddrA, indexA, fieldAddrA, fieldA, sliceA, boundsA, bndA, lenA, arrayAtA, rowOf, makeSliceA, intsOf, copyA, Nat.reduceAdd, Nat.reduceSub, Nat.reduceMul, Nat.reduceLeDiff, Nat.reduceLT, Nat.reduceGT, Int.reduceToNat, Int.reduceLE, Int.reduceLT, Int.reduceEq, Int.reduceNe, Int.reduceAdd, Int.reduceSub, Int.reduceMul, Int.reduceNeg, ite_true, ite_false, dite_true, xc1, xc2, xc3, xc4, xc5, xc6, xc7, xc8, xc9, xc10, xc11, xc12, xc13, xc14, hr, h3] | simp (maxSteps := 1000000) (disch := omega) only [exE, Int.toNat_natCast, Int.reduceToNat])
end Go.Proofs.Ytgkhngcnbddoiaa

namespace Go.Proofs.Ytgkhngcnbddoiaa
open Go.Ax
def fitP (P : List (Int × ByteArray)) (b : List Int) (i : Nat) : Bool := match aget P (i : Int) with
  | some p => p.toList == (bytesOf b).toList
  | none => false
theorem fit_none {P : List (Int × ByteArray)} {b : List Int} {i : Nat} (h : aget P (i : Int) = none) : fitP P b i = false := by simp only [fitP, h]
theorem fit_some {P : List (Int × ByteArray)} {b : List Int} {i : Nat} {p : ByteArray} (h : aget P (i : Int) = some p) : fitP P b i = (p.toList == (bytesOf b).toList) := by simp only [fitP, h]
def openAt (m : Ms) (b : List Int) : Nat := firstAt (fitP m.P b) m.H.slo.toNat
def mOpen (m : Ms) (b : List Int) : Int × Ms :=
  if 512 < b.length then (1, m) else if openAt m b < m.H.slo.toNat then (0, { m with op := true, sl := openAt m b }) else (200, m)
theorem open_spec (m : Ms) (b : List Int) (hs : m.H.slo ≤ 1048576) : ACall Try.prog 9 [.ptr 0 0 0, .roI .u8 b] (mblk m) fun v h' => v = .v (.int .i64 (mOpen m b).1) ∧ h' = mblk (mOpen m b).2 := by
  unfold mblk mfL
  by_cases h1 : 512 < b.length
  · simp only [mOpen, h1, if_true]; refine acall_run (good14 3) Try.func9 rfl ⟨by kernel_rfl, by show 2 ≤ _; decide, by kernel_rfl, by kernel_rfl⟩ rfl ?_; have hr : Try.f9.results.toList = [.tmp 4] := rfl; repeat (first | simp only [c14_P, c14_odd, c14_ro, Nat.reduceBEq, reduceIte, Nat.reduceEqDiff, reduceCtorEq, ne_eq, if_true, if_false, exA, exA, tabs, exB, exD, buildA, rowOr, rowSetAt, rowAgg, mkAgg, AV.isAggV, AV.parts, AV.one, AV.solid, headSize, indexAddrA, indexA, fieldAddrA, fieldA, sliceA, boundsA, bndA, lenA, arrayAtA, rowOf, makeSliceA, intsOf, copyA, Nat.reduceAdd, Nat.reduceSub, Nat.reduceMul, Nat.reduceLeDiff, Nat.reduceLT, Nat.reduceGT, Int.reduceToNat, Int.reduceLE, Int.reduceLT, Int.reduceEq, Int.reduceNe, Int.reduceAdd, Int.reduceSub, Int.reduceMul, Int.reduceNeg, ite_true, ite_false, dite_true, xc1, xc2, xc3, xc4, xc5, xc6, xc7, xc8, xc9, xc10, xc11, xc12, xc13, xc14, hr] | simp (maxSteps := 1000000) (disch := omega) only [exE, Int.toNat_natCast, Int.reduceToNat])
  have hle : openAt m b ≤ m.H.slo.toNat := firstAt_le _ _
  have na : ∀ n : Nat, (0 : Int) ≤ n := fun n => Int.natCast_nonneg n
  simp only [mOpen, h1, if_false]
  refine acall_run (good14 3) Try.func9 rfl ⟨by kernel_rfl, by show 2 ≤ _; decide, by kernel_rfl, by kernel_rfl⟩ rfl ?_; have hr : Try.f9.results.toList = [.tmp 4] := rfl
  repeat (first | simp only [c14_P, c14_odd, c14_ro, Nat.reduceBEq, reduceIte, Nat.reduceEqDiff, reduceCtorEq, ne_eq, if_true, if_false, exA, exA, tabs, exB, exD, buildA, rowOr, rowSetAt, rowAgg, mkAgg, AV.isAggV, AV.parts, AV.one, AV.solid, headSize, indexAddrA, indexA, fieldAddrA, fieldA, sliceA, boundsA, bndA, lenA, arrayAtA, rowOf, makeSliceA, intsOf, copyA, Nat.reduceAdd, Nat.reduceSub, Nat.reduceMul, Nat.reduceLeDiff, Nat.reduceLT, Nat.reduceGT, Int.reduceToNat, Int.reduceLE, Int.reduceLT, Int.reduceEq, Int.reduceNe, Int.reduceAdd, Int.reduceSub, Int.reduceMul, Int.reduceNeg, ite_true, ite_false, dite_true, xc1, xc2, xc3, xc4, xc5, xc6, xc7, xc8, xc9, xc10, xc11, xc12, xc13, xc14, hr] | simp (maxSteps := 1000000) (disch := omega) only [exE, Int.toNat_natCast, Int.reduceToNat])
  by_cases h0 : 0 ≤ m.H.slo
  rotate_left
  · have hz : m.H.slo.toNat = 0 := by omega
    have ho : ¬ openAt m b < m.H.slo.toNat := by omega
    simp only [ho, if_false]
    refine loop_count (good14 3) (fun i => ⟨envL [(0, .ptr 0 0 0), (1, .roI .u8 b), (20, .v (.int .i64 m.H.slo)), (21, .v (.int .i64 0))], mblk m⟩) 0 (by kernel_rfl) ?_ ?_ ?_
    · unfold mblk mfL; (refine weak_of ?_ ?_; (focus (first | with_reducible rfl | (simp only [] <;> with_reducible rfl))); simp only [exF, Nat.reduceEqDiff, if_true, if_false, reduceIte, Option.some.injEq, reduceCtorEq, Int.cast_ofNat_Int])
    · intro i hi; omega
    · unfold mblk mfL; repeat (first | simp only [c14_P, c14_odd, c14_ro, Nat.reduceBEq, reduceIte, Nat.reduceEqDiff, reduceCtorEq, ne_eq, if_true, if_false, exA, exA, tabs, exB, exD, buildA, rowOr, rowSetAt, rowAgg, mkAgg, AV.isAggV, AV.parts, AV.one, AV.solid, headSize, indexAddrA, indexA, fieldAddrA, fieldA, sliceA, boundsA, bndA, lenA, arrayAtA, rowOf, makeSliceA, intsOf, copyA, Nat.reduceAdd, Nat.reduceSub, Nat.reduceMul, Nat.reduceLeDiff, Nat.reduceLT, Nat.reduceGT, Int.reduceToNat, Int.reduceLE, Int.reduceLT, Int.reduceEq, Int.reduceNe, Int.reduceAdd, Int.reduceSub, Int.reduceMul, Int.reduceNeg, ite_true, ite_false, dite_true, xc1, xc2, xc3, xc4, xc5, xc6, xc7, xc8, xc9, xc10, xc11, xc12, xc13, xc14, hr] | simp (maxSteps := 1000000) (disch := omega) only [exE, Int.toNat_natCast, Int.reduceToNat])
  refine loop_count (good14 3) (fun i => ⟨envL [(0, .ptr 0 0 0), (1, .roI .u8 b), (20, .v (.int .i64 m.H.slo)), (21, .v (.int .i64 i))], mblk m⟩) (openAt m b) (by kernel_rfl) ?_ ?_ ?_
  · unfold mblk mfL; (refine weak_of ?_ ?_; (focus (first | with_reducible rfl | (simp only [Int.natCast_zero] <;> with_reducible rfl))); simp only [exF, Nat.reduceEqDiff, if_true, if_false, reduceIte, Option.some.injEq, reduceCtorEq, Int.cast_ofNat_Int, Int.natCast_zero])
  · intro i hi
    have hno : fitP m.P b i = false := firstAt_no _ _ i hi
    have c1 : (i : Int) < m.H.slo := by omega
    have w1 : IntKind.i64.wrap ((i : Int) + 1) = ((i + 1 : Nat) : Int) := by rw [i64_id _ (by omega)]; omega
    unfold mblk mfL
    cases h4 : aget m.P (i : Int)
    · repeat (first | simp only [c14_P, c14_odd, c14_ro, Nat.reduceBEq, reduceIte, Nat.reduceEqDiff, reduceCtorEq, ne_eq, if_true, if_false, exA, exA, tabs, exB, exD, buildA, rowOr, rowSetAt, rowAgg, mkAgg, AV.isAggV, AV.parts, AV.one, AV.solid, headSize, indexAddrA, indexA, fieldAddrA, fieldA, sliceA, boundsA, bndA, lenA, arrayAtA, rowOf, makeSliceA, intsOf, copyA, Nat.reduceAdd, Nat.reduceSub, Nat.reduceMul, Nat.reduceLeDiff, Nat.reduceLT, Nat.reduceGT, Int.reduceToNat, Int.reduceLE, Int.reduceLT, Int.reduceEq, Int.reduceNe, Int.reduceAdd, Int.reduceSub, Int.reduceMul, Int.reduceNeg, ite_true, ite_false, dite_true, xc1, xc2, xc3, xc4, xc5, xc6, xc7, xc8, xc9, xc10, xc11, xc12, xc13, xc14, hr, c1, w1, mfind_a, true_implies, false_implies, implies_true, forall_eq', h4] | simp (maxSteps := 1000000) (disch := omega) only [exE, Int.toNat_natCast, Int.reduceToNat])
      (refine weak_of ?_ ?_; (focus (first | with_reducible rfl | (simp only [] <;> with_reducible rfl))); simp only [exF, Nat.reduceEqDiff, if_true, if_false, reduceIte, Option.some.injEq, reduceCtorEq, Int.cast_ofNat_Int])
    · rw [fit_some h4] at hno
      repeat (first | simp only [c14_P, c14_odd, c14_ro, Nat.reduceBEq, reduceIte, Nat.reduceEqDiff, reduceCtorEq, ne_eq, if_true, if_false, exA, exA, tabs, exB, exD, buildA, rowOr, rowSetAt, rowAgg, mkAgg, AV.isAggV, AV.parts, AV.one, AV.solid, headSize, indexAddrA, indexA, fieldAddrA, fieldA, sliceA, boundsA, bndA, lenA, arrayAtA, rowOf, makeSliceA, intsOf, copyA, Nat.reduceAdd, Nat.reduceSub, Nat.reduceMul, Nat.reduceLeDiff, Nat.reduceLT, Nat.reduceGT, Int.reduceToNat, Int.reduceLE, Int.reduceLT, Int.reduceEq, Int.reduceNe, Int.reduceAdd, Int.reduceSub, Int.reduceMul, Int.reduceNeg, ite_true, ite_false, dite_true, xc1, xc2, xc3, xc4, xc5, xc6, xc7, xc8, xc9, xc10, xc11, xc12, xc13, xc14, hr, c1, w1, mfind_a, true_implies, false_implies, implies_true, forall_eq', h4, strV, hno] | simp (maxSteps := 1000000) (disch := omega) only [exE, Int.toNat_natCast, Int.reduceToNat])
      (refine weak_of ?_ ?_; (focus (first | with_reducible rfl | (simp only [] <;> with_reducible rfl))); simp only [exF, Nat.reduceEqDiff, if_true, if_false, reduceIte, Option.some.injEq, reduceCtorEq, Int.cast_ofNat_Int])
  · by_cases h5 : openAt m b < m.H.slo.toNat
    · have hyes : fitP m.P b (openAt m b) = true := firstAt_yes _ _ h5
      have c1 : ((openAt m b : Nat) : Int) < m.H.slo := by omega
      simp only [h5, if_true]
      unfold mblk mfL
      cases h4 : aget m.P ((openAt m b : Nat) : Int)
      · rw [fit_none h4] at hyes; cases hyes
      · rw [fit_some h4] at hyes
        repeat (first | simp only [c14_P, c14_odd, c14_ro, Nat.reduceBEq, reduceIte, Nat.reduceEqDiff, reduceCtorEq, ne_eq, if_true, if_false, exA, exA, tabs, exB, exD, buildA, rowOr, rowSetAt, rowAgg, mkAgg, AV.isAggV, AV.parts, AV.one, AV.solid, headSize, indexAddrA, indexA, fieldAddrA, fieldA, sliceA, boundsA, bndA, lenA, arrayAtA, rowOf, makeSliceA, intsOf, copyA, Nat.reduceAdd, Nat.reduceSub, Nat.reduceMul, Nat.reduceLeDiff, Nat.reduceLT, Nat.reduceGT, Int.reduceToNat, Int.reduceLE, Int.reduceLT, Int.reduceEq, Int.reduceNe, Int.reduceAdd, Int.reduceSub, Int.reduceMul, Int.reduceNeg, ite_true, ite_false, dite_true, xc1, xc2, xc3, xc4, xc5, xc6, xc7, xc8, xc9, xc10, xc11, xc12, xc13, xc14, hr, c1, mfind_a, true_implies, false_implies, implies_true, forall_eq', h4, strV, hyes] | simp (maxSteps := 1000000) (disch := omega) only [exE, Int.toNat_natCast, Int.reduceToNat])
    · have c1 : ¬ ((openAt m b : Nat) : Int) < m.H.slo := by omega
      simp only [h5, if_false]
      unfold mblk mfL
      repeat (first | simp only [c14_P, c14_odd, c14_ro, Nat.reduceBEq, reduceIte, Nat.reduceEqDiff, reduceCtorEq, ne_eq, if_true, if_false, exA, exA, tabs, exB, exD, buildA, rowOr, rowSetAt, rowAgg, mkAgg, AV.isAggV, AV.parts, AV.one, AV.solid, headSize, indexAddrA, indexA, fieldAddrA, fieldA, sliceA, boundsA, bndA, lenA, arrayAtA, rowOf, makeSliceA, intsOf, copyA, Nat.reduceAdd, Nat.reduceSub, Nat.reduceMul, Nat.reduceLeDiff, Nat.reduceLT, Nat.reduceGT, Int.reduceToNat, Int.reduceLE, Int.reduceLT, Int.reduceEq, Int.reduceNe, Int.reduceAdd, Int.reduceSub, Int.reduceMul, Int.reduceNeg, ite_true, ite_false, dite_true, xc1, xc2, xc3, xc4, xc5, xc6, xc7, xc8, xc9, xc10, xc11, xc12, xc13, xc14, hr, c1] | simp (maxSteps := 1000000) (disch := omega) only [exE, Int.toNat_natCast, Int.reduceToNat])
def mRekeyStep (m : Ms) : Bool × Int × Ms :=
  if m.op = true then (if stE m.H m.R = 0 then
    (dnB m.H m.R, 0, { m with R := ⟨if dnB m.H m.R = true then IntKind.u64.wrap ((if m.R.fro < m.H.sec then IntKind.u64.wrap (m.R.ctr + 1) else m.R.ctr) + 1) else (if m.R.fro < m.H.sec then IntKind.u64.wrap (m.R.ctr + 1) else m.R.ctr), (aft m.H m.R).rek, (aft m.H m.R).fro, m.R.tre⟩ })
    else (false, stE m.H m.R, m)) else (false, 6, m)
theorem af_0 {H : Hd} {R : Rt} (h : stE H R = 0) : afA H R = .tup [.agg [.v (.int .u64 R.ctr), .v (.bool (!dnB H R)), .v (.int .i64 (if dnB H R = true then 0 else toN H R)), .arr 32 .u8 R.tre], .v (.bool (dnB H R)), .v (.int .i64 0)] := by rw [afA, if_pos h]
theorem af_n {H : Hd} {R : Rt} (h : ¬ stE H R = 0) : afA H R = .tup [.agg [.v (.int .u64 0), .v (.bool false), .v (.int .i64 0), .arr 32 .u8 (List.replicate 32 0)], .v (.bool false), .v (.int .i64 (stE H R))] := by rw [afA, if_neg h]
theorem rekeyStep_spec (m : Ms) (hg : 0 ≤ m.H.gen) (ht : m.R.tre.length = 32) : ACall Try.prog 16 [.ptr 0 0 0] (mblk m) fun v h' => v = .tup [.v (.bool (mRekeyStep m).1), .v (.int .i64 (mRekeyStep m).2.1)] ∧ ∃ ext, h' = mblk (mRekeyStep m).2.2 ++ ext := by
  have ht2 : m.R.tre.take 32 = m.R.tre := List.take_of_length_le (by omega)
  have hz : (List.replicate 32 (0 : Int)).take 32 = List.replicate 32 0 := rfl
  unfold mblk mfL
  cases h1 : m.op
  · simp only [mRekeyStep, h1, if_false, Bool.false_eq_true]; refine acall_run (good14 3) Try.func16 rfl ⟨by kernel_rfl, by show 1 ≤ _; decide, by kernel_rfl, by kernel_rfl⟩ rfl ?_; have hr : Try.f16.results.toList = [.tmp 2, .tmp 3] := rfl; repeat (first | simp only [c14_P, c14_odd, c14_ro, Nat.reduceBEq, reduceIte, Nat.reduceEqDiff, reduceCtorEq, ne_eq, if_true, if_false, exA, exA, tabs, exB, exD, buildA, rowOr, rowSetAt, rowAgg, mkAgg, AV.isAggV, AV.parts, AV.one, AV.solid, headSize, indexAddrA, indexA, fieldAddrA, fieldA, sliceA, boundsA, bndA, lenA, arrayAtA, rowOf, makeSliceA, intsOf, copyA, Nat.reduceAdd, Nat.reduceSub, Nat.reduceMul, Nat.reduceLeDiff, Nat.reduceLT, Nat.reduceGT, Int.reduceToNat, Int.reduceLE, Int.reduceLT, Int.reduceEq, Int.reduceNe, Int.reduceAdd, Int.reduceSub, Int.reduceMul, Int.reduceNeg, ite_true, ite_false, dite_true, xc1, xc2, xc3, xc4, xc5, xc6, xc7, xc8, xc9, xc10, xc11, xc12, xc13, xc14, hr, h1] | simp (maxSteps := 1000000) (disch := omega) only [exE, Int.toNat_natCast, Int.reduceToNat]); exact ⟨[], by simp [h1]⟩
  by_cases h2 : stE m.H m.R = 0
  · have hb := mayB_b (stE_0 h2).1
    cases h3 : dnB m.H m.R <;> by_cases h4 : m.R.fro < m.H.sec <;>
      (simp only [mRekeyStep, h1, h2, h3, h4, if_true, if_false, Bool.false_eq_true, aft]
       refine acall_run (good14 3) Try.func16 rfl ⟨by kernel_rfl, by show 1 ≤ _; decide, by kernel_rfl, by kernel_rfl⟩ rfl ?_; have hr : Try.f16.results.toList = [.tmp 2, .tmp 3] := rfl; repeat (first | simp only [c14_P, c14_odd, c14_ro, Nat.reduceBEq, reduceIte, Nat.reduceEqDiff, reduceCtorEq, ne_eq, if_true, if_false, exA, exA, tabs, exB, exD, buildA, rowOr, rowSetAt, rowAgg, mkAgg, AV.isAggV, AV.parts, AV.one, AV.solid, headSize, indexAddrA, indexA, fieldAddrA, fieldA, sliceA, boundsA, bndA, lenA, arrayAtA, rowOf, makeSliceA, intsOf, copyA, Nat.reduceAdd, Nat.reduceSub, Nat.reduceMul, Nat.reduceLeDiff, Nat.reduceLT, Nat.reduceGT, Int.reduceToNat, Int.reduceLE, Int.reduceLT, Int.reduceEq, Int.reduceNe, Int.reduceAdd, Int.reduceSub, Int.reduceMul, Int.reduceNeg, ite_true, ite_false, dite_true, xc1, xc2, xc3, xc4, xc5, xc6, xc7, xc8, xc9, xc10, xc11, xc12, xc13, xc14, hr, h1, hg, ht, ht2, hz, Hd_eta, Rt_eta, af_0 h2, h3, h4] | simp (maxSteps := 1000000) (disch := omega) only [exE, Int.toNat_natCast, Int.reduceToNat])
       exact ⟨_, rfl⟩)
  · have h3 : (stE m.H m.R != 0) = true := by simpa using h2
    simp only [mRekeyStep, h1, h2, if_true, if_false, Bool.false_eq_true]
    refine acall_run (good14 3) Try.func16 rfl ⟨by kernel_rfl, by show 1 ≤ _; decide, by kernel_rfl, by kernel_rfl⟩ rfl ?_; have hr : Try.f16.results.toList = [.tmp 2, .tmp 3] := rfl; repeat (first | simp only [c14_P, c14_odd, c14_ro, Nat.reduceBEq, reduceIte, Nat.reduceEqDiff, reduceCtorEq, ne_eq, if_true, if_false, exA, exA, tabs, exB, exD, buildA, rowOr, rowSetAt, rowAgg, mkAgg, AV.isAggV, AV.parts, AV.one, AV.solid, headSize, indexAddrA, indexA, fieldAddrA, fieldA, sliceA, boundsA, bndA, lenA, arrayAtA, rowOf, makeSliceA, intsOf, copyA, Nat.reduceAdd, Nat.reduceSub, Nat.reduceMul, Nat.reduceLeDiff, Nat.reduceLT, Nat.reduceGT, Int.reduceToNat, Int.reduceLE, Int.reduceLT, Int.reduceEq, Int.reduceNe, Int.reduceAdd, Int.reduceSub, Int.reduceMul, Int.reduceNeg, ite_true, ite_false, dite_true, xc1, xc2, xc3, xc4, xc5, xc6, xc7, xc8, xc9, xc10, xc11, xc12, xc13, xc14, hr, h1, hg, ht, ht2, hz, Hd_eta, Rt_eta, af_n h2, h3] | simp (maxSteps := 1000000) (disch := omega) only [exE, Int.toNat_natCast, Int.reduceToNat])
    exact ⟨_, rfl⟩
end Go.Proofs.Ytgkhngcnbddoiaa

namespace Go.Proofs.Ytgkhngcnbddoiaa
open Go.Ax
theorem fork_spec (m : Ms) (hn : m.H.nam.length = 16) (ht : m.R.tre.length = 32) : ACall Try.prog 14 [.ptr 0 0 0] (mblk m) fun v h' => v = .ptr 3 0 0 ∧ h' = mblk m ++ [some (mfL ⟨m.H, 4, 5, m.ep, m.R, m.op, m.sl⟩), some [.mobj (aK m.S) (aV roB m.S)], some [.mobj (aK m.P) (aV strV m.P)]] := by
  have ht2 : m.R.tre.take 32 = m.R.tre := List.take_of_length_le (by omega)
  have hn2 : m.H.nam.take 16 = m.H.nam := List.take_of_length_le (by omega)
  unfold mblk mfL
  refine acall_run (good14 3) Try.func14 rfl ⟨by kernel_rfl, by show 1 ≤ _; decide, by kernel_rfl, by kernel_rfl⟩ rfl ?_; have hr : Try.f14.results.toList = [.tmp 2] := rfl; repeat (first | simp only [c14_P, c14_odd, c14_ro, Nat.reduceBEq, reduceIte, Nat.reduceEqDiff, reduceCtorEq, ne_eq, if_true, if_false, exA, exA, tabs, exB, exD, buildA, rowOr, rowSetAt, rowAgg, mkAgg, AV.isAggV, AV.parts, AV.one, AV.solid, headSize, indexAddrA, indexA, fieldAddrA, fieldA, sliceA, boundsA, bndA, lenA, arrayAtA, rowOf, makeSliceA, intsOf, copyA, Nat.reduceAdd, Nat.reduceSub, Nat.reduceMul, Nat.reduceLeDiff, Nat.reduceLT, Nat.reduceGT, Int.reduceToNat, Int.reduceLE, Int.reduceLT, Int.reduceEq, Int.reduceNe, Int.reduceAdd, Int.reduceSub, Int.reduceMul, Int.reduceNeg, ite_true, ite_false, dite_true, xc1, xc2, xc3, xc4, xc5, xc6, xc7, xc8, xc9, xc10, xc11, xc12, xc13, xc14, hr, hn, ht, ht2, hn2] | simp (maxSteps := 1000000) (disch := omega) only [exE, Int.toNat_natCast, Int.reduceToNat])
theorem written_spec (m : Ms) (hk : ∀ k ∈ aK m.S, 0 ≤ k ∧ k ≤ 1048576) (hl : m.S.length ≤ 1048576) : ACall Try.prog 18 [.ptr 0 0 0] (mblk m) fun v h' =>
    (aK m.S = [] ∧ v = .v (.slice none 0 0) ∧ ∃ x, h' = mblk m ++ [some x]) ∨ ∃ c x, v = .sl 4 0 1 0 (aK m.S).length c ∧ h' = mblk m ++ [some x, some [.arr (aK m.S).length .i64 (srt (aK m.S))]] := by
  unfold mblk mfL
  refine acall_run (good14 3) Try.func18 rfl ⟨by kernel_rfl, by show 1 ≤ _; decide, by kernel_rfl, by kernel_rfl⟩ rfl ?_; have hr : Try.f18.results.toList = [.tmp 2] := rfl; repeat (first | simp only [c14_P, c14_odd, c14_ro, Nat.reduceBEq, reduceIte, Nat.reduceEqDiff, reduceCtorEq, ne_eq, if_true, if_false, exA, exA, tabs, exB, exD, buildA, rowOr, rowSetAt, rowAgg, mkAgg, AV.isAggV, AV.parts, AV.one, AV.solid, headSize, indexAddrA, indexA, fieldAddrA, fieldA, sliceA, boundsA, bndA, lenA, arrayAtA, rowOf, makeSliceA, intsOf, copyA, Nat.reduceAdd, Nat.reduceSub, Nat.reduceMul, Nat.reduceLeDiff, Nat.reduceLT, Nat.reduceGT, Int.reduceToNat, Int.reduceLE, Int.reduceLT, Int.reduceEq, Int.reduceNe, Int.reduceAdd, Int.reduceSub, Int.reduceMul, Int.reduceNeg, ite_true, ite_false, dite_true, xc1, xc2, xc3, xc4, xc5, xc6, xc7, xc8, xc9, xc10, xc11, xc12, xc13, xc14, hr] | simp (maxSteps := 1000000) (disch := omega) only [exE, Int.toNat_natCast, Int.reduceToNat])
  show ACall _ _ _ _ _
  refine acall_run (good14 3) Try.func38 rfl ⟨by kernel_rfl, by show 1 ≤ _; decide, by kernel_rfl, by kernel_rfl⟩ rfl ?_; have hr : Try.f38.results.toList = [.tmp 2] := rfl; repeat (first | simp only [c14_P, c14_odd, c14_ro, Nat.reduceBEq, reduceIte, Nat.reduceEqDiff, reduceCtorEq, ne_eq, if_true, if_false, exA, exA, tabs, exB, exD, buildA, rowOr, rowSetAt, rowAgg, mkAgg, AV.isAggV, AV.parts, AV.one, AV.solid, headSize, indexAddrA, indexA, fieldAddrA, fieldA, sliceA, boundsA, bndA, lenA, arrayAtA, rowOf, makeSliceA, intsOf, copyA, Nat.reduceAdd, Nat.reduceSub, Nat.reduceMul, Nat.reduceLeDiff, Nat.reduceLT, Nat.reduceGT, Int.reduceToNat, Int.reduceLE, Int.reduceLT, Int.reduceEq, Int.reduceNe, Int.reduceAdd, Int.reduceSub, Int.reduceMul, Int.reduceNeg, ite_true, ite_false, dite_true, xc1, xc2, xc3, xc4, xc5, xc6, xc7, xc8, xc9, xc10, xc11, xc12, xc13, xc14, hr] | simp (maxSteps := 1000000) (disch := omega) only [exE, Int.toNat_natCast, Int.reduceToNat])
  refine callC_frame (C := c14 3) (sorted_spec (aK m.S) (aV roB m.S) hk (by simpa [aK_len] using hl)) [1, 3] rfl rfl (by decide) (by simp) ?_ ?_
  · intro k hk
    match k, hk with
    | 0, _ => rfl
    | 1, _ => rfl
  · rintro v h' (⟨h0, rfl, rfl⟩ | ⟨c, rfl, rfl⟩)
    · have hr : Try.f18.results.toList = [.tmp 2] := rfl
      simp only [overwrite, AV.ren, List.map_cons, List.map_nil]
      repeat (first | simp only [c14_P, c14_odd, c14_ro, Nat.reduceBEq, reduceIte, Nat.reduceEqDiff, reduceCtorEq, ne_eq, if_true, if_false, exA, exA, tabs, exB, exD, buildA, rowOr, rowSetAt, rowAgg, mkAgg, AV.isAggV, AV.parts, AV.one, AV.solid, headSize, indexAddrA, indexA, fieldAddrA, fieldA, sliceA, boundsA, bndA, lenA, arrayAtA, rowOf, makeSliceA, intsOf, copyA, Nat.reduceAdd, Nat.reduceSub, Nat.reduceMul, Nat.reduceLeDiff, Nat.reduceLT, Nat.reduceGT, Int.reduceToNat, Int.reduceLE, Int.reduceLT, Int.reduceEq, Int.reduceNe, Int.reduceAdd, Int.reduceSub, Int.reduceMul, Int.reduceNeg, ite_true, ite_false, dite_true, xc1, xc2, xc3, xc4, xc5, xc6, xc7, xc8, xc9, xc10, xc11, xc12, xc13, xc14, hr] | simp (maxSteps := 1000000) (disch := omega) only [exE, Int.toNat_natCast, Int.reduceToNat])
      exact .inl ⟨h0, _, rfl⟩
    · have hr : Try.f18.results.toList = [.tmp 2] := rfl
      simp only [overwrite, AV.ren, List.map_cons, List.map_nil]
      repeat (first | simp only [c14_P, c14_odd, c14_ro, Nat.reduceBEq, reduceIte, Nat.reduceEqDiff, reduceCtorEq, ne_eq, if_true, if_false, exA, exA, tabs, exB, exD, buildA, rowOr, rowSetAt, rowAgg, mkAgg, AV.isAggV, AV.parts, AV.one, AV.solid, headSize, indexAddrA, indexA, fieldAddrA, fieldA, sliceA, boundsA, bndA, lenA, arrayAtA, rowOf, makeSliceA, intsOf, copyA, Nat.reduceAdd, Nat.reduceSub, Nat.reduceMul, Nat.reduceLeDiff, Nat.reduceLT, Nat.reduceGT, Int.reduceToNat, Int.reduceLE, Int.reduceLT, Int.reduceEq, Int.reduceNe, Int.reduceAdd, Int.reduceSub, Int.reduceMul, Int.reduceNeg, ite_true, ite_false, dite_true, xc1, xc2, xc3, xc4, xc5, xc6, xc7, xc8, xc9, xc10, xc11, xc12, xc13, xc14, hr] | simp (maxSteps := 1000000) (disch := omega) only [exE, Int.toNat_natCast, Int.reduceToNat])
      exact .inr ⟨c, _, rfl, rfl⟩
def mNew (H : Hd) (b : List Int) : Ms := ⟨H, [], [(0, bytesOf b)], 1, ⟨0, false, 0, List.replicate 32 0⟩, false, 0⟩
def newOk (H : Hd) (b : List Int) : Bool := okH H && decide (b.length ≤ 512)
theorem new_bad (H : Hd) (b : List Int) (hg : 0 ≤ H.gen) (hn : H.nam.length = 16) (h : newOk H b = false) : ACall Try.prog 6 [.agg [.v (.int .u64 H.gen), .v (.int .i64 H.sec), .v (.int .i64 H.slo), .v (.int .i64 H.jou), .v (.int .i64 H.seg), .v (.int .i64 H.tim), .v (.int .i64 H.mem), .v (.int .i64 H.lan), .arr 16 .u8 H.nam], .roI .u8 b] [] fun v h' => v = .tup [.v (.pointer none), .v (.int .i64 1)] := by
  have hn2 : H.nam.take 16 = H.nam := List.take_of_length_le (by omega)
  cases h1 : okH H
  · refine acall_run (good14 0) Try.func6 rfl ⟨by kernel_rfl, by show 2 ≤ _; decide, by kernel_rfl, by kernel_rfl⟩ rfl ?_; have hr : Try.f6.results.toList = [.tmp 4, .tmp 5] := rfl; repeat (first | simp only [c14_P, c14_odd, c14_ro, Nat.reduceBEq, reduceIte, Nat.reduceEqDiff, reduceCtorEq, ne_eq, if_true, if_false, exA, exA, tabs, exB, exD, buildA, rowOr, rowSetAt, rowAgg, mkAgg, AV.isAggV, AV.parts, AV.one, AV.solid, headSize, indexAddrA, indexA, fieldAddrA, fieldA, sliceA, boundsA, bndA, lenA, arrayAtA, rowOf, makeSliceA, intsOf, copyA, Nat.reduceAdd, Nat.reduceSub, Nat.reduceMul, Nat.reduceLeDiff, Nat.reduceLT, Nat.reduceGT, Int.reduceToNat, Int.reduceLE, Int.reduceLT, Int.reduceEq, Int.reduceNe, Int.reduceAdd, Int.reduceSub, Int.reduceMul, Int.reduceNeg, ite_true, ite_false, dite_true, xc1, xc2, xc3, xc4, xc5, xc6, xc7, xc8, xc9, xc10, xc11, xc12, xc13, xc14, hr, hg, hn, hn2, Hd_eta, errH_bne, errH_beq, h1] | simp (maxSteps := 1000000) (disch := omega) only [exE, Int.toNat_natCast, Int.reduceToNat])
  · have h2 : ¬ b.length ≤ 512 := by intro h3; simp [newOk, h1, h3] at h
    refine acall_run (good14 0) Try.func6 rfl ⟨by kernel_rfl, by show 2 ≤ _; decide, by kernel_rfl, by kernel_rfl⟩ rfl ?_; have hr : Try.f6.results.toList = [.tmp 4, .tmp 5] := rfl; repeat (first | simp only [c14_P, c14_odd, c14_ro, Nat.reduceBEq, reduceIte, Nat.reduceEqDiff, reduceCtorEq, ne_eq, if_true, if_false, exA, exA, tabs, exB, exD, buildA, rowOr, rowSetAt, rowAgg, mkAgg, AV.isAggV, AV.parts, AV.one, AV.solid, headSize, indexAddrA, indexA, fieldAddrA, fieldA, sliceA, boundsA, bndA, lenA, arrayAtA, rowOf, makeSliceA, intsOf, copyA, Nat.reduceAdd, Nat.reduceSub, Nat.reduceMul, Nat.reduceLeDiff, Nat.reduceLT, Nat.reduceGT, Int.reduceToNat, Int.reduceLE, Int.reduceLT, Int.reduceEq, Int.reduceNe, Int.reduceAdd, Int.reduceSub, Int.reduceMul, Int.reduceNeg, ite_true, ite_false, dite_true, xc1, xc2, xc3, xc4, xc5, xc6, xc7, xc8, xc9, xc10, xc11, xc12, xc13, xc14, hr, hg, hn, hn2, Hd_eta, errH_bne, errH_beq, h1, h2] | simp (maxSteps := 1000000) (disch := omega) only [exE, Int.toNat_natCast, Int.reduceToNat])
theorem new_ok (H : Hd) (b : List Int) (hg : 0 ≤ H.gen) (hn : H.nam.length = 16) (h : newOk H b = true) : ACall Try.prog 6 [.agg [.v (.int .u64 H.gen), .v (.int .i64 H.sec), .v (.int .i64 H.slo), .v (.int .i64 H.jou), .v (.int .i64 H.seg), .v (.int .i64 H.tim), .v (.int .i64 H.mem), .v (.int .i64 H.lan), .arr 16 .u8 H.nam], .roI .u8 b] [] fun v h' => v = .tup [.ptr 0 0 0, .v (.int .i64 0)] ∧ h' = mblk (mNew H b) := by
  have hn2 : H.nam.take 16 = H.nam := List.take_of_length_le (by omega)
  have hz : (List.replicate 32 (0 : Int)).take 32 = List.replicate 32 0 := rfl
  simp only [newOk, Bool.and_eq_true, decide_eq_true_eq] at h
  obtain ⟨h1, h2⟩ := h
  refine ACall.weak (C := c14 0) rfl (κ := fun v h' => v = .tup [.ptr 3 0 0, .v (.int .i64 0)] ∧ ∃ x, h' = [x, some [.mobj [] []], some [.mobj [0] [.v (.string (bytesOf b))]], some (mfL ⟨H, 1, 2, 1, ⟨0, false, 0, List.replicate 32 0⟩, false, 0⟩)]) ?_ ?_
  · refine acall_run (good14 0) Try.func6 rfl ⟨by kernel_rfl, by show 2 ≤ _; decide, by kernel_rfl, by kernel_rfl⟩ rfl ?_; have hr : Try.f6.results.toList = [.tmp 4, .tmp 5] := rfl; repeat (first | simp only [c14_P, c14_odd, c14_ro, Nat.reduceBEq, reduceIte, Nat.reduceEqDiff, reduceCtorEq, ne_eq, if_true, if_false, exA, exA, tabs, exB, exD, buildA, rowOr, rowSetAt, rowAgg, mkAgg, AV.isAggV, AV.parts, AV.one, AV.solid, headSize, indexAddrA, indexA, fieldAddrA, fieldA, sliceA, boundsA, bndA, lenA, arrayAtA, rowOf, makeSliceA, intsOf, copyA, Nat.reduceAdd, Nat.reduceSub, Nat.reduceMul, Nat.reduceLeDiff, Nat.reduceLT, Nat.reduceGT, Int.reduceToNat, Int.reduceLE, Int.reduceLT, Int.reduceEq, Int.reduceNe, Int.reduceAdd, Int.reduceSub, Int.reduceMul, Int.reduceNeg, ite_true, ite_false, dite_true, xc1, xc2, xc3, xc4, xc5, xc6, xc7, xc8, xc9, xc10, xc11, xc12, xc13, xc14, hr, hg, hn, hn2, hz, Hd_eta, errH_bne, errH_beq, h1, h2, mputK, mputV, List.not_mem_nil] | simp (maxSteps := 1000000) (disch := omega) only [exE, Int.toNat_natCast, Int.reduceToNat])
    exact ⟨_, rfl⟩
  · rintro v h' ⟨rfl, x, rfl⟩
    refine ⟨.tup [.ptr 0 0 0, .v (.int .i64 0)], mblk (mNew H b), ?_, rfl, rfl⟩
    unfold mblk mfL mNew
    (refine weak_gc' [3, 1, 2] (by decide) (by simp) (by rfl) ?_ ?_; (focus (first | with_reducible rfl | (simp only [List.map_cons, List.map_nil, List.cons_append, List.nil_append, List.getElem?_cons_zero, List.getElem?_cons_succ, renB, renL, Option.map_some, Option.map_none, AV.ren, gcMap, List.getD_cons_zero, List.getD_cons_succ, renL, aK, aV, roB, strV, List.map_nil, List.map_cons] <;> with_reducible rfl))); simp only [exF, List.map_cons, List.map_nil, List.length_cons, List.length_nil, Nat.reduceAdd, AV.ren, renL, gcMap, Nat.reduceEqDiff, if_true, if_false, reduceIte, Option.some.injEq, reduceCtorEq, Int.cast_ofNat_Int, renL, aK, aV, roB, strV, List.map_nil, List.map_cons])
end Go.Proofs.Ytgkhngcnbddoiaa

namespace Go.Proofs.Ytgkhngcnbddoiaa
open Go.Ax
def blV (l : List Bool) : List AV := l.map fun b => .v (.bool b)
theorem rowS_bl (l : List Bool) : rowS (blV l) = some (blV l) := by cases l <;> rfl
theorem blV_ones (l : List Bool) : (blV l).all (fun p => p.one) = true := by simp [blV, AV.one]
theorem blV_take (l : List Bool) {n : Nat} (h : l.length = n) : (blV l).take n = blV l := List.take_of_length_le (by simp [blV, h])
theorem renL_bl (g : Nat → Nat) (l : List Bool) : renL g (blV l) = blV l := by
  induction l with
  | nil => rfl
  | cons b l ih => simp only [blV, List.map_cons, renL, AV.ren] at ih ⊢; rw [ih]
theorem blV_len (l : List Bool) : (blV l).length = l.length := by simp [blV]
theorem blV_snoc (l : List Bool) (b : Bool) : blV l ++ [.v (.bool b)] = blV (l ++ [b]) := by simp [blV]
def taken (P : List (Int × ByteArray)) (j : Nat) : List Bool := (List.range j).map fun (i : Nat) => (aget P (i : Int)).isSome
theorem taken_succ (P : List (Int × ByteArray)) (j : Nat) : taken P (j + 1) = taken P j ++ [(aget P (j : Int)).isSome] := by simp [taken, List.range_succ]
theorem taken_len (P : List (Int × ByteArray)) (j : Nat) : (taken P j).length = j := by simp [taken]
def infS (m : Ms) : Nat → Nat → St
  | 0, _ => ⟨envL [(0, .ptr 0 0 0), (2, .ptr 3 0 0), (4, .ptr 4 0 0), (36, .v (.int .i64 m.H.slo)), (37, .v (.int .i64 0))],
      mblk m ++ [some [.v (.int .u64 0), .v (.int .i64 0), .v (.int .i64 0), .v (.int .i64 0), .v (.int .i64 0), .v (.int .i64 0), .v (.int .i64 0), .v (.int .i64 0), .arr 16 .u8 (List.replicate 16 0), .v (.int .i64 0), .v (.slice none 0 0), .v (.int .i64 0), .v (.int .i64 0), .v (.int .u64 0)], some [.v (.int .u64 m.H.gen), .v (.int .i64 m.H.sec), .v (.int .i64 m.H.slo), .v (.int .i64 m.H.jou), .v (.int .i64 m.H.seg), .v (.int .i64 m.H.tim), .v (.int .i64 m.H.mem), .v (.int .i64 m.H.lan), .arr 16 .u8 m.H.nam, .v (.int .i64 m.sl), .v (.slice none 0 0), .v (.int .i64 m.ep), .v (.int .i64 0), .v (.int .u64 m.R.ctr)]]⟩
  | j + 1, c => ⟨envL [(0, .ptr 0 0 0), (2, .ptr 3 0 0), (4, .ptr 4 0 0), (36, .v (.int .i64 m.H.slo)), (37, .v (.int .i64 ((j + 1 : Nat) : Int)))],
      mblk m ++ [some [.v (.int .u64 0), .v (.int .i64 0), .v (.int .i64 0), .v (.int .i64 0), .v (.int .i64 0), .v (.int .i64 0), .v (.int .i64 0), .v (.int .i64 0), .arr 16 .u8 (List.replicate 16 0), .v (.int .i64 0), .v (.slice none 0 0), .v (.int .i64 0), .v (.int .i64 0), .v (.int .u64 0)], some [.v (.int .u64 m.H.gen), .v (.int .i64 m.H.sec), .v (.int .i64 m.H.slo), .v (.int .i64 m.H.jou), .v (.int .i64 m.H.seg), .v (.int .i64 m.H.tim), .v (.int .i64 m.H.mem), .v (.int .i64 m.H.lan), .arr 16 .u8 m.H.nam, .v (.int .i64 m.sl), .sl 5 0 1 0 (j + 1) c, .v (.int .i64 m.ep), .v (.int .i64 0), .v (.int .u64 m.R.ctr)], some (blV (taken m.P (j + 1)))]⟩
theorem info_closed (m : Ms) (h : m.op = false) : ACall Try.prog 17 [.ptr 0 0 0] (mblk m) fun v h' => v = .tup [.agg [.v (.int .u64 0), .v (.int .i64 0), .v (.int .i64 0), .v (.int .i64 0), .v (.int .i64 0), .v (.int .i64 0), .v (.int .i64 0), .v (.int .i64 0), .arr 16 .u8 (List.replicate 16 0), .v (.int .i64 0), .v (.slice none 0 0), .v (.int .i64 0), .v (.int .i64 0), .v (.int .u64 0)], .v (.int .i64 6)] ∧ ∃ ext, h' = mblk m ++ ext := by
  have hz : (List.replicate 16 (0 : Int)).take 16 = List.replicate 16 0 := rfl
  unfold mblk mfL
  refine acall_run (good14 3) Try.func17 rfl ⟨by kernel_rfl, by show 1 ≤ _; decide, by kernel_rfl, by kernel_rfl⟩ rfl ?_; have hr : Try.f17.results.toList = [.cell 2 49, .tmp 3] := rfl; repeat (first | simp only [c14_P, c14_odd, c14_ro, Nat.reduceBEq, reduceIte, Nat.reduceEqDiff, reduceCtorEq, ne_eq, if_true, if_false, exA, exA, tabs, exB, exD, buildA, rowOr, rowSetAt, rowAgg, mkAgg, AV.isAggV, AV.parts, AV.one, AV.solid, headSize, indexAddrA, indexA, fieldAddrA, fieldA, sliceA, boundsA, bndA, lenA, arrayAtA, rowOf, makeSliceA, intsOf, copyA, Nat.reduceAdd, Nat.reduceSub, Nat.reduceMul, Nat.reduceLeDiff, Nat.reduceLT, Nat.reduceGT, Int.reduceToNat, Int.reduceLE, Int.reduceLT, Int.reduceEq, Int.reduceNe, Int.reduceAdd, Int.reduceSub, Int.reduceMul, Int.reduceNeg, ite_true, ite_false, dite_true, xc1, xc2, xc3, xc4, xc5, xc6, xc7, xc8, xc9, xc10, xc11, xc12, xc13, xc14, hr, h, hz] | simp (maxSteps := 1000000) (disch := omega) only [exE, Int.toNat_natCast, Int.reduceToNat])
  exact ⟨_, rfl⟩
theorem info_open (m : Ms) (h : m.op = true) (hm : mayB m.H m.R = true) (hg : 0 ≤ m.H.gen) (hn : m.H.nam.length = 16) (ht : m.R.tre.length = 32) : ACall Try.prog 17 [.ptr 0 0 0] (mblk m) fun v h' => ∃ c x y, v = .tup [.agg [.v (.int .u64 m.H.gen), .v (.int .i64 m.H.sec), .v (.int .i64 m.H.slo), .v (.int .i64 m.H.jou), .v (.int .i64 m.H.seg), .v (.int .i64 m.H.tim), .v (.int .i64 m.H.mem), .v (.int .i64 m.H.lan), .arr 16 .u8 m.H.nam, .v (.int .i64 m.sl), .sl 5 0 1 0 m.H.slo.toNat c, .v (.int .i64 m.ep), .v (.int .i64 (left m.H m.R)), .v (.int .u64 m.R.ctr)], .v (.int .i64 0)] ∧
    h' = mblk m ++ [x, y, some (blV (taken m.P m.H.slo.toNat))] := by
  have hz : (List.replicate 16 (0 : Int)).take 16 = List.replicate 16 0 := rfl
  have ht2 : m.R.tre.take 32 = m.R.tre := List.take_of_length_le (by omega)
  have hn2 : m.H.nam.take 16 = m.H.nam := List.take_of_length_le (by omega)
  have hk := okH_iff.1 (by simp only [mayB, Bool.and_eq_true] at hm; exact hm.1)
  have hst : stA m.H m.R = .tup [.v (.int .i64 (left m.H m.R)), .v (.int .i64 0)] := by rw [stA, if_pos hm]
  have na : ∀ n : Nat, (0 : Int) ≤ n := fun n => Int.natCast_nonneg n
  unfold mblk mfL
  refine acall_run (good14 3) Try.func17 rfl ⟨by kernel_rfl, by show 1 ≤ _; decide, by kernel_rfl, by kernel_rfl⟩ rfl ?_; have hr : Try.f17.results.toList = [.cell 2 49, .tmp 3] := rfl; repeat (first | simp only [c14_P, c14_odd, c14_ro, Nat.reduceBEq, reduceIte, Nat.reduceEqDiff, reduceCtorEq, ne_eq, if_true, if_false, exA, exA, tabs, exB, exD, buildA, rowOr, rowSetAt, rowAgg, mkAgg, AV.isAggV, AV.parts, AV.one, AV.solid, headSize, indexAddrA, indexA, fieldAddrA, fieldA, sliceA, boundsA, bndA, lenA, arrayAtA, rowOf, makeSliceA, intsOf, copyA, Nat.reduceAdd, Nat.reduceSub, Nat.reduceMul, Nat.reduceLeDiff, Nat.reduceLT, Nat.reduceGT, Int.reduceToNat, Int.reduceLE, Int.reduceLT, Int.reduceEq, Int.reduceNe, Int.reduceAdd, Int.reduceSub, Int.reduceMul, Int.reduceNeg, ite_true, ite_false, dite_true, xc1, xc2, xc3, xc4, xc5, xc6, xc7, xc8, xc9, xc10, xc11, xc12, xc13, xc14, hr, h, hz, hn2] | simp (maxSteps := 1000000) (disch := omega) only [exE, Int.toNat_natCast, Int.reduceToNat])
  refine loop_countE (good14 3) (infS m) m.H.slo.toNat (by kernel_rfl) ⟨0, ?_⟩ ?_ ?_
  · unfold infS mblk mfL; rw [h]; (refine weak_of ?_ ?_; (focus (first | with_reducible rfl | (simp only [List.cons_append, List.nil_append] <;> with_reducible rfl))); simp only [exF, Nat.reduceEqDiff, if_true, if_false, reduceIte, Option.some.injEq, reduceCtorEq, Int.cast_ofNat_Int, List.cons_append, List.nil_append])
  · intro i c hi
    have c1 : (i : Int) < m.H.slo := by omega
    have w1 : IntKind.i64.wrap ((i : Int) + 1) = ((i + 1 : Nat) : Int) := by rw [i64_id _ (by omega)]; omega
    cases i with
    | zero =>
      have e0 : taken m.P 1 = [(aget m.P 0).isSome] := rfl
      have w0 : IntKind.i64.wrap 1 = 1 := rfl
      unfold infS mblk mfL
      cases h4 : aget m.P 0
      · rw [h4] at e0
        repeat (first | simp only [c14_P, c14_odd, c14_ro, Nat.reduceBEq, reduceIte, Nat.reduceEqDiff, reduceCtorEq, ne_eq, if_true, if_false, exA, exA, tabs, exB, exD, buildA, rowOr, rowSetAt, rowAgg, mkAgg, AV.isAggV, AV.parts, AV.one, AV.solid, headSize, indexAddrA, indexA, fieldAddrA, fieldA, sliceA, boundsA, bndA, lenA, arrayAtA, rowOf, makeSliceA, intsOf, copyA, Nat.reduceAdd, Nat.reduceSub, Nat.reduceMul, Nat.reduceLeDiff, Nat.reduceLT, Nat.reduceGT, Int.reduceToNat, Int.reduceLE, Int.reduceLT, Int.reduceEq, Int.reduceNe, Int.reduceAdd, Int.reduceSub, Int.reduceMul, Int.reduceNeg, ite_true, ite_false, dite_true, xc1, xc2, xc3, xc4, xc5, xc6, xc7, xc8, xc9, xc10, xc11, xc12, xc13, xc14, hr, h, c1, w0, mfind_a, true_implies, false_implies, implies_true, forall_eq', h4, hn2] | simp (maxSteps := 1000000) (disch := omega) only [exE, Int.toNat_natCast, Int.reduceToNat])
        intro c' _
        refine ⟨c', ?_⟩
        (refine weak_gc' [0, 1, 2, 3, 4, 6] (by decide) (by simp) (by rfl) ?_ ?_; (focus (first | with_reducible rfl | (simp only [List.map_cons, List.map_nil, List.cons_append, List.nil_append, List.getElem?_cons_zero, List.getElem?_cons_succ, renB, renL, Option.map_some, Option.map_none, AV.ren, gcMap, List.getD_cons_zero, List.getD_cons_succ, e0, blV, renL, List.cons_append, List.nil_append, Option.isSome_none] <;> with_reducible rfl))); simp only [exF, List.map_cons, List.map_nil, List.length_cons, List.length_nil, Nat.reduceAdd, AV.ren, renL, gcMap, Nat.reduceEqDiff, if_true, if_false, reduceIte, Option.some.injEq, reduceCtorEq, Int.cast_ofNat_Int, e0, blV, renL, List.cons_append, List.nil_append, Option.isSome_none])
      · rw [h4] at e0
        repeat (first | simp only [c14_P, c14_odd, c14_ro, Nat.reduceBEq, reduceIte, Nat.reduceEqDiff, reduceCtorEq, ne_eq, if_true, if_false, exA, exA, tabs, exB, exD, buildA, rowOr, rowSetAt, rowAgg, mkAgg, AV.isAggV, AV.parts, AV.one, AV.solid, headSize, indexAddrA, indexA, fieldAddrA, fieldA, sliceA, boundsA, bndA, lenA, arrayAtA, rowOf, makeSliceA, intsOf, copyA, Nat.reduceAdd, Nat.reduceSub, Nat.reduceMul, Nat.reduceLeDiff, Nat.reduceLT, Nat.reduceGT, Int.reduceToNat, Int.reduceLE, Int.reduceLT, Int.reduceEq, Int.reduceNe, Int.reduceAdd, Int.reduceSub, Int.reduceMul, Int.reduceNeg, ite_true, ite_false, dite_true, xc1, xc2, xc3, xc4, xc5, xc6, xc7, xc8, xc9, xc10, xc11, xc12, xc13, xc14, hr, h, c1, w0, mfind_a, true_implies, false_implies, implies_true, forall_eq', h4, hn2] | simp (maxSteps := 1000000) (disch := omega) only [exE, Int.toNat_natCast, Int.reduceToNat])
        intro c' _
        refine ⟨c', ?_⟩
        (refine weak_gc' [0, 1, 2, 3, 4, 6] (by decide) (by simp) (by rfl) ?_ ?_; (focus (first | with_reducible rfl | (simp only [List.map_cons, List.map_nil, List.cons_append, List.nil_append, List.getElem?_cons_zero, List.getElem?_cons_succ, renB, renL, Option.map_some, Option.map_none, AV.ren, gcMap, List.getD_cons_zero, List.getD_cons_succ, e0, blV, renL, List.cons_append, List.nil_append, Option.isSome_some] <;> with_reducible rfl))); simp only [exF, List.map_cons, List.map_nil, List.length_cons, List.length_nil, Nat.reduceAdd, AV.ren, renL, gcMap, Nat.reduceEqDiff, if_true, if_false, reduceIte, Option.some.injEq, reduceCtorEq, Int.cast_ofNat_Int, e0, blV, renL, List.cons_append, List.nil_append, Option.isSome_some])
    | succ j =>
      unfold infS mblk mfL
      have e1 := taken_succ m.P (j + 1)
      have hl := taken_len m.P (j + 1)
      have ho := blV_ones (taken m.P (j + 1))
      simp only [AV.one] at ho
      have htk := blV_take _ hl
      cases h4 : aget m.P ((j + 1 : Nat) : Int)
      · rw [h4] at e1
        repeat (first | simp only [c14_P, c14_odd, c14_ro, Nat.reduceBEq, reduceIte, Nat.reduceEqDiff, reduceCtorEq, ne_eq, if_true, if_false, exA, exA, tabs, exB, exD, buildA, rowOr, rowSetAt, rowAgg, mkAgg, AV.isAggV, AV.parts, AV.one, AV.solid, headSize, indexAddrA, indexA, fieldAddrA, fieldA, sliceA, boundsA, bndA, lenA, arrayAtA, rowOf, makeSliceA, intsOf, copyA, Nat.reduceAdd, Nat.reduceSub, Nat.reduceMul, Nat.reduceLeDiff, Nat.reduceLT, Nat.reduceGT, Int.reduceToNat, Int.reduceLE, Int.reduceLT, Int.reduceEq, Int.reduceNe, Int.reduceAdd, Int.reduceSub, Int.reduceMul, Int.reduceNeg, ite_true, ite_false, dite_true, xc1, xc2, xc3, xc4, xc5, xc6, xc7, xc8, xc9, xc10, xc11, xc12, xc13, xc14, hr, h, c1, w1, mfind_a, true_implies, false_implies, implies_true, forall_eq', h4, hn2, rowS_bl, blV_len, hl, blV_snoc, ho, htk] | simp (maxSteps := 1000000) (disch := omega) only [exE, Int.toNat_natCast, Int.reduceToNat])
        refine ⟨by omega, fun c' _ => ⟨c', ?_⟩⟩
        (refine weak_gc' [0, 1, 2, 3, 4, 7] (by decide) (by simp) (by rfl) ?_ ?_; (focus (first | with_reducible rfl | (simp only [List.map_cons, List.map_nil, List.cons_append, List.nil_append, List.getElem?_cons_zero, List.getElem?_cons_succ, renB, renL, Option.map_some, Option.map_none, AV.ren, gcMap, List.getD_cons_zero, List.getD_cons_succ, e1, renL_bl, renL, List.cons_append, List.nil_append, Option.isSome_none] <;> with_reducible rfl))); simp only [exF, List.map_cons, List.map_nil, List.length_cons, List.length_nil, Nat.reduceAdd, AV.ren, renL, gcMap, Nat.reduceEqDiff, if_true, if_false, reduceIte, Option.some.injEq, reduceCtorEq, Int.cast_ofNat_Int, e1, renL_bl, renL, List.cons_append, List.nil_append, Option.isSome_none])
      · rw [h4] at e1
        repeat (first | simp only [c14_P, c14_odd, c14_ro, Nat.reduceBEq, reduceIte, Nat.reduceEqDiff, reduceCtorEq, ne_eq, if_true, if_false, exA, exA, tabs, exB, exD, buildA, rowOr, rowSetAt, rowAgg, mkAgg, AV.isAggV, AV.parts, AV.one, AV.solid, headSize, indexAddrA, indexA, fieldAddrA, fieldA, sliceA, boundsA, bndA, lenA, arrayAtA, rowOf, makeSliceA, intsOf, copyA, Nat.reduceAdd, Nat.reduceSub, Nat.reduceMul, Nat.reduceLeDiff, Nat.reduceLT, Nat.reduceGT, Int.reduceToNat, Int.reduceLE, Int.reduceLT, Int.reduceEq, Int.reduceNe, Int.reduceAdd, Int.reduceSub, Int.reduceMul, Int.reduceNeg, ite_true, ite_false, dite_true, xc1, xc2, xc3, xc4, xc5, xc6, xc7, xc8, xc9, xc10, xc11, xc12, xc13, xc14, hr, h, c1, w1, mfind_a, true_implies, false_implies, implies_true, forall_eq', h4, hn2, rowS_bl, blV_len, hl, blV_snoc, ho, htk] | simp (maxSteps := 1000000) (disch := omega) only [exE, Int.toNat_natCast, Int.reduceToNat])
        refine ⟨by omega, fun c' _ => ⟨c', ?_⟩⟩
        (refine weak_gc' [0, 1, 2, 3, 4, 7] (by decide) (by simp) (by rfl) ?_ ?_; (focus (first | with_reducible rfl | (simp only [List.map_cons, List.map_nil, List.cons_append, List.nil_append, List.getElem?_cons_zero, List.getElem?_cons_succ, renB, renL, Option.map_some, Option.map_none, AV.ren, gcMap, List.getD_cons_zero, List.getD_cons_succ, e1, renL_bl, renL, List.cons_append, List.nil_append, Option.isSome_some] <;> with_reducible rfl))); simp only [exF, List.map_cons, List.map_nil, List.length_cons, List.length_nil, Nat.reduceAdd, AV.ren, renL, gcMap, Nat.reduceEqDiff, if_true, if_false, reduceIte, Option.some.injEq, reduceCtorEq, Int.cast_ofNat_Int, e1, renL_bl, renL, List.cons_append, List.nil_append, Option.isSome_some])
  · intro c
    have c1 : ((m.H.slo.toNat : Nat) : Int) = m.H.slo := by omega
    obtain ⟨j, hj⟩ : ∃ j, m.H.slo.toNat = j + 1 := ⟨m.H.slo.toNat - 1, by omega⟩
    rw [hj] at c1 ⊢
    unfold infS mblk mfL
    repeat (first | simp only [c14_P, c14_odd, c14_ro, Nat.reduceBEq, reduceIte, Nat.reduceEqDiff, reduceCtorEq, ne_eq, if_true, if_false, exA, exA, tabs, exB, exD, buildA, rowOr, rowSetAt, rowAgg, mkAgg, AV.isAggV, AV.parts, AV.one, AV.solid, headSize, indexAddrA, indexA, fieldAddrA, fieldA, sliceA, boundsA, bndA, lenA, arrayAtA, rowOf, makeSliceA, intsOf, copyA, Nat.reduceAdd, Nat.reduceSub, Nat.reduceMul, Nat.reduceLeDiff, Nat.reduceLT, Nat.reduceGT, Int.reduceToNat, Int.reduceLE, Int.reduceLT, Int.reduceEq, Int.reduceNe, Int.reduceAdd, Int.reduceSub, Int.reduceMul, Int.reduceNeg, ite_true, ite_false, dite_true, xc1, xc2, xc3, xc4, xc5, xc6, xc7, xc8, xc9, xc10, xc11, xc12, xc13, xc14, hr, h, hg, ht, ht2, hn2, Hd_eta, Rt_eta, hst, c1] | simp (maxSteps := 1000000) (disch := omega) only [exE, Int.toNat_natCast, Int.reduceToNat])
    exact ⟨c, _, _, rfl, rfl⟩
end Go.Proofs.Ytgkhngcnbddoiaa

namespace Go.Proofs.Ytgkhngcnbddoiaa
open Go.Ax
def mats (m : Ms) (p : Nat) : List Blk := [some (mfL ⟨m.H, p + 1, p + 2, m.ep, m.R, m.op, m.sl⟩), some [.mobj (aK m.S) (aV roB m.S)], some [.mobj (aK m.P) (aV strV m.P)]]
theorem renL_roB (g : Nat → Nat) (S : List (Int × List Int)) : renL g (aV roB S) = aV roB S := by
  induction S with
  | nil => rfl
  | cons x S ih => simp only [aV, List.map_cons, renL] at ih ⊢; rw [ih]; simp only [roB, AV.ren]
theorem renL_strV (g : Nat → Nat) (S : List (Int × ByteArray)) : renL g (aV strV S) = aV strV S := by
  induction S with
  | nil => rfl
  | cons x S ih => simp only [aV, List.map_cons, renL] at ih ⊢; rw [ih]; simp only [strV, AV.ren]
theorem mblk_ren (m : Ms) (p n : Nat) : (mblk m).map (renB (frameMap [p, p + 1, p + 2] n)) = mats m p := by
  have h1 : frameMap [p, p + 1, p + 2] n 1 = p + 1 := rfl
  have h2 : frameMap [p, p + 1, p + 2] n 2 = p + 2 := rfl
  simp only [mblk, mats, mfL, List.map_cons, List.map_nil, renB, renL, AV.ren, Option.map_some, renL_roB, renL_strV, h1, h2]
theorem mats_get (m : Ms) (pre post : List Blk) {k : Nat} (hk : k < 3) : (pre ++ (mats m pre.length ++ post))[pre.length + k]? = (mats m pre.length)[k]? := by
  rw [List.getElem?_append_right (by omega), show pre.length + k - pre.length = k by omega, List.getElem?_append_left (by simpa [mats] using hk)]
theorem mats_over (m m' : Ms) (pre post r : List Blk) : overwrite (pre ++ (mats m pre.length ++ post)) [pre.length, pre.length + 1, pre.length + 2] (mats m' pre.length ++ r) = pre ++ (mats m' pre.length ++ (post ++ r)) := by
  simp only [mats, List.cons_append, List.nil_append, overwrite]
  rw [List.set_append_right _ _ (by omega), Nat.sub_self, List.set_cons_zero, List.set_append_right _ _ (by omega), List.set_append_right _ _ (by omega)]
  rw [show pre.length + 1 - pre.length = 1 by omega, show pre.length + 2 - pre.length = 2 by omega]
  simp
theorem callM {C : Cfg} {f : FuncId} {xs : List AV} {m : Ms} {κ : AV → List Blk → Prop} {d : Option Tmp} {all : Array Oper} {l : List Oper} {k : List KI} {e : Env} {h : List Blk} {Q : Exit → St → Prop}
    (spec : ACall C.P f (.ptr 0 0 0 :: xs) (mblk m) κ) (pre post : List Blk) (hx : ∀ g, renL g xs = xs) (hh : h = pre ++ (mats m pre.length ++ post))
    (hκ : ∀ v h', κ v h' → ∃ m' ext, h' = mblk m' ++ ext ∧ opsR C all l k ⟨put e d (v.ren (frameMap [pre.length, pre.length + 1, pre.length + 2] h.length)), pre ++ (mats m' pre.length ++ (post ++ ext.map (renB (frameMap [pre.length, pre.length + 1, pre.length + 2] h.length))))⟩ Q) :
    callC C f (.ptr pre.length 0 0 :: xs) d all l k e h Q := by
  refine callC_frame spec [pre.length, pre.length + 1, pre.length + 2] ?_ rfl (by simp) ?_ ?_ ?_
  · simp only [renL, AV.ren, hx]
    rfl
  · subst hh
    intro p hp
    have : (mats m pre.length).length = 3 := rfl
    simp only [List.length_append, this]
    simp only [List.mem_cons, List.not_mem_nil, or_false] at hp
    omega
  · intro j hj
    rw [← List.getElem?_map, mblk_ren]
    subst hh
    match j, hj with
    | 0, _ => exact mats_get m pre post (k := 0) (by omega)
    | 1, _ => exact mats_get m pre post (k := 1) (by omega)
    | 2, _ => exact mats_get m pre post (k := 2) (by omega)
  · intro v h' hv
    obtain ⟨m', ext, rfl, ho⟩ := hκ v h' hv
    rw [List.map_append, mblk_ren]
    subst hh
    rw [mats_over]
    exact ho
def N11r (h : List Blk) : List AV → Option Out
  | [x] => (u8Of h x).bind fun l => oguard (l.length ≤ 9223372036854775807) (some (.one (.roI .u8 (blockL l)) h))
  | _ => none
theorem N11r_eq (h : List Blk) (x : AV) : N11r h [x] = (u8Of h x).bind fun l => oguard (l.length ≤ 9223372036854775807) (some (.one (.roI .u8 (blockL l)) h)) := rfl
def N6 (h : List Blk) : List AV → Option Out
  | [.agg [.v (.int .u64 ha), .v (.int .i64 hb), .v (.int .i64 hc), .v (.int .i64 hd), .v (.int .i64 he), .v (.int .i64 hf), .v (.int .i64 hg), .v (.int .i64 hi), .arr 16 .u8 hn], x] => (u8Of h x).bind fun l => oguard (0 ≤ ha ∧ hn.length = 16 ∧ newOk ⟨ha, hb, hc, hd, he, hf, hg, hi, hn⟩ l = true) (some (.one (.tup [.ptr h.length 0 0, .v (.int .i64 0)]) (h ++ mats (mNew ⟨ha, hb, hc, hd, he, hf, hg, hi, hn⟩ l) h.length)))
  | _ => none
theorem N6_eq (h : List Blk) {ha hb hc hd he hf hg hi : Int} {hn : List Int} (x : AV) : N6 h [.agg [.v (.int .u64 ha), .v (.int .i64 hb), .v (.int .i64 hc), .v (.int .i64 hd), .v (.int .i64 he), .v (.int .i64 hf), .v (.int .i64 hg), .v (.int .i64 hi), .arr 16 .u8 hn], x] = (u8Of h x).bind fun l => oguard (0 ≤ ha ∧ hn.length = 16 ∧ newOk ⟨ha, hb, hc, hd, he, hf, hg, hi, hn⟩ l = true) (some (.one (.tup [.ptr h.length 0 0, .v (.int .i64 0)]) (h ++ mats (mNew ⟨ha, hb, hc, hd, he, hf, hg, hi, hn⟩ l) h.length))) := rfl
noncomputable def n15 : FuncId → Option (List Blk → List AV → Option Out) := addNews (addNews n14 11 N11r) 6 N6
noncomputable def c15 (k : Nat) : Cfg := ⟨Try.prog, k, p8, [], n15, none, []⟩
theorem c15_odd (k : Nat) : (c15 k).odd = [] := rfl
theorem c15_ro (k : Nat) : (c15 k).ro = [] := rfl
theorem c15_P (k : Nat) : (c15 k).P = Try.prog := rfl
theorem c15_pure (k : Nat) : (c15 k).pure = p8 := rfl
theorem c15_news (k : Nat) : (c15 k).news = n15 := rfl
theorem xc15 :
  (type_of% @c15_pure) ∧
  (type_of% @c15_news) ∧
  (type_of% @Go.Proofs.Ytgkhngcnbddoiaa.n15.eq_1) ∧
  (type_of% @N11r_eq) ∧
  (type_of% @N6_eq) :=
  ⟨@c15_pure, @c15_news, @Go.Proofs.Ytgkhngcnbddoiaa.n15.eq_1, @N11r_eq, @N6_eq⟩
theorem mblk_ren2 (m : Ms) (n : Nat) : (mblk m).map (renB fun b => n + b) = mats m n := by
  simp only [mblk, mats, mfL, List.map_cons, List.map_nil, renB, renL, AV.ren, Option.map_some, renL_roB, renL_strV]
theorem good15 (k : Nat) : (c15 k).Good := by
  refine Cfg.Good.addN (Cfg.Good.addN (good14 k) ?_ k) ?_ k
  · intro h args out hN
    unfold N11r at hN
    split at hN
    · rename_i x
      obtain ⟨l, hl, hN⟩ := Option.bind_eq_some_iff.1 hN
      obtain ⟨h1, hN⟩ := oguard_some hN
      cases hN
      refine ⟨⟨[], by simp⟩, fun κ hκ => ?_⟩
      refine ACall.shed (ACall.ro (args := [x]) (block_spec l h1) (by rintro _ _ ⟨rfl, rfl⟩; exact ⟨rfl, rfl⟩) (fun g => rfl) (List.range h.length) ⟨u8Of_frz hl, trivial⟩) ?_
      rintro v h' ⟨v0, h0, ⟨rfl, rfl⟩, rfl, rfl⟩
      refine ⟨.roI .u8 (blockL l), _, rfl, by intro x hx; simp [renB] at hx; exact ⟨_, hx⟩, rfl, ?_, hκ⟩
      refine Frz.ints (by simp [List.mem_range'_1]) ?_
      have hl := blockL_len l
      simp [intsOf, row_def, rowS, noMap, renB, renL, AV.ren, rowDrop, oguard, hl]
      exact List.take_of_length_le (by omega)
    · cases hN
  · intro h args out hN
    unfold N6 at hN
    split at hN
    · rename_i ha hb hc hd he hf hg hi hn x
      obtain ⟨l, hl, hN⟩ := Option.bind_eq_some_iff.1 hN
      obtain ⟨⟨h1, h2, h3⟩, hN⟩ := oguard_some hN
      cases hN
      refine ⟨⟨_, rfl⟩, fun κ hκ => news_ok (args := [_, x]) (new_ok ⟨ha, hb, hc, hd, he, hf, hg, hi, hn⟩ l h1 h2 h3) (by rintro _ _ ⟨rfl, rfl⟩; exact ⟨rfl, rfl⟩) (fun g => rfl) ⟨Frz.same _, u8Of_frz hl, trivial⟩ ?_ hκ⟩
      rintro _ _ ⟨rfl, rfl⟩
      exact ⟨rfl, by rw [mblk_ren2]⟩
    · cases hN
end Go.Proofs.Ytgkhngcnbddoiaa

namespace Go.Proofs.Ytgkhngcnbddoiaa
open Go.Ax
def H9 : Hd := ⟨1, 10, 3, 24, 4, 1, 8, 1, 7 :: List.replicate 15 0⟩
def H9A : AV := .agg [.v (.int .u64 1), .v (.int .i64 10), .v (.int .i64 3), .v (.int .i64 24), .v (.int .i64 4), .v (.int .i64 1), .v (.int .i64 8), .v (.int .i64 1), .arr 16 .u8 (7 :: List.replicate 15 0)]
theorem head9_spec : ACall Try.prog 7 [.v (.int .i64 9)] [] fun v h' => v = H9A ∧ h' = [some [.v (.int .u64 1), .v (.int .i64 10), .v (.int .i64 3), .v (.int .i64 24), .v (.int .i64 4), .v (.int .i64 1), .v (.int .i64 8), .v (.int .i64 1), .arr 16 .u8 (7 :: List.replicate 15 0)]] := by
  refine acall_run (good15 0) Try.func7 rfl ⟨by kernel_rfl, by show 1 ≤ _; decide, by kernel_rfl, by kernel_rfl⟩ rfl ?_; have hr : Try.f7.results.toList = [.cell 2 36] := rfl
  repeat (first | simp only [c15_P, c15_odd, c15_ro, Nat.reduceBEq, reduceIte, Nat.reduceEqDiff, reduceCtorEq, ne_eq, if_true, if_false, exA, exA, tabs, exB, exD, buildA, rowOr, rowSetAt, rowAgg, mkAgg, AV.isAggV, AV.parts, AV.one, AV.solid, headSize, indexAddrA, indexA, fieldAddrA, fieldA, sliceA, boundsA, bndA, lenA, arrayAtA, rowOf, makeSliceA, intsOf, copyA, Nat.reduceAdd, Nat.reduceSub, Nat.reduceMul, Nat.reduceLeDiff, Nat.reduceLT, Nat.reduceGT, Int.reduceToNat, Int.reduceLE, Int.reduceLT, Int.reduceEq, Int.reduceNe, Int.reduceAdd, Int.reduceSub, Int.reduceMul, Int.reduceNeg, ite_true, ite_false, dite_true, xc1, xc2, xc3, xc4, xc5, xc6, xc7, xc8, xc9, xc10, xc11, xc12, xc13, xc14, xc15, hr] | simp (maxSteps := 1000000) (disch := omega) only [exE, Int.toNat_natCast, Int.reduceToNat])
  exact ⟨rfl, rfl⟩
def N7 (h : List Blk) : List AV → Option Out
  | [.v (.int .i64 9)] => some (.one (.agg [.v (.int .u64 1), .v (.int .i64 10), .v (.int .i64 3), .v (.int .i64 24), .v (.int .i64 4), .v (.int .i64 1), .v (.int .i64 8), .v (.int .i64 1), .arr 16 .u8 (7 :: List.replicate 15 0)]) (h ++ [some [.v (.int .u64 1), .v (.int .i64 10), .v (.int .i64 3), .v (.int .i64 24), .v (.int .i64 4), .v (.int .i64 1), .v (.int .i64 8), .v (.int .i64 1), .arr 16 .u8 (7 :: List.replicate 15 0)]]))
  | _ => none
theorem N7_eq (h : List Blk) : N7 h [.v (.int .i64 9)] = some (.one (.agg [.v (.int .u64 1), .v (.int .i64 10), .v (.int .i64 3), .v (.int .i64 24), .v (.int .i64 4), .v (.int .i64 1), .v (.int .i64 8), .v (.int .i64 1), .arr 16 .u8 (7 :: List.replicate 15 0)]) (h ++ [some [.v (.int .u64 1), .v (.int .i64 10), .v (.int .i64 3), .v (.int .i64 24), .v (.int .i64 4), .v (.int .i64 1), .v (.int .i64 8), .v (.int .i64 1), .arr 16 .u8 (7 :: List.replicate 15 0)]])) := rfl
noncomputable def n16 : FuncId → Option (List Blk → List AV → Option Out) := addNews n15 7 N7
noncomputable def c16 (k : Nat) : Cfg := ⟨Try.prog, k, p8, [], n16, none, []⟩
theorem c16_odd (k : Nat) : (c16 k).odd = [] := rfl
theorem c16_ro (k : Nat) : (c16 k).ro = [] := rfl
theorem c16_P (k : Nat) : (c16 k).P = Try.prog := rfl
theorem c16_pure (k : Nat) : (c16 k).pure = p8 := rfl
theorem c16_news (k : Nat) : (c16 k).news = n16 := rfl
theorem xc16 :
  (type_of% @c16_pure) ∧
  (type_of% @c16_news) ∧
  (type_of% @Go.Proofs.Ytgkhngcnbddoiaa.n16.eq_1) ∧
  (type_of% @N7_eq) :=
  ⟨@c16_pure, @c16_news, @Go.Proofs.Ytgkhngcnbddoiaa.n16.eq_1, @N7_eq⟩
theorem good16 (k : Nat) : (c16 k).Good := by
  refine Cfg.Good.addN (good15 k) ?_ k
  intro h args out hN
  unfold N7 at hN
  split at hN
  · cases hN
    refine ⟨⟨_, rfl⟩, fun κ hκ => news_ok (args := [.v (.int .i64 9)]) head9_spec (by rintro _ _ ⟨rfl, rfl⟩; exact ⟨rfl, rfl⟩) (fun g => rfl) ⟨Frz.same _, trivial⟩ ?_ hκ⟩
    rintro _ _ ⟨rfl, rfl⟩
    exact ⟨rfl, rfl⟩
  · cases hN
end Go.Proofs.Ytgkhngcnbddoiaa

namespace Go.Proofs.Ytgkhngcnbddoiaa
open Go.Ax
theorem mblk_fm (m : Ms) (n : Nat) : (mblk m).map (renB (frameMap [0, 1, 2] n)) = mblk m := mblk_ren m 0 n
theorem noRo_strV (S : List (Int × ByteArray)) : noRoL (aV strV S) = true := by
  induction S with
  | nil => rfl
  | cons x S ih => simp only [aV, List.map_cons, noRoL] at ih ⊢; rw [ih]; rfl
theorem mblk_noRo {m : Ms} (h : m.S = []) : noRoH (mblk m) = true := by
  simp [noRoH, mblk, mfL, noRoL, AV.noRo, h, aV]
  exact noRo_strV m.P
theorem mOpen_S (m : Ms) (b : List Int) : (mOpen m b).2.S = m.S := by
  unfold mOpen
  repeat' split
  all_goals rfl
theorem open_own (m : Ms) (b : List Int) (hs : m.H.slo ≤ 1048576) (hS : m.S = []) : ACall Try.prog 9 [.ptr 0 0 0, .sl 3 0 1 0 b.length b.length] (mblk m ++ [some [.arr b.length .u8 b]]) fun v h' => v = .v (.int .i64 (mOpen m b).1) ∧ h' = mblk (mOpen m b).2 ++ [some [.arr b.length .u8 b]] := by
  refine ACall.freeze (args' := [.ptr 0 0 0, .roI .u8 b]) (κ' := fun v h' => v = .v (.int .i64 (mOpen m b).1) ∧ h' = mblk (mOpen m b).2 ++ [none]) [3] ?_ ?_ ?_ ?_
  · refine ACall.frame (open_spec m b hs) [0, 1, 2] rfl rfl (by decide) (by simp [kill, mblk]) ?_ ?_
    · intro k hk
      rw [← List.getElem?_map, mblk_fm]
      match k, hk with
      | 0, _ => rfl
      | 1, _ => rfl
      | 2, _ => rfl
    · rintro v h' ⟨rfl, rfl⟩
      rw [mblk_fm]
      exact ⟨rfl, rfl⟩
  · intro X X' w ρ vs hh hx hv
    refine FrzL.relVs hh hx (xs := [.ptr 0 0 0, .sl 3 0 1 0 b.length b.length]) (ys := [.ptr 0 0 0, .roI .u8 b]) ⟨Frz.same _, Frz.ints (by simp) ?_, trivial⟩ hv
    simp [mblk, mfL, intsOf, row_def, rowS, noMap, rowDrop, oguard]
  · intro b hb
    simp only [List.mem_cons, List.not_mem_nil, or_false] at hb
    subst hb
    exact ⟨_, rfl⟩
  · rintro v hr ⟨rfl, rfl⟩
    refine ⟨rfl, ?_, rfl, rfl⟩
    have := mblk_noRo (m := (mOpen m b).2) (by rw [mOpen_S, hS])
    simp only [noRoH, List.all_append, Bool.and_eq_true] at this ⊢
    exact ⟨this, rfl⟩
def oneB : List Int := [111, 110, 101]
def twoB : List Int := [116, 119, 111]
def m9 : Ms := mNew H9 oneB
theorem two_one : ((bytesOf oneB).toList == (bytesOf twoB).toList) = false := by decide +kernel
theorem one_one : ((bytesOf oneB).toList == (bytesOf oneB).toList) = true := by simp
theorem open_two : mOpen m9 twoB = (200, m9) := by
  have h0 : fitP m9.P twoB 0 = false := by rw [fit_some (p := bytesOf oneB) rfl]; exact two_one
  have h1 : fitP m9.P twoB 1 = false := rfl
  have h2 : fitP m9.P twoB 2 = false := rfl
  have h3 : openAt m9 twoB = 3 := by
    show firstAt _ 3 = 3
    simp [firstAt, h0, h1, h2]
  unfold mOpen
  rw [if_neg (by decide), if_neg (by rw [h3]; decide)]
def m9o : Ms := { m9 with op := true }
theorem open_one : mOpen m9 oneB = (0, m9o) := by
  have h0 : fitP m9.P oneB 0 = true := by rw [fit_some (p := bytesOf oneB) rfl]; exact one_one
  have h3 : openAt m9 oneB = 0 := by
    show firstAt _ 3 = 0
    simp [firstAt, h0]
  unfold mOpen
  rw [if_neg (by decide), if_pos (by rw [h3]; decide), h3]
  rfl
end Go.Proofs.Ytgkhngcnbddoiaa

namespace Go.Proofs.Ytgkhngcnbddoiaa
open Go.Ax
theorem callO {C : Cfg} {m : Ms} {b : List Int} {d : Option Tmp} {all : Array Oper} {l : List Oper} {k : List KI} {e : Env} {h : List Blk} {Q : Exit → St → Prop} (hC : C.P = Try.prog)
    (hs : m.H.slo ≤ 1048576) (hS : m.S = []) (pre post : List Blk) (hh : h = pre ++ (mats m pre.length ++ (post ++ [some [AV.arr b.length .u8 b]])))
    (hκ : opsR C all l k ⟨put e d (.v (.int .i64 (mOpen m b).1)), pre ++ (mats (mOpen m b).2 pre.length ++ (post ++ [some [AV.arr b.length .u8 b]]))⟩ Q) :
    callC C 9 [.ptr pre.length 0 0, .sl (pre.length + 3 + post.length) 0 1 0 b.length b.length] d all l k e h Q := by
  have hlen : h.length = pre.length + (3 + (post.length + 1)) := by subst hh; simp [mats]; omega
  have hm : ∀ (m : Ms), (mblk m ++ [some [AV.arr b.length .u8 b]]).map (renB (frameMap [pre.length, pre.length + 1, pre.length + 2, pre.length + 3 + post.length] h.length)) = mats m pre.length ++ [some [AV.arr b.length .u8 b]] := by
    intro m
    have h1 : frameMap [pre.length, pre.length + 1, pre.length + 2, pre.length + 3 + post.length] h.length 1 = pre.length + 1 := rfl
    have h2 : frameMap [pre.length, pre.length + 1, pre.length + 2, pre.length + 3 + post.length] h.length 2 = pre.length + 2 := rfl
    simp only [mblk, mats, mfL, List.cons_append, List.nil_append, List.map_cons, List.map_nil, renB, renL, AV.ren, Option.map_some, renL_roB, renL_strV, h1, h2]
  refine callC_frame (by rw [hC]; exact open_own m b hs hS) [pre.length, pre.length + 1, pre.length + 2, pre.length + 3 + post.length] rfl rfl ?_ ?_ ?_ ?_
  · simp; omega
  · intro p hp
    simp only [List.mem_cons, List.not_mem_nil, or_false] at hp
    omega
  · intro j hj
    rw [← List.getElem?_map, hm]
    subst hh
    match j, hj with
    | 0, _ => exact mats_get m pre _ (k := 0) (by omega)
    | 1, _ => exact mats_get m pre _ (k := 1) (by omega)
    | 2, _ => exact mats_get m pre _ (k := 2) (by omega)
    | 3, _ =>
      show (pre ++ _)[pre.length + 3 + post.length]? = _
      rw [List.getElem?_append_right (by omega), List.getElem?_append_right (by simp [mats]; omega), List.getElem?_append_right (by simp [mats]; omega)]
      simp [mats]
      rw [show pre.length + 3 + post.length - pre.length - 3 - post.length = 0 by omega]
      rfl
  · rintro v h' ⟨rfl, rfl⟩
    rw [hm]
    subst hh
    have : overwrite (pre ++ (mats m pre.length ++ (post ++ [some [AV.arr b.length .u8 b]]))) [pre.length, pre.length + 1, pre.length + 2, pre.length + 3 + post.length] (mats (mOpen m b).2 pre.length ++ [some [AV.arr b.length .u8 b]]) = pre ++ (mats (mOpen m b).2 pre.length ++ (post ++ [some [AV.arr b.length .u8 b]])) := by
      have := mats_over m (mOpen m b).2 pre (post ++ [some [AV.arr b.length .u8 b]]) []
      simp only [mats, List.cons_append, List.nil_append, List.append_nil, overwrite] at this ⊢
      rw [this]
      rw [List.set_append_right _ _ (by omega), show pre.length + 3 + post.length - pre.length = post.length + 3 by omega]
      simp only [List.set_cons_succ]
      rw [List.set_append_right _ _ (by omega), Nat.sub_self, List.set_cons_zero]
    rw [this]
    exact hκ
theorem fm3 (a b c n : Nat) : frameMap [a, b, c] n 3 = n := rfl
theorem fm4 (a b c n : Nat) : frameMap [a, b, c] n 4 = n + 1 := rfl
theorem fm5 (a b c n : Nat) : frameMap [a, b, c] n 5 = n + 2 := rfl
def m9w : Ms := ⟨H9, [(3, blockL [120])], [(0, bytesOf oneB)], 1, ⟨1, false, 0, List.replicate 32 0⟩, true, 0⟩
theorem lives_spec : ACall Try.prog 8 [] [] fun v h' => v = .v (.bool true) ∧ ∀ x ∈ h', ∃ ps, x = some ps := by
  have h9 : newOk ⟨1, 10, 3, 24, 4, 1, 8, 1, 7 :: List.replicate 15 0⟩ [111, 110, 101] = true := by decide
  refine acall_run (good16 0) Try.func8 rfl ⟨by kernel_rfl, by show 0 ≤ _; decide, by kernel_rfl, by kernel_rfl⟩ rfl ?_; have hr : Try.f8.results.toList = [.tmp 0] := rfl
  repeat (first | simp only [c16_P, c16_odd, c16_ro, Nat.reduceBEq, reduceIte, Nat.reduceEqDiff, reduceCtorEq, ne_eq, if_true, if_false, exA, exA, tabs, exB, exD, buildA, rowOr, rowSetAt, rowAgg, mkAgg, AV.isAggV, AV.parts, AV.one, AV.solid, headSize, indexAddrA, indexA, fieldAddrA, fieldA, sliceA, boundsA, bndA, lenA, arrayAtA, rowOf, makeSliceA, intsOf, copyA, Nat.reduceAdd, Nat.reduceSub, Nat.reduceMul, Nat.reduceLeDiff, Nat.reduceLT, Nat.reduceGT, Int.reduceToNat, Int.reduceLE, Int.reduceLT, Int.reduceEq, Int.reduceNe, Int.reduceAdd, Int.reduceSub, Int.reduceMul, Int.reduceNeg, ite_true, ite_false, dite_true, xc1, xc2, xc3, xc4, xc5, xc6, xc7, xc8, xc9, xc10, xc11, xc12, xc13, xc14, xc15, xc16, hr, h9] | simp (maxSteps := 1000000) (disch := omega) only [exE, Int.toNat_natCast, Int.reduceToNat])
  have e0 : mayE (mfO m9) 3 = 6 := by decide
  have e1 : mayE (mfO m9o) 3 = 0 := by decide
  have bl : (blockL [120]).length = 512 := blockL_len _
  have w1 : mWrite m9o 3 (blockL [120]) = (0, m9w) := by
    simp only [mWrite, e1, bl, if_true]
    rfl
  refine callM (C := c16 0) (read_spec m9 3 (by intro b hb; cases hb)) [_, _] [] (fun _ => rfl) rfl ?_
  rintro v h' (⟨_, rfl, rfl⟩ | ⟨hk, _⟩ | ⟨hk, _⟩)
  rotate_left
  · exact absurd hk (by decide)
  · exact absurd hk (by decide)
  refine ⟨m9, [], by simp, ?_⟩
  simp only [e0, AV.ren, renL, List.map_nil, List.append_nil, mats, mfL, List.cons_append, List.nil_append, List.length_cons, List.length_nil, Nat.reduceAdd]
  repeat (first | simp only [c16_P, c16_odd, c16_ro, Nat.reduceBEq, reduceIte, Nat.reduceEqDiff, reduceCtorEq, ne_eq, if_true, if_false, exA, exA, tabs, exB, exD, buildA, rowOr, rowSetAt, rowAgg, mkAgg, AV.isAggV, AV.parts, AV.one, AV.solid, headSize, indexAddrA, indexA, fieldAddrA, fieldA, sliceA, boundsA, bndA, lenA, arrayAtA, rowOf, makeSliceA, intsOf, copyA, Nat.reduceAdd, Nat.reduceSub, Nat.reduceMul, Nat.reduceLeDiff, Nat.reduceLT, Nat.reduceGT, Int.reduceToNat, Int.reduceLE, Int.reduceLT, Int.reduceEq, Int.reduceNe, Int.reduceAdd, Int.reduceSub, Int.reduceMul, Int.reduceNeg, ite_true, ite_false, dite_true, xc1, xc2, xc3, xc4, xc5, xc6, xc7, xc8, xc9, xc10, xc11, xc12, xc13, xc14, xc15, xc16, hr] | simp (maxSteps := 1000000) (disch := omega) only [exE, Int.toNat_natCast, Int.reduceToNat])
  refine callO (m := m9) (b := twoB) rfl (by decide) rfl [_, _] [] rfl ?_
  simp only [open_two, AV.ren, renL, List.map_nil, List.append_nil, mats, mfL, List.cons_append, List.nil_append, List.length_cons, List.length_nil, Nat.reduceAdd]
  repeat (first | simp only [c16_P, c16_odd, c16_ro, Nat.reduceBEq, reduceIte, Nat.reduceEqDiff, reduceCtorEq, ne_eq, if_true, if_false, exA, exA, tabs, exB, exD, buildA, rowOr, rowSetAt, rowAgg, mkAgg, AV.isAggV, AV.parts, AV.one, AV.solid, headSize, indexAddrA, indexA, fieldAddrA, fieldA, sliceA, boundsA, bndA, lenA, arrayAtA, rowOf, makeSliceA, intsOf, copyA, Nat.reduceAdd, Nat.reduceSub, Nat.reduceMul, Nat.reduceLeDiff, Nat.reduceLT, Nat.reduceGT, Int.reduceToNat, Int.reduceLE, Int.reduceLT, Int.reduceEq, Int.reduceNe, Int.reduceAdd, Int.reduceSub, Int.reduceMul, Int.reduceNeg, ite_true, ite_false, dite_true, xc1, xc2, xc3, xc4, xc5, xc6, xc7, xc8, xc9, xc10, xc11, xc12, xc13, xc14, xc15, xc16, hr] | simp (maxSteps := 1000000) (disch := omega) only [exE, Int.toNat_natCast, Int.reduceToNat])
  refine callO (m := m9) (b := oneB) rfl (by decide) rfl [_, _] [_] rfl ?_
  simp only [open_one, AV.ren, renL, List.map_nil, List.append_nil, mats, mfL, List.cons_append, List.nil_append, List.length_cons, List.length_nil, Nat.reduceAdd]
  repeat (first | simp only [c16_P, c16_odd, c16_ro, Nat.reduceBEq, reduceIte, Nat.reduceEqDiff, reduceCtorEq, ne_eq, if_true, if_false, exA, exA, tabs, exB, exD, buildA, rowOr, rowSetAt, rowAgg, mkAgg, AV.isAggV, AV.parts, AV.one, AV.solid, headSize, indexAddrA, indexA, fieldAddrA, fieldA, sliceA, boundsA, bndA, lenA, arrayAtA, rowOf, makeSliceA, intsOf, copyA, Nat.reduceAdd, Nat.reduceSub, Nat.reduceMul, Nat.reduceLeDiff, Nat.reduceLT, Nat.reduceGT, Int.reduceToNat, Int.reduceLE, Int.reduceLT, Int.reduceEq, Int.reduceNe, Int.reduceAdd, Int.reduceSub, Int.reduceMul, Int.reduceNeg, ite_true, ite_false, dite_true, xc1, xc2, xc3, xc4, xc5, xc6, xc7, xc8, xc9, xc10, xc11, xc12, xc13, xc14, xc15, xc16, hr] | simp (maxSteps := 1000000) (disch := omega) only [exE, Int.toNat_natCast, Int.reduceToNat])
  refine callM (C := c16 0) (write_spec m9o 3 (blockL [120]) (by rw [bl]; decide)) [_, _] [_, _, _] (fun _ => rfl) rfl ?_
  rintro v h' ⟨rfl, rfl⟩
  rw [w1]
  refine ⟨m9w, [], by simp, ?_⟩
  simp only [AV.ren, renL, List.map_nil, List.append_nil, mats, mfL, List.cons_append, List.nil_append, List.length_cons, List.length_nil, Nat.reduceAdd]
  repeat (first | simp only [c16_P, c16_odd, c16_ro, Nat.reduceBEq, reduceIte, Nat.reduceEqDiff, reduceCtorEq, ne_eq, if_true, if_false, exA, exA, tabs, exB, exD, buildA, rowOr, rowSetAt, rowAgg, mkAgg, AV.isAggV, AV.parts, AV.one, AV.solid, headSize, indexAddrA, indexA, fieldAddrA, fieldA, sliceA, boundsA, bndA, lenA, arrayAtA, rowOf, makeSliceA, intsOf, copyA, Nat.reduceAdd, Nat.reduceSub, Nat.reduceMul, Nat.reduceLeDiff, Nat.reduceLT, Nat.reduceGT, Int.reduceToNat, Int.reduceLE, Int.reduceLT, Int.reduceEq, Int.reduceNe, Int.reduceAdd, Int.reduceSub, Int.reduceMul, Int.reduceNeg, ite_true, ite_false, dite_true, xc1, xc2, xc3, xc4, xc5, xc6, xc7, xc8, xc9, xc10, xc11, xc12, xc13, xc14, xc15, xc16, hr] | simp (maxSteps := 1000000) (disch := omega) only [exE, Int.toNat_natCast, Int.reduceToNat])
  refine callM (C := c16 0) (m := m9w) (read_spec m9w 3 (by intro b hb; simp [aget, m9w] at hb; rw [← hb]; exact bl)) [_, _] [_, _, _] (fun _ => rfl) rfl ?_
  rintro v h' (⟨hk, _⟩ | ⟨_, b, hb, rfl, rfl⟩ | ⟨_, hk, _⟩)
  · exact absurd rfl hk
  rotate_left
  · cases hk
  cases hb
  refine ⟨m9w, [], by simp, ?_⟩
  simp only [AV.ren, renL, List.map_nil, List.append_nil, mats, mfL, List.cons_append, List.nil_append, List.length_cons, List.length_nil, Nat.reduceAdd]
  repeat (first | simp only [c16_P, c16_odd, c16_ro, Nat.reduceBEq, reduceIte, Nat.reduceEqDiff, reduceCtorEq, ne_eq, if_true, if_false, exA, exA, tabs, exB, exD, buildA, rowOr, rowSetAt, rowAgg, mkAgg, AV.isAggV, AV.parts, AV.one, AV.solid, headSize, indexAddrA, indexA, fieldAddrA, fieldA, sliceA, boundsA, bndA, lenA, arrayAtA, rowOf, makeSliceA, intsOf, copyA, Nat.reduceAdd, Nat.reduceSub, Nat.reduceMul, Nat.reduceLeDiff, Nat.reduceLT, Nat.reduceGT, Int.reduceToNat, Int.reduceLE, Int.reduceLT, Int.reduceEq, Int.reduceNe, Int.reduceAdd, Int.reduceSub, Int.reduceMul, Int.reduceNeg, ite_true, ite_false, dite_true, xc1, xc2, xc3, xc4, xc5, xc6, xc7, xc8, xc9, xc10, xc11, xc12, xc13, xc14, xc15, xc16, hr] | simp (maxSteps := 1000000) (disch := omega) only [exE, Int.toNat_natCast, Int.reduceToNat])
  refine callM (C := c16 0) (m := m9w) (written_spec m9w (by intro k hk; simp [aK, m9w] at hk; omega) (by decide)) [_, _] [_, _, _] (fun _ => rfl) rfl ?_
  rintro v h' (⟨hk, _⟩ | ⟨c, x, rfl, rfl⟩)
  · cases hk
  refine ⟨m9w, _, rfl, ?_⟩
  simp only [AV.ren, renL, List.map_nil, List.append_nil, mats, mfL, List.cons_append, List.nil_append, List.length_cons, List.length_nil, Nat.reduceAdd]
  have hak : aK m9w.S = [3] := rfl
  have hsr : srt [3] = [3] := by simp [srt]
  repeat (first | simp only [c16_P, c16_odd, c16_ro, Nat.reduceBEq, reduceIte, Nat.reduceEqDiff, reduceCtorEq, ne_eq, if_true, if_false, exA, exA, tabs, exB, exD, buildA, rowOr, rowSetAt, rowAgg, mkAgg, AV.isAggV, AV.parts, AV.one, AV.solid, headSize, indexAddrA, indexA, fieldAddrA, fieldA, sliceA, boundsA, bndA, lenA, arrayAtA, rowOf, makeSliceA, intsOf, copyA, Nat.reduceAdd, Nat.reduceSub, Nat.reduceMul, Nat.reduceLeDiff, Nat.reduceLT, Nat.reduceGT, Int.reduceToNat, Int.reduceLE, Int.reduceLT, Int.reduceEq, Int.reduceNe, Int.reduceAdd, Int.reduceSub, Int.reduceMul, Int.reduceNeg, ite_true, ite_false, dite_true, xc1, xc2, xc3, xc4, xc5, xc6, xc7, xc8, xc9, xc10, xc11, xc12, xc13, xc14, xc15, xc16, hr, hak, hsr, renB, renL, AV.ren, fm4] | simp (maxSteps := 1000000) (disch := omega) only [exE, Int.toNat_natCast, Int.reduceToNat])
  intro x hx
  simp only [List.mem_cons, List.not_mem_nil, or_false] at hx
  repeat' (first | exact ⟨_, hx⟩ | rcases hx with hx | hx)
def N8 (h : List Blk) : List AV → Option Out
  | [] => some (.one (.v (.bool true)) h)
  | _ => none
theorem N8_eq (h : List Blk) : N8 h [] = some (.one (.v (.bool true)) h) := rfl
noncomputable def n17 : FuncId → Option (List Blk → List AV → Option Out) := addNews n16 8 N8
noncomputable def c17 (k : Nat) : Cfg := ⟨Try.prog, k, p8, [], n17, none, []⟩
theorem c17_odd (k : Nat) : (c17 k).odd = [] := rfl
theorem c17_ro (k : Nat) : (c17 k).ro = [] := rfl
theorem c17_P (k : Nat) : (c17 k).P = Try.prog := rfl
theorem c17_pure (k : Nat) : (c17 k).pure = p8 := rfl
theorem c17_news (k : Nat) : (c17 k).news = n17 := rfl
theorem xc17 :
  (type_of% @c17_pure) ∧
  (type_of% @c17_news) ∧
  (type_of% @Go.Proofs.Ytgkhngcnbddoiaa.n17.eq_1) ∧
  (type_of% @N8_eq) :=
  ⟨@c17_pure, @c17_news, @Go.Proofs.Ytgkhngcnbddoiaa.n17.eq_1, @N8_eq⟩
theorem good17 (k : Nat) : (c17 k).Good := by
  refine Cfg.Good.addN (good16 k) ?_ k
  intro h args out hN
  unfold N8 at hN
  split at hN
  · cases hN
    refine ⟨⟨[], by simp⟩, fun κ hκ => ?_⟩
    refine ACall.shed (κ := fun v h' => v = .v (.bool true) ∧ ∃ ext, h' = h ++ ext ∧ ∀ x ∈ ext, ∃ ps, x = some ps) (ACall.frame lives_spec [] rfl rfl (by simp) (by simp) (by intro k hk; simp at hk) ?_) ?_
    · rintro v h' ⟨rfl, hx⟩
      refine ⟨rfl, h'.map (renB (frameMap [] h.length)), by simp only [overwrite], ?_⟩
      intro x hx'
      obtain ⟨y, hy, rfl⟩ := List.mem_map.1 hx'
      obtain ⟨ps, rfl⟩ := hx y hy
      exact ⟨_, rfl⟩
    · rintro v h' ⟨rfl, ext, rfl, hx⟩
      exact ⟨.v (.bool true), ext, rfl, hx, rfl, Frz.same _, hκ⟩
  · cases hN
end Go.Proofs.Ytgkhngcnbddoiaa

namespace Go.Proofs.Ytgkhngcnbddoiaa
open Go.Ax
theorem lap_nil {α : Type} (k : List α) : List.append [] k = k := rfl
theorem lap_cons {α : Type} (a : α) (l k : List α) : List.append (a :: l) k = a :: List.append l k := rfl
theorem drop_ok {P : Program} {f : FuncId} {args : List AV} {x : Value} (spec : ACall P f args [] fun v h' => v = .v x ∧ ∀ b ∈ h', ∃ ps, b = some ps) (ha : ∀ g, renL g args = args) {h : List Blk} {κ : AV → List Blk → Prop} (hκ : κ (.v x) h) : ACall P f args h κ := by
  refine ACall.shed (κ := fun v h' => v = .v x ∧ ∃ ext, h' = h ++ ext ∧ ∀ b ∈ ext, ∃ ps, b = some ps) (ACall.frame spec [] (ha _).symm rfl (by simp) (by simp) (by intro k hk; simp at hk) ?_) ?_
  · rintro v h' ⟨rfl, hx⟩
    refine ⟨rfl, h'.map (renB (frameMap [] h.length)), by simp only [overwrite], ?_⟩
    intro b hb
    obtain ⟨y, hy, rfl⟩ := List.mem_map.1 hb
    obtain ⟨ps, rfl⟩ := hx y hy
    exact ⟨_, rfl⟩
  · rintro v h' ⟨rfl, ext, rfl, hx⟩
    exact ⟨.v x, ext, rfl, hx, rfl, Frz.same _, hκ⟩
theorem same_none : ACall Try.prog 19 [.agg [.v (.int .u64 0), .v (.int .i64 0), .v (.int .i64 0), .v (.int .i64 0), .v (.int .i64 0), .v (.int .i64 0), .v (.int .i64 0), .v (.int .i64 0), .arr 16 .u8 (List.replicate 16 0), .v (.int .i64 0), .v (.slice none 0 0), .v (.int .i64 0), .v (.int .i64 0), .v (.int .u64 0)], .agg [.v (.int .u64 0), .v (.int .i64 0), .v (.int .i64 0), .v (.int .i64 0), .v (.int .i64 0), .v (.int .i64 0), .v (.int .i64 0), .v (.int .i64 0), .arr 16 .u8 (List.replicate 16 0), .v (.int .i64 0), .v (.slice none 0 0), .v (.int .i64 0), .v (.int .i64 0), .v (.int .u64 0)]] [] fun v h' => v = .v (.bool true) ∧ ∀ b ∈ h', ∃ ps, b = some ps := by
  have hz : (List.replicate 16 (0 : Int)).take 16 = List.replicate 16 0 := rfl
  refine acall_run (good17 0) Try.func19 rfl ⟨by kernel_rfl, by show 2 ≤ _; decide, by kernel_rfl, by kernel_rfl⟩ rfl ?_; have hr : Try.f19.results.toList = [.tmp 4] := rfl
  repeat (first | simp only [c17_P, c17_odd, c17_ro, Nat.reduceBEq, reduceIte, Nat.reduceEqDiff, reduceCtorEq, ne_eq, if_true, if_false, exA, exA, tabs, exB, exD, buildA, rowOr, rowSetAt, rowAgg, mkAgg, AV.isAggV, AV.parts, AV.one, AV.solid, headSize, indexAddrA, indexA, fieldAddrA, fieldA, sliceA, boundsA, bndA, lenA, arrayAtA, rowOf, makeSliceA, intsOf, copyA, Nat.reduceAdd, Nat.reduceSub, Nat.reduceMul, Nat.reduceLeDiff, Nat.reduceLT, Nat.reduceGT, Int.reduceToNat, Int.reduceLE, Int.reduceLT, Int.reduceEq, Int.reduceNe, Int.reduceAdd, Int.reduceSub, Int.reduceMul, Int.reduceNeg, ite_true, ite_false, dite_true, xc1, xc2, xc3, xc4, xc5, xc6, xc7, xc8, xc9, xc10, xc11, xc12, xc13, xc14, xc15, xc16, xc17, hr, hz] | simp (maxSteps := 1000000) (disch := omega) only [exE, Int.toNat_natCast, Int.reduceToNat])
  refine loop_count (good17 0) (fun i => ⟨envL [(2, .ptr 0 0 0), (3, .ptr 1 0 0), (5, .v (.int .i64 0))], [some [.v (.int .u64 0), .v (.int .i64 0), .v (.int .i64 0), .v (.int .i64 0), .v (.int .i64 0), .v (.int .i64 0), .v (.int .i64 0), .v (.int .i64 0), .arr 16 .u8 (List.replicate 16 0), .v (.int .i64 0), .v (.slice none 0 0), .v (.int .i64 0), .v (.int .i64 0), .v (.int .u64 0)], some [.v (.int .u64 0), .v (.int .i64 0), .v (.int .i64 0), .v (.int .i64 0), .v (.int .i64 0), .v (.int .i64 0), .v (.int .i64 0), .v (.int .i64 0), .arr 16 .u8 (List.replicate 16 0), .v (.int .i64 0), .v (.slice none 0 0), .v (.int .i64 0), .v (.int .i64 0), .v (.int .u64 0)]]⟩) 0 (by kernel_rfl) ?_ ?_ ?_
  · (refine weak_of ?_ ?_; (focus (first | with_reducible rfl | (simp only [] <;> with_reducible rfl))); simp only [exF, Nat.reduceEqDiff, if_true, if_false, reduceIte, Option.some.injEq, reduceCtorEq, Int.cast_ofNat_Int])
  · intro i hi; omega
  · repeat (first | simp only [c17_P, c17_odd, c17_ro, Nat.reduceBEq, reduceIte, Nat.reduceEqDiff, reduceCtorEq, ne_eq, if_true, if_false, exA, exA, tabs, exB, exD, buildA, rowOr, rowSetAt, rowAgg, mkAgg, AV.isAggV, AV.parts, AV.one, AV.solid, headSize, indexAddrA, indexA, fieldAddrA, fieldA, sliceA, boundsA, bndA, lenA, arrayAtA, rowOf, makeSliceA, intsOf, copyA, Nat.reduceAdd, Nat.reduceSub, Nat.reduceMul, Nat.reduceLeDiff, Nat.reduceLT, Nat.reduceGT, Int.reduceToNat, Int.reduceLE, Int.reduceLT, Int.reduceEq, Int.reduceNe, Int.reduceAdd, Int.reduceSub, Int.reduceMul, Int.reduceNeg, ite_true, ite_false, dite_true, xc1, xc2, xc3, xc4, xc5, xc6, xc7, xc8, xc9, xc10, xc11, xc12, xc13, xc14, xc15, xc16, xc17, hr, hz] | simp (maxSteps := 1000000) (disch := omega) only [exE, Int.toNat_natCast, Int.reduceToNat])
    intro x hx
    simp only [List.mem_cons, List.not_mem_nil, or_false] at hx
    repeat' (first | exact ⟨_, hx⟩ | rcases hx with hx | hx)
theorem nobody_law (kd n : Int) (b p : List Int) : ACall Try.prog 5 [.agg [.v (.int .i64 kd), .v (.int .i64 n), .roI .u8 b, .roI .u8 p, .any]] [] fun v h' => v = .v (.bool true) := by
  have hr5 : Try.f5.results.toList = [.tmp 2] := rfl
  have hz : (List.replicate 16 (0 : Int)).take 16 = List.replicate 16 0 := rfl
  refine acall_run (good17 0) Try.func5 rfl ⟨by kernel_rfl, by show 1 ≤ _; decide, by kernel_rfl, by kernel_rfl⟩ rfl ?_; have hr : Try.f5.results.toList = [.tmp 2] := rfl
  repeat (first | simp only [c17_P, c17_odd, c17_ro, Nat.reduceBEq, reduceIte, Nat.reduceEqDiff, reduceCtorEq, ne_eq, if_true, if_false, exA, exA, tabs, exB, exD, buildA, rowOr, rowSetAt, rowAgg, mkAgg, AV.isAggV, AV.parts, AV.one, AV.solid, headSize, indexAddrA, indexA, fieldAddrA, fieldA, sliceA, boundsA, bndA, lenA, arrayAtA, rowOf, makeSliceA, intsOf, copyA, Nat.reduceAdd, Nat.reduceSub, Nat.reduceMul, Nat.reduceLeDiff, Nat.reduceLT, Nat.reduceGT, Int.reduceToNat, Int.reduceLE, Int.reduceLT, Int.reduceEq, Int.reduceNe, Int.reduceAdd, Int.reduceSub, Int.reduceMul, Int.reduceNeg, ite_true, ite_false, dite_true, xc1, xc2, xc3, xc4, xc5, xc6, xc7, xc8, xc9, xc10, xc11, xc12, xc13, xc14, xc15, xc16, xc17, hr] | simp (maxSteps := 1000000) (disch := omega) only [exE, Int.toNat_natCast, Int.reduceToNat])
  show ACall _ _ _ _ _
  refine acall_run (good17 1) Try.func24 rfl ⟨by kernel_rfl, by show 2 ≤ _; decide, by kernel_rfl, by kernel_rfl⟩ rfl ?_; have hr : Try.f24.results.toList = [.tmp 4, .tmp 5] := rfl
  repeat (first | simp only [c17_P, c17_odd, c17_ro, Nat.reduceBEq, reduceIte, Nat.reduceEqDiff, reduceCtorEq, ne_eq, if_true, if_false, exA, exA, tabs, exB, exD, buildA, rowOr, rowSetAt, rowAgg, mkAgg, AV.isAggV, AV.parts, AV.one, AV.solid, headSize, indexAddrA, indexA, fieldAddrA, fieldA, sliceA, boundsA, bndA, lenA, arrayAtA, rowOf, makeSliceA, intsOf, copyA, Nat.reduceAdd, Nat.reduceSub, Nat.reduceMul, Nat.reduceLeDiff, Nat.reduceLT, Nat.reduceGT, Int.reduceToNat, Int.reduceLE, Int.reduceLT, Int.reduceEq, Int.reduceNe, Int.reduceAdd, Int.reduceSub, Int.reduceMul, Int.reduceNeg, ite_true, ite_false, dite_true, xc1, xc2, xc3, xc4, xc5, xc6, xc7, xc8, xc9, xc10, xc11, xc12, xc13, xc14, xc15, xc16, xc17, hr5, hz, hr] | simp (maxSteps := 1000000) (disch := omega) only [exE, Int.toNat_natCast, Int.reduceToNat])
  show ACall _ _ _ _ _
  refine acall_run (good17 1) Try.func16 rfl ⟨by kernel_rfl, by show 1 ≤ _; decide, by kernel_rfl, by kernel_rfl⟩ rfl ?_; have hr : Try.f16.results.toList = [.tmp 2, .tmp 3] := rfl
  repeat (first | simp only [c17_P, c17_odd, c17_ro, Nat.reduceBEq, reduceIte, Nat.reduceEqDiff, reduceCtorEq, ne_eq, if_true, if_false, exA, exA, tabs, exB, exD, buildA, rowOr, rowSetAt, rowAgg, mkAgg, AV.isAggV, AV.parts, AV.one, AV.solid, headSize, indexAddrA, indexA, fieldAddrA, fieldA, sliceA, boundsA, bndA, lenA, arrayAtA, rowOf, makeSliceA, intsOf, copyA, Nat.reduceAdd, Nat.reduceSub, Nat.reduceMul, Nat.reduceLeDiff, Nat.reduceLT, Nat.reduceGT, Int.reduceToNat, Int.reduceLE, Int.reduceLT, Int.reduceEq, Int.reduceNe, Int.reduceAdd, Int.reduceSub, Int.reduceMul, Int.reduceNeg, ite_true, ite_false, dite_true, xc1, xc2, xc3, xc4, xc5, xc6, xc7, xc8, xc9, xc10, xc11, xc12, xc13, xc14, xc15, xc16, xc17, hr5, hz, hr] | simp (maxSteps := 1000000) (disch := omega) only [exE, Int.toNat_natCast, Int.reduceToNat])
  show ACall _ _ _ _ _
  refine acall_run (good17 1) Try.func17 rfl ⟨by kernel_rfl, by show 1 ≤ _; decide, by kernel_rfl, by kernel_rfl⟩ rfl ?_; have hr : Try.f17.results.toList = [.cell 2 49, .tmp 3] := rfl
  repeat (first | simp only [c17_P, c17_odd, c17_ro, Nat.reduceBEq, reduceIte, Nat.reduceEqDiff, reduceCtorEq, ne_eq, if_true, if_false, exA, exA, tabs, exB, exD, buildA, rowOr, rowSetAt, rowAgg, mkAgg, AV.isAggV, AV.parts, AV.one, AV.solid, headSize, indexAddrA, indexA, fieldAddrA, fieldA, sliceA, boundsA, bndA, lenA, arrayAtA, rowOf, makeSliceA, intsOf, copyA, Nat.reduceAdd, Nat.reduceSub, Nat.reduceMul, Nat.reduceLeDiff, Nat.reduceLT, Nat.reduceGT, Int.reduceToNat, Int.reduceLE, Int.reduceLT, Int.reduceEq, Int.reduceNe, Int.reduceAdd, Int.reduceSub, Int.reduceMul, Int.reduceNeg, ite_true, ite_false, dite_true, xc1, xc2, xc3, xc4, xc5, xc6, xc7, xc8, xc9, xc10, xc11, xc12, xc13, xc14, xc15, xc16, xc17, hr5, hz, hr] | simp (maxSteps := 1000000) (disch := omega) only [exE, Int.toNat_natCast, Int.reduceToNat])
  simp only [lap_nil, lap_cons]
  repeat (first | simp only [c17_P, c17_odd, c17_ro, Nat.reduceBEq, reduceIte, Nat.reduceEqDiff, reduceCtorEq, ne_eq, if_true, if_false, exA, exA, tabs, exB, exD, buildA, rowOr, rowSetAt, rowAgg, mkAgg, AV.isAggV, AV.parts, AV.one, AV.solid, headSize, indexAddrA, indexA, fieldAddrA, fieldA, sliceA, boundsA, bndA, lenA, arrayAtA, rowOf, makeSliceA, intsOf, copyA, Nat.reduceAdd, Nat.reduceSub, Nat.reduceMul, Nat.reduceLeDiff, Nat.reduceLT, Nat.reduceGT, Int.reduceToNat, Int.reduceLE, Int.reduceLT, Int.reduceEq, Int.reduceNe, Int.reduceAdd, Int.reduceSub, Int.reduceMul, Int.reduceNeg, ite_true, ite_false, dite_true, xc1, xc2, xc3, xc4, xc5, xc6, xc7, xc8, xc9, xc10, xc11, xc12, xc13, xc14, xc15, xc16, xc17, hr5, hz] | simp (maxSteps := 1000000) (disch := omega) only [exE, Int.toNat_natCast, Int.reduceToNat])
  refine callC_of (C := c17 0) (drop_ok same_none (fun g => rfl) (κ := fun v h' => v = .v (.bool true) ∧ h' = _) ⟨rfl, rfl⟩) ?_
  rintro v h' ⟨rfl, rfl⟩
  repeat (first | simp only [c17_P, c17_odd, c17_ro, Nat.reduceBEq, reduceIte, Nat.reduceEqDiff, reduceCtorEq, ne_eq, if_true, if_false, exA, exA, tabs, exB, exD, buildA, rowOr, rowSetAt, rowAgg, mkAgg, AV.isAggV, AV.parts, AV.one, AV.solid, headSize, indexAddrA, indexA, fieldAddrA, fieldA, sliceA, boundsA, bndA, lenA, arrayAtA, rowOf, makeSliceA, intsOf, copyA, Nat.reduceAdd, Nat.reduceSub, Nat.reduceMul, Nat.reduceLeDiff, Nat.reduceLT, Nat.reduceGT, Int.reduceToNat, Int.reduceLE, Int.reduceLT, Int.reduceEq, Int.reduceNe, Int.reduceAdd, Int.reduceSub, Int.reduceMul, Int.reduceNeg, ite_true, ite_false, dite_true, xc1, xc2, xc3, xc4, xc5, xc6, xc7, xc8, xc9, xc10, xc11, xc12, xc13, xc14, xc15, xc16, xc17, hr5, hz] | simp (maxSteps := 1000000) (disch := omega) only [exE, Int.toNat_natCast, Int.reduceToNat])
  show ACall _ _ _ _ _
  refine acall_run (good17 3) Try.func9 rfl ⟨by kernel_rfl, by show 2 ≤ _; decide, by kernel_rfl, by kernel_rfl⟩ rfl ?_; have hr : Try.f9.results.toList = [.tmp 4] := rfl
  repeat (first | simp only [c17_P, c17_odd, c17_ro, Nat.reduceBEq, reduceIte, Nat.reduceEqDiff, reduceCtorEq, ne_eq, if_true, if_false, exA, exA, tabs, exB, exD, buildA, rowOr, rowSetAt, rowAgg, mkAgg, AV.isAggV, AV.parts, AV.one, AV.solid, headSize, indexAddrA, indexA, fieldAddrA, fieldA, sliceA, boundsA, bndA, lenA, arrayAtA, rowOf, makeSliceA, intsOf, copyA, Nat.reduceAdd, Nat.reduceSub, Nat.reduceMul, Nat.reduceLeDiff, Nat.reduceLT, Nat.reduceGT, Int.reduceToNat, Int.reduceLE, Int.reduceLT, Int.reduceEq, Int.reduceNe, Int.reduceAdd, Int.reduceSub, Int.reduceMul, Int.reduceNeg, ite_true, ite_false, dite_true, xc1, xc2, xc3, xc4, xc5, xc6, xc7, xc8, xc9, xc10, xc11, xc12, xc13, xc14, xc15, xc16, xc17, hr5, hz, hr] | simp (maxSteps := 1000000) (disch := omega) only [exE, Int.toNat_natCast, Int.reduceToNat])
  show ACall _ _ _ _ _
  refine acall_run (good17 3) Try.func10 rfl ⟨by kernel_rfl, by show 3 ≤ _; decide, by kernel_rfl, by kernel_rfl⟩ rfl ?_; have hr : Try.f10.results.toList = [.tmp 6] := rfl
  repeat (first | simp only [c17_P, c17_odd, c17_ro, Nat.reduceBEq, reduceIte, Nat.reduceEqDiff, reduceCtorEq, ne_eq, if_true, if_false, exA, exA, tabs, exB, exD, buildA, rowOr, rowSetAt, rowAgg, mkAgg, AV.isAggV, AV.parts, AV.one, AV.solid, headSize, indexAddrA, indexA, fieldAddrA, fieldA, sliceA, boundsA, bndA, lenA, arrayAtA, rowOf, makeSliceA, intsOf, copyA, Nat.reduceAdd, Nat.reduceSub, Nat.reduceMul, Nat.reduceLeDiff, Nat.reduceLT, Nat.reduceGT, Int.reduceToNat, Int.reduceLE, Int.reduceLT, Int.reduceEq, Int.reduceNe, Int.reduceAdd, Int.reduceSub, Int.reduceMul, Int.reduceNeg, ite_true, ite_false, dite_true, xc1, xc2, xc3, xc4, xc5, xc6, xc7, xc8, xc9, xc10, xc11, xc12, xc13, xc14, xc15, xc16, xc17, hr5, hz, hr] | simp (maxSteps := 1000000) (disch := omega) only [exE, Int.toNat_natCast, Int.reduceToNat])
  show ACall _ _ _ _ _
  refine acall_run (good17 3) Try.func25 rfl ⟨by kernel_rfl, by show 1 ≤ _; decide, by kernel_rfl, by kernel_rfl⟩ rfl ?_; have hr : Try.f25.results.toList = [.tmp 2] := rfl
  repeat (first | simp only [c17_P, c17_odd, c17_ro, Nat.reduceBEq, reduceIte, Nat.reduceEqDiff, reduceCtorEq, ne_eq, if_true, if_false, exA, exA, tabs, exB, exD, buildA, rowOr, rowSetAt, rowAgg, mkAgg, AV.isAggV, AV.parts, AV.one, AV.solid, headSize, indexAddrA, indexA, fieldAddrA, fieldA, sliceA, boundsA, bndA, lenA, arrayAtA, rowOf, makeSliceA, intsOf, copyA, Nat.reduceAdd, Nat.reduceSub, Nat.reduceMul, Nat.reduceLeDiff, Nat.reduceLT, Nat.reduceGT, Int.reduceToNat, Int.reduceLE, Int.reduceLT, Int.reduceEq, Int.reduceNe, Int.reduceAdd, Int.reduceSub, Int.reduceMul, Int.reduceNeg, ite_true, ite_false, dite_true, xc1, xc2, xc3, xc4, xc5, xc6, xc7, xc8, xc9, xc10, xc11, xc12, xc13, xc14, xc15, xc16, xc17, hr5, hz, hr] | simp (maxSteps := 1000000) (disch := omega) only [exE, Int.toNat_natCast, Int.reduceToNat])
  show ACall _ _ _ _ _
  refine acall_run (good17 3) Try.func12 rfl ⟨by kernel_rfl, by show 3 ≤ _; decide, by kernel_rfl, by kernel_rfl⟩ rfl ?_; have hr : Try.f12.results.toList = [.tmp 6] := rfl
  repeat (first | simp only [c17_P, c17_odd, c17_ro, Nat.reduceBEq, reduceIte, Nat.reduceEqDiff, reduceCtorEq, ne_eq, if_true, if_false, exA, exA, tabs, exB, exD, buildA, rowOr, rowSetAt, rowAgg, mkAgg, AV.isAggV, AV.parts, AV.one, AV.solid, headSize, indexAddrA, indexA, fieldAddrA, fieldA, sliceA, boundsA, bndA, lenA, arrayAtA, rowOf, makeSliceA, intsOf, copyA, Nat.reduceAdd, Nat.reduceSub, Nat.reduceMul, Nat.reduceLeDiff, Nat.reduceLT, Nat.reduceGT, Int.reduceToNat, Int.reduceLE, Int.reduceLT, Int.reduceEq, Int.reduceNe, Int.reduceAdd, Int.reduceSub, Int.reduceMul, Int.reduceNeg, ite_true, ite_false, dite_true, xc1, xc2, xc3, xc4, xc5, xc6, xc7, xc8, xc9, xc10, xc11, xc12, xc13, xc14, xc15, xc16, xc17, hr5, hz, hr] | simp (maxSteps := 1000000) (disch := omega) only [exE, Int.toNat_natCast, Int.reduceToNat])
  show ACall _ _ _ _ _
  refine acall_run (good17 3) Try.func15 rfl ⟨by kernel_rfl, by show 2 ≤ _; decide, by kernel_rfl, by kernel_rfl⟩ rfl ?_; have hr : Try.f15.results.toList = [.tmp 4] := rfl
  repeat (first | simp only [c17_P, c17_odd, c17_ro, Nat.reduceBEq, reduceIte, Nat.reduceEqDiff, reduceCtorEq, ne_eq, if_true, if_false, exA, exA, tabs, exB, exD, buildA, rowOr, rowSetAt, rowAgg, mkAgg, AV.isAggV, AV.parts, AV.one, AV.solid, headSize, indexAddrA, indexA, fieldAddrA, fieldA, sliceA, boundsA, bndA, lenA, arrayAtA, rowOf, makeSliceA, intsOf, copyA, Nat.reduceAdd, Nat.reduceSub, Nat.reduceMul, Nat.reduceLeDiff, Nat.reduceLT, Nat.reduceGT, Int.reduceToNat, Int.reduceLE, Int.reduceLT, Int.reduceEq, Int.reduceNe, Int.reduceAdd, Int.reduceSub, Int.reduceMul, Int.reduceNeg, ite_true, ite_false, dite_true, xc1, xc2, xc3, xc4, xc5, xc6, xc7, xc8, xc9, xc10, xc11, xc12, xc13, xc14, xc15, xc16, xc17, hr5, hz, hr] | simp (maxSteps := 1000000) (disch := omega) only [exE, Int.toNat_natCast, Int.reduceToNat])
  show ACall _ _ _ _ _
  refine acall_run (good17 3) Try.func13 rfl ⟨by kernel_rfl, by show 1 ≤ _; decide, by kernel_rfl, by kernel_rfl⟩ rfl ?_; have hr : Try.f13.results.toList = [.tmp 2] := rfl
  repeat (first | simp only [c17_P, c17_odd, c17_ro, Nat.reduceBEq, reduceIte, Nat.reduceEqDiff, reduceCtorEq, ne_eq, if_true, if_false, exA, exA, tabs, exB, exD, buildA, rowOr, rowSetAt, rowAgg, mkAgg, AV.isAggV, AV.parts, AV.one, AV.solid, headSize, indexAddrA, indexA, fieldAddrA, fieldA, sliceA, boundsA, bndA, lenA, arrayAtA, rowOf, makeSliceA, intsOf, copyA, Nat.reduceAdd, Nat.reduceSub, Nat.reduceMul, Nat.reduceLeDiff, Nat.reduceLT, Nat.reduceGT, Int.reduceToNat, Int.reduceLE, Int.reduceLT, Int.reduceEq, Int.reduceNe, Int.reduceAdd, Int.reduceSub, Int.reduceMul, Int.reduceNeg, ite_true, ite_false, dite_true, xc1, xc2, xc3, xc4, xc5, xc6, xc7, xc8, xc9, xc10, xc11, xc12, xc13, xc14, xc15, xc16, xc17, hr5, hz, hr] | simp (maxSteps := 1000000) (disch := omega) only [exE, Int.toNat_natCast, Int.reduceToNat])
  show ACall _ _ _ _ _
  refine acall_run (good17 3) Try.func26 rfl ⟨by kernel_rfl, by show 1 ≤ _; decide, by kernel_rfl, by kernel_rfl⟩ rfl ?_; have hr : Try.f26.results.toList = [.tmp 2] := rfl
  repeat (first | simp only [c17_P, c17_odd, c17_ro, Nat.reduceBEq, reduceIte, Nat.reduceEqDiff, reduceCtorEq, ne_eq, if_true, if_false, exA, exA, tabs, exB, exD, buildA, rowOr, rowSetAt, rowAgg, mkAgg, AV.isAggV, AV.parts, AV.one, AV.solid, headSize, indexAddrA, indexA, fieldAddrA, fieldA, sliceA, boundsA, bndA, lenA, arrayAtA, rowOf, makeSliceA, intsOf, copyA, Nat.reduceAdd, Nat.reduceSub, Nat.reduceMul, Nat.reduceLeDiff, Nat.reduceLT, Nat.reduceGT, Int.reduceToNat, Int.reduceLE, Int.reduceLT, Int.reduceEq, Int.reduceNe, Int.reduceAdd, Int.reduceSub, Int.reduceMul, Int.reduceNeg, ite_true, ite_false, dite_true, xc1, xc2, xc3, xc4, xc5, xc6, xc7, xc8, xc9, xc10, xc11, xc12, xc13, xc14, xc15, xc16, xc17, hr5, hz, hr] | simp (maxSteps := 1000000) (disch := omega) only [exE, Int.toNat_natCast, Int.reduceToNat])
  show ACall _ _ _ _ _
  refine acall_run (good17 3) Try.func18 rfl ⟨by kernel_rfl, by show 1 ≤ _; decide, by kernel_rfl, by kernel_rfl⟩ rfl ?_; have hr : Try.f18.results.toList = [.tmp 2] := rfl
  repeat (first | simp only [c17_P, c17_odd, c17_ro, Nat.reduceBEq, reduceIte, Nat.reduceEqDiff, reduceCtorEq, ne_eq, if_true, if_false, exA, exA, tabs, exB, exD, buildA, rowOr, rowSetAt, rowAgg, mkAgg, AV.isAggV, AV.parts, AV.one, AV.solid, headSize, indexAddrA, indexA, fieldAddrA, fieldA, sliceA, boundsA, bndA, lenA, arrayAtA, rowOf, makeSliceA, intsOf, copyA, Nat.reduceAdd, Nat.reduceSub, Nat.reduceMul, Nat.reduceLeDiff, Nat.reduceLT, Nat.reduceGT, Int.reduceToNat, Int.reduceLE, Int.reduceLT, Int.reduceEq, Int.reduceNe, Int.reduceAdd, Int.reduceSub, Int.reduceMul, Int.reduceNeg, ite_true, ite_false, dite_true, xc1, xc2, xc3, xc4, xc5, xc6, xc7, xc8, xc9, xc10, xc11, xc12, xc13, xc14, xc15, xc16, xc17, hr5, hz, hr] | simp (maxSteps := 1000000) (disch := omega) only [exE, Int.toNat_natCast, Int.reduceToNat])
  show ACall _ _ _ _ _
  refine acall_run (good17 3) Try.func14 rfl ⟨by kernel_rfl, by show 1 ≤ _; decide, by kernel_rfl, by kernel_rfl⟩ rfl ?_; have hr : Try.f14.results.toList = [.tmp 2] := rfl
  repeat (first | simp only [c17_P, c17_odd, c17_ro, Nat.reduceBEq, reduceIte, Nat.reduceEqDiff, reduceCtorEq, ne_eq, if_true, if_false, exA, exA, tabs, exB, exD, buildA, rowOr, rowSetAt, rowAgg, mkAgg, AV.isAggV, AV.parts, AV.one, AV.solid, headSize, indexAddrA, indexA, fieldAddrA, fieldA, sliceA, boundsA, bndA, lenA, arrayAtA, rowOf, makeSliceA, intsOf, copyA, Nat.reduceAdd, Nat.reduceSub, Nat.reduceMul, Nat.reduceLeDiff, Nat.reduceLT, Nat.reduceGT, Int.reduceToNat, Int.reduceLE, Int.reduceLT, Int.reduceEq, Int.reduceNe, Int.reduceAdd, Int.reduceSub, Int.reduceMul, Int.reduceNeg, ite_true, ite_false, dite_true, xc1, xc2, xc3, xc4, xc5, xc6, xc7, xc8, xc9, xc10, xc11, xc12, xc13, xc14, xc15, xc16, xc17, hr5, hz, hr] | simp (maxSteps := 1000000) (disch := omega) only [exE, Int.toNat_natCast, Int.reduceToNat])
end Go.Proofs.Ytgkhngcnbddoiaa

namespace Go.Proofs.Ytgkhngcnbddoiaa
open Go.Ax
theorem blV_cell (l : List Bool) (i : Nat) (h : i < l.length) : rowCell (blV l) i = some (.v (.bool (l.getD i false))) := by
  have := rowCell_vs (f := Value.bool) false l i
  rw [show blV l = vsL Value.bool l from rfl, this]
  simp [oguard, h]
theorem same_info (H : Hd) (sl ep lf ct : Int) (bs : List Bool) (c c' : Nat) (hl : bs.length ≤ 1048576) (hn : H.nam.length = 16) : ACall Try.prog 19 [.agg [.v (.int .u64 H.gen), .v (.int .i64 H.sec), .v (.int .i64 H.slo), .v (.int .i64 H.jou), .v (.int .i64 H.seg), .v (.int .i64 H.tim), .v (.int .i64 H.mem), .v (.int .i64 H.lan), .arr 16 .u8 H.nam, .v (.int .i64 sl), .sl 0 0 1 0 bs.length c, .v (.int .i64 ep), .v (.int .i64 lf), .v (.int .u64 ct)], .agg [.v (.int .u64 H.gen), .v (.int .i64 H.sec), .v (.int .i64 H.slo), .v (.int .i64 H.jou), .v (.int .i64 H.seg), .v (.int .i64 H.tim), .v (.int .i64 H.mem), .v (.int .i64 H.lan), .arr 16 .u8 H.nam, .v (.int .i64 sl), .sl 1 0 1 0 bs.length c', .v (.int .i64 ep), .v (.int .i64 lf), .v (.int .u64 ct)]] [some (blV bs), some (blV bs)] fun v h' => v = .v (.bool true) ∧ ∃ x y, h' = [some (blV bs), some (blV bs), some x, some y] := by
  have hn2 : H.nam.take 16 = H.nam := List.take_of_length_le (by omega)
  have na : ∀ n : Nat, (0 : Int) ≤ n := fun n => Int.natCast_nonneg n
  refine acall_run (good17 2) Try.func19 rfl ⟨by kernel_rfl, by show 2 ≤ _; decide, by kernel_rfl, by kernel_rfl⟩ rfl ?_; have hr : Try.f19.results.toList = [.tmp 4] := rfl
  repeat (first | simp only [c17_P, c17_odd, c17_ro, Nat.reduceBEq, reduceIte, Nat.reduceEqDiff, reduceCtorEq, ne_eq, if_true, if_false, exA, exA, tabs, exB, exD, buildA, rowOr, rowSetAt, rowAgg, mkAgg, AV.isAggV, AV.parts, AV.one, AV.solid, headSize, indexAddrA, indexA, fieldAddrA, fieldA, sliceA, boundsA, bndA, lenA, arrayAtA, rowOf, makeSliceA, intsOf, copyA, Nat.reduceAdd, Nat.reduceSub, Nat.reduceMul, Nat.reduceLeDiff, Nat.reduceLT, Nat.reduceGT, Int.reduceToNat, Int.reduceLE, Int.reduceLT, Int.reduceEq, Int.reduceNe, Int.reduceAdd, Int.reduceSub, Int.reduceMul, Int.reduceNeg, ite_true, ite_false, dite_true, xc1, xc2, xc3, xc4, xc5, xc6, xc7, xc8, xc9, xc10, xc11, xc12, xc13, xc14, xc15, xc16, xc17, hr, hn2] | simp (maxSteps := 1000000) (disch := omega) only [exE, Int.toNat_natCast, Int.reduceToNat])
  refine loop_count (good17 2) (fun i => ⟨envL [(2, .ptr 2 0 0), (3, .ptr 3 0 0), (5, .v (.int .i64 i))], [some (blV bs), some (blV bs), some [.v (.int .u64 H.gen), .v (.int .i64 H.sec), .v (.int .i64 H.slo), .v (.int .i64 H.jou), .v (.int .i64 H.seg), .v (.int .i64 H.tim), .v (.int .i64 H.mem), .v (.int .i64 H.lan), .arr 16 .u8 H.nam, .v (.int .i64 sl), .sl 0 0 1 0 bs.length c, .v (.int .i64 ep), .v (.int .i64 lf), .v (.int .u64 ct)], some [.v (.int .u64 H.gen), .v (.int .i64 H.sec), .v (.int .i64 H.slo), .v (.int .i64 H.jou), .v (.int .i64 H.seg), .v (.int .i64 H.tim), .v (.int .i64 H.mem), .v (.int .i64 H.lan), .arr 16 .u8 H.nam, .v (.int .i64 sl), .sl 1 0 1 0 bs.length c', .v (.int .i64 ep), .v (.int .i64 lf), .v (.int .u64 ct)]]⟩) bs.length (by kernel_rfl) ?_ ?_ ?_
  · (refine weak_of ?_ ?_; (focus (first | with_reducible rfl | (simp only [Int.natCast_zero] <;> with_reducible rfl))); simp only [exF, Nat.reduceEqDiff, if_true, if_false, reduceIte, Option.some.injEq, reduceCtorEq, Int.cast_ofNat_Int, Int.natCast_zero])
  · intro i hi
    have w1 : IntKind.i64.wrap ((i : Int) + 1) = ((i + 1 : Nat) : Int) := by rw [i64_id _ (by omega)]; omega
    have hc := blV_cell bs i hi
    have c1 : (i : Int) < (bs.length : Int) := by omega
    repeat (first | simp only [c17_P, c17_odd, c17_ro, Nat.reduceBEq, reduceIte, Nat.reduceEqDiff, reduceCtorEq, ne_eq, if_true, if_false, exA, exA, tabs, exB, exD, buildA, rowOr, rowSetAt, rowAgg, mkAgg, AV.isAggV, AV.parts, AV.one, AV.solid, headSize, indexAddrA, indexA, fieldAddrA, fieldA, sliceA, boundsA, bndA, lenA, arrayAtA, rowOf, makeSliceA, intsOf, copyA, Nat.reduceAdd, Nat.reduceSub, Nat.reduceMul, Nat.reduceLeDiff, Nat.reduceLT, Nat.reduceGT, Int.reduceToNat, Int.reduceLE, Int.reduceLT, Int.reduceEq, Int.reduceNe, Int.reduceAdd, Int.reduceSub, Int.reduceMul, Int.reduceNeg, ite_true, ite_false, dite_true, xc1, xc2, xc3, xc4, xc5, xc6, xc7, xc8, xc9, xc10, xc11, xc12, xc13, xc14, xc15, xc16, xc17, hr, hn2, c1, w1, rowS_bl, hc] | simp (maxSteps := 1000000) (disch := omega) only [exE, Int.toNat_natCast, Int.reduceToNat])
    refine ⟨na i, na i, ?_⟩
    (refine weak_of ?_ ?_; (focus (first | with_reducible rfl | (simp only [] <;> with_reducible rfl))); simp only [exF, Nat.reduceEqDiff, if_true, if_false, reduceIte, Option.some.injEq, reduceCtorEq, Int.cast_ofNat_Int])
  · repeat (first | simp only [c17_P, c17_odd, c17_ro, Nat.reduceBEq, reduceIte, Nat.reduceEqDiff, reduceCtorEq, ne_eq, if_true, if_false, exA, exA, tabs, exB, exD, buildA, rowOr, rowSetAt, rowAgg, mkAgg, AV.isAggV, AV.parts, AV.one, AV.solid, headSize, indexAddrA, indexA, fieldAddrA, fieldA, sliceA, boundsA, bndA, lenA, arrayAtA, rowOf, makeSliceA, intsOf, copyA, Nat.reduceAdd, Nat.reduceSub, Nat.reduceMul, Nat.reduceLeDiff, Nat.reduceLT, Nat.reduceGT, Int.reduceToNat, Int.reduceLE, Int.reduceLT, Int.reduceEq, Int.reduceNe, Int.reduceAdd, Int.reduceSub, Int.reduceMul, Int.reduceNeg, ite_true, ite_false, dite_true, xc1, xc2, xc3, xc4, xc5, xc6, xc7, xc8, xc9, xc10, xc11, xc12, xc13, xc14, xc15, xc16, xc17, hr, hn2] | simp (maxSteps := 1000000) (disch := omega) only [exE, Int.toNat_natCast, Int.reduceToNat])
    exact ⟨_, _, rfl⟩
theorem same_ints (l : List Int) (hl : l.length ≤ 1048576) : ACall Try.prog 20 [.roI .i64 l, .roI .i64 l] [] fun v h' => v = .v (.bool true) ∧ h' = [] := by
  have na : ∀ n : Nat, (0 : Int) ≤ n := fun n => Int.natCast_nonneg n
  refine acall_run (good17 0) Try.func20 rfl ⟨by kernel_rfl, by show 2 ≤ _; decide, by kernel_rfl, by kernel_rfl⟩ rfl ?_; have hr : Try.f20.results.toList = [.tmp 4] := rfl
  repeat (first | simp only [c17_P, c17_odd, c17_ro, Nat.reduceBEq, reduceIte, Nat.reduceEqDiff, reduceCtorEq, ne_eq, if_true, if_false, exA, exA, tabs, exB, exD, buildA, rowOr, rowSetAt, rowAgg, mkAgg, AV.isAggV, AV.parts, AV.one, AV.solid, headSize, indexAddrA, indexA, fieldAddrA, fieldA, sliceA, boundsA, bndA, lenA, arrayAtA, rowOf, makeSliceA, intsOf, copyA, Nat.reduceAdd, Nat.reduceSub, Nat.reduceMul, Nat.reduceLeDiff, Nat.reduceLT, Nat.reduceGT, Int.reduceToNat, Int.reduceLE, Int.reduceLT, Int.reduceEq, Int.reduceNe, Int.reduceAdd, Int.reduceSub, Int.reduceMul, Int.reduceNeg, ite_true, ite_false, dite_true, xc1, xc2, xc3, xc4, xc5, xc6, xc7, xc8, xc9, xc10, xc11, xc12, xc13, xc14, xc15, xc16, xc17, hr] | simp (maxSteps := 1000000) (disch := omega) only [exE, Int.toNat_natCast, Int.reduceToNat])
  refine loop_count (good17 0) (fun i => ⟨envL [(0, .roI .i64 l), (1, .roI .i64 l), (5, .v (.int .i64 i))], []⟩) l.length (by kernel_rfl) ?_ ?_ ?_
  · (refine weak_of ?_ ?_; (focus (first | with_reducible rfl | (simp only [Int.natCast_zero] <;> with_reducible rfl))); simp only [exF, Nat.reduceEqDiff, if_true, if_false, reduceIte, Option.some.injEq, reduceCtorEq, Int.cast_ofNat_Int, Int.natCast_zero])
  · intro i hi
    have w1 : IntKind.i64.wrap ((i : Int) + 1) = ((i + 1 : Nat) : Int) := by rw [i64_id _ (by omega)]; omega
    have c1 : (i : Int) < (l.length : Int) := by omega
    repeat (first | simp only [c17_P, c17_odd, c17_ro, Nat.reduceBEq, reduceIte, Nat.reduceEqDiff, reduceCtorEq, ne_eq, if_true, if_false, exA, exA, tabs, exB, exD, buildA, rowOr, rowSetAt, rowAgg, mkAgg, AV.isAggV, AV.parts, AV.one, AV.solid, headSize, indexAddrA, indexA, fieldAddrA, fieldA, sliceA, boundsA, bndA, lenA, arrayAtA, rowOf, makeSliceA, intsOf, copyA, Nat.reduceAdd, Nat.reduceSub, Nat.reduceMul, Nat.reduceLeDiff, Nat.reduceLT, Nat.reduceGT, Int.reduceToNat, Int.reduceLE, Int.reduceLT, Int.reduceEq, Int.reduceNe, Int.reduceAdd, Int.reduceSub, Int.reduceMul, Int.reduceNeg, ite_true, ite_false, dite_true, xc1, xc2, xc3, xc4, xc5, xc6, xc7, xc8, xc9, xc10, xc11, xc12, xc13, xc14, xc15, xc16, xc17, hr, c1, w1] | simp (maxSteps := 1000000) (disch := omega) only [exE, Int.toNat_natCast, Int.reduceToNat])
    refine ⟨na i, na i, ?_⟩
    (refine weak_of ?_ ?_; (focus (first | with_reducible rfl | (simp only [] <;> with_reducible rfl))); simp only [exF, Nat.reduceEqDiff, if_true, if_false, reduceIte, Option.some.injEq, reduceCtorEq, Int.cast_ofNat_Int])
  · repeat (first | simp only [c17_P, c17_odd, c17_ro, Nat.reduceBEq, reduceIte, Nat.reduceEqDiff, reduceCtorEq, ne_eq, if_true, if_false, exA, exA, tabs, exB, exD, buildA, rowOr, rowSetAt, rowAgg, mkAgg, AV.isAggV, AV.parts, AV.one, AV.solid, headSize, indexAddrA, indexA, fieldAddrA, fieldA, sliceA, boundsA, bndA, lenA, arrayAtA, rowOf, makeSliceA, intsOf, copyA, Nat.reduceAdd, Nat.reduceSub, Nat.reduceMul, Nat.reduceLeDiff, Nat.reduceLT, Nat.reduceGT, Int.reduceToNat, Int.reduceLE, Int.reduceLT, Int.reduceEq, Int.reduceNe, Int.reduceAdd, Int.reduceSub, Int.reduceMul, Int.reduceNeg, ite_true, ite_false, dite_true, xc1, xc2, xc3, xc4, xc5, xc6, xc7, xc8, xc9, xc10, xc11, xc12, xc13, xc14, xc15, xc16, xc17, hr] | simp (maxSteps := 1000000) (disch := omega) only [exE, Int.toNat_natCast, Int.reduceToNat])
theorem same_ok {h : List Blk} {x y : AV} {l : List Int} (hl : l.length ≤ 1048576) (hx : Frz h (List.range h.length) x (.roI .i64 l)) (hy : Frz h (List.range h.length) y (.roI .i64 l)) {κ : AV → List Blk → Prop} (hκ : κ (.v (.bool true)) h) : ACall Try.prog 20 [x, y] h κ := by
  refine (ACall.ro (args := [x, y]) (same_ints l hl) (by rintro _ _ ⟨rfl, rfl⟩; exact ⟨rfl, rfl⟩) (fun g => rfl) (List.range h.length) ⟨hx, hy, trivial⟩).mono ?_
  rintro v h' ⟨v0, h0, ⟨rfl, rfl⟩, rfl, rfl⟩
  simpa [AV.ren] using hκ
end Go.Proofs.Ytgkhngcnbddoiaa

namespace Go.Proofs.Ytgkhngcnbddoiaa
open Go.Ax
theorem aput_len {α : Type} : ∀ (S : List (Int × α)) (n : Int) (v : α), (aput S n v).length ≤ S.length + 1
  | [], n, v => by simp [aput]
  | (k, a) :: S, n, v => by
    have := aput_len S n v
    simp only [aput]
    split
    · simp
    · simp only [List.length_cons]; omega
theorem aK_put {α : Type} : ∀ (S : List (Int × α)) (n : Int) (v : α), ∀ k ∈ aK (aput S n v), k = n ∨ k ∈ aK S
  | [], n, v => by simp [aput, aK]
  | (k0, a) :: S, n, v => by
    have ih := aK_put S n v
    intro k hk
    simp only [aput] at hk
    split at hk
    · rename_i h
      simp only [aK, List.map_cons, List.mem_cons] at hk ⊢
      rcases hk with h1 | h1
      · exact .inr (.inl h1)
      · exact .inr (.inr h1)
    · simp only [aK, List.map_cons, List.mem_cons] at hk ⊢ ih
      rcases hk with h1 | h1
      · exact .inr (.inl h1)
      · rcases ih k h1 with h2 | h2
        · exact .inl h2
        · exact .inr (.inr h2)
def keep1 (m : Ms) (o : OpV) : Ms :=
  if o.kd = 1 then (mWrite m o.n (blockL o.b)).2 else if o.kd = 4 then (mSlotAdd m o.n o.p).2 else if o.kd = 6 then (mRekeyStart m).2 else m
def op0 : OpV := ⟨0, 0, [], []⟩
def keepM (l : List OpV) : Nat → Ms
  | 0 => m9o
  | i + 1 => keep1 (keepM l i) (l.getD i op0)
structure KI (m : Ms) (i : Nat) : Prop where
  H : m.H = H9
  op : m.op = true
  tre : m.R.tre = List.replicate 32 0
  fro : m.R.fro = 0
  c0 : 0 ≤ m.R.ctr
  c1 : m.R.ctr ≤ i
  key : ∀ k ∈ aK m.S, 0 ≤ k ∧ k < 10
  len : m.S.length ≤ i
  sec : ∀ n b, aget m.S n = some b → b.length = 512
theorem KI_0 : KI m9o 0 := ⟨rfl, rfl, rfl, rfl, by decide, by decide, by intro k hk; simp [m9o, m9, mNew, aK] at hk, by decide, by intro n b hb; simp [m9o, m9, mNew, aget] at hb⟩
theorem u64_up {c : Int} {i : Nat} (h0 : 0 ≤ c) (h1 : c ≤ i) (hi : i ≤ 100) : IntKind.u64.wrap (c + 1) = c + 1 := by
  simp [IntKind.wrap, IntKind.signed, IntKind.bits]
  omega
theorem write_KI {m : Ms} {i : Nat} (h : KI m i) (hi : i ≤ 100) (n : Int) (b : List Int) : KI (mWrite m n b).2 (i + 1) := by
  have hw := u64_up h.c0 h.c1 hi
  have h1 := h.c1
  have h0 := h.c0
  have hlen := h.len
  have same : KI m (i + 1) := ⟨h.H, h.op, h.tre, h.fro, h.c0, by omega, h.key, by omega, h.sec⟩
  unfold mWrite
  split
  · rename_i hm
    obtain ⟨_, hm1, hm2⟩ := mayE_0 hm
    split
    · rename_i hb
      refine ⟨h.H, h.op, h.tre, h.fro, by simp only [up, hw]; omega, by simp only [up, hw]; omega, ?_, by have := aput_len m.S n b; simp only; omega, ?_⟩
      · intro k hk
        rcases aK_put _ _ _ k hk with rfl | h2
        · have : (mfO m).H.sec = 10 := by show m.H.sec = 10; rw [h.H]; rfl
          omega
        · exact h.key k h2
      · intro x y hy
        simp only [aget_put] at hy
        split at hy
        · cases hy; exact hb
        · exact h.sec x y hy
    · exact same
  · exact same
theorem add_KI {m : Ms} {i : Nat} (h : KI m i) (hi : i ≤ 100) (n : Int) (b : List Int) : KI (mSlotAdd m n b).2 (i + 1) := by
  have hw := u64_up h.c0 h.c1 hi
  have h1 := h.c1
  have h0 := h.c0
  have hlen := h.len
  have same : KI m (i + 1) := ⟨h.H, h.op, h.tre, h.fro, h.c0, by omega, h.key, by omega, h.sec⟩
  unfold mSlotAdd
  repeat' split
  all_goals first | exact same | exact ⟨h.H, h.op, h.tre, h.fro, by simp only [up, hw]; omega, by simp only [up, hw]; omega, h.key, by simp only; omega, h.sec⟩
theorem start_KI {m : Ms} {i : Nat} (h : KI m i) (hi : i ≤ 100) : KI (mRekeyStart m).2 (i + 1) := by
  have hw := u64_up h.c0 h.c1 hi
  have h1 := h.c1
  have h0 := h.c0
  have hlen := h.len
  have same : KI m (i + 1) := ⟨h.H, h.op, h.tre, h.fro, h.c0, by omega, h.key, by omega, h.sec⟩
  unfold mRekeyStart
  repeat' split
  all_goals first | exact same | exact ⟨h.H, h.op, h.tre, h.fro, by simp only [hw]; omega, by simp only [hw]; omega, h.key, by simp only; omega, h.sec⟩
theorem keep_KI (l : List OpV) : ∀ i, i ≤ 50 → KI (keepM l i) i
  | 0, _ => KI_0
  | i + 1, h => by
    have ih := keep_KI l i (by omega)
    have same : KI (keepM l i) (i + 1) := ⟨ih.H, ih.op, ih.tre, ih.fro, ih.c0, by have := ih.c1; omega, ih.key, by have := ih.len; omega, ih.sec⟩
    simp only [keepM, keep1]
    repeat' split
    · exact write_KI ih (by omega) _ _
    · exact add_KI ih (by omega) _ _
    · exact start_KI ih (by omega)
    · exact same
end Go.Proofs.Ytgkhngcnbddoiaa

namespace Go.Proofs.Ytgkhngcnbddoiaa
open Go.Ax
theorem aput_ge {α : Type} : ∀ (S : List (Int × α)) (n : Int) (v : α), S.length ≤ (aput S n v).length
  | [], n, v => by simp
  | (k, a) :: S, n, v => by
    have := aput_ge S n v
    simp only [aput]
    split
    · simp
    · simp only [List.length_cons]; omega
def mBad (m : Ms) (o : OpV) : Int × Ms :=
  if o.kd = 4 then mSlotAdd m o.n o.p else if o.kd = 5 then mSlotRevoke m o.n else if o.kd = 6 then mRekeyStart m else if o.kd = 7 then (mRekeyStep m).2 else mWrite m o.n o.b
structure KJ (m : Ms) : Prop where
  H : m.H = H9
  op : m.op = true
  tre : m.R.tre = List.replicate 32 0
  may : mayB m.H m.R = true
  c0 : 0 ≤ m.R.ctr
  key : ∀ k ∈ aK m.S, 0 ≤ k ∧ k < 10
  len : m.S.length ≤ 100
theorem may_0 {H : Hd} {R : Rt} (hH : H = H9) (h : R.fro = 0) : mayB H R = true := by
  subst hH
  have : okH H9 = true := by decide
  unfold mayB
  rw [this, h]
  cases R.rek <;> decide
theorem KI.kj {m : Ms} {i : Nat} (h : KI m i) (hi : i ≤ 100) : KJ m := ⟨h.H, h.op, h.tre, may_0 h.H h.fro, h.c0, h.key, by have := h.len; omega⟩
theorem bad_ne {m : Ms} {o : OpV} (h : (mBad m o).1 ≠ 0) : (mBad m o).2 = m := by
  revert h
  unfold mBad mSlotAdd mSlotRevoke mRekeyStart mRekeyStep mWrite
  repeat' split
  all_goals first | (intro _; rfl) | (intro h; exact absurd rfl h)
theorem bad_KJ {m : Ms} {i : Nat} (h : KI m i) (hi : i ≤ 50) (o : OpV) : KJ (mBad m o).2 ∧ m.R.ctr ≤ (mBad m o).2.R.ctr ∧ m.S.length ≤ (mBad m o).2.S.length := by
  have hw := u64_up h.c0 h.c1 (by omega)
  have h1 := h.c1
  have h0 := h.c0
  have hk := h.kj (by omega)
  unfold mBad
  split
  · refine ⟨(add_KI h (by omega) o.n o.p).kj (by omega), ?_⟩
    unfold mSlotAdd
    repeat' split
    all_goals simp only [up, hw]; omega
  split
  · unfold mSlotRevoke
    repeat' split
    all_goals first | exact ⟨hk, by omega, by omega⟩ | exact ⟨⟨h.H, h.op, h.tre, may_0 h.H h.fro, by simp only [up, hw]; omega, h.key, by have := h.len; simp only; omega⟩, by simp only [up, hw]; omega, by simp only; omega⟩
  split
  · refine ⟨(start_KI h (by omega)).kj (by omega), ?_⟩
    unfold mRekeyStart
    repeat' split
    all_goals simp only [hw]; omega
  split
  · unfold mRekeyStep
    split
    · split
      · rename_i hs
        have hd : dnB m.H m.R = false := by simp only [dnB, toN, h.H, h.fro]; decide
        have ht : toN m.H m.R = 4 := by simp only [toN, h.H, h.fro]; decide
        have hr := (stE_0 hs).2
        have hf : m.R.fro < m.H.sec := by rw [h.H, h.fro]; decide
        simp only [hd, hf, if_true, if_false, Bool.false_eq_true, aft, hw, ht, Bool.not_false]
        refine ⟨⟨h.H, h.op, h.tre, ?_, by simp only; omega, h.key, by have := h.len; simp only; omega⟩, by omega, by omega⟩
        have : okH H9 = true := by decide
        simp [mayB, this, h.H]
        decide
      · exact ⟨hk, by simp only; omega, by simp only; omega⟩
    · exact ⟨hk, by simp only; omega, by simp only; omega⟩
  · refine ⟨(write_KI h (by omega) o.n o.b).kj (by omega), ?_⟩
    have := aput_ge m.S o.n o.b
    unfold mWrite
    repeat' split
    all_goals simp only [up, hw]; omega
end Go.Proofs.Ytgkhngcnbddoiaa

namespace Go.Proofs.Ytgkhngcnbddoiaa
open Go.Ax
theorem rekeyStep_own (m : Ms) (hg : 0 ≤ m.H.gen) (ht : m.R.tre.length = 32) : ACall Try.prog 16 [.ptr 0 0 0] (mblk m) fun v h' => v = .tup [.v (.bool (mRekeyStep m).1), .v (.int .i64 (mRekeyStep m).2.1)] ∧ h' = mblk (mRekeyStep m).2.2 := by
  refine ACall.weak (C := c17 3) rfl (rekeyStep_spec m hg ht) ?_
  rintro v h' ⟨rfl, ext, rfl⟩
  refine ⟨_, mblk (mRekeyStep m).2.2, ?_, rfl, rfl⟩
  generalize (mRekeyStep m).2.2 = m2
  have g1 : ∀ n, gcMap [0, 1, 2] n 1 = 1 := fun n => rfl
  have g2 : ∀ n, gcMap [0, 1, 2] n 2 = 2 := fun n => rfl
  refine weak_gc' [0, 1, 2] (by decide) ?_ (by rfl) ?_ ?_
  · intro b hb
    simp only [List.mem_cons, List.not_mem_nil, or_false] at hb
    simp only [mblk, List.cons_append, List.nil_append, List.length_cons]
    omega
  · simp only [mblk, mfL, List.cons_append, List.nil_append, List.map_cons, List.map_nil, List.getElem?_cons_zero, List.getElem?_cons_succ, renB, Option.map_some, renL, AV.ren, renL_roB, renL_strV, g1, g2]
  · simp only [List.map_cons, List.map_nil, envAll_cons, envAll_nil, get_envL_cons, if_true, reduceIte, AV.ren, renL, and_self]
end Go.Proofs.Ytgkhngcnbddoiaa

namespace Go.Proofs.Ytgkhngcnbddoiaa
open Go.Ax
structure Rs where
  H : Hd
  L : List ByteArray
  W : List Bool
  P : List (Bool × ByteArray)
  ep : Int
  R : Rt
  op : Bool
  sl : Int
  c : Nat
def rfL (x : Rs) : List AV := [.v (.int .u64 x.H.gen), .v (.int .i64 x.H.sec), .v (.int .i64 x.H.slo), .v (.int .i64 x.H.jou), .v (.int .i64 x.H.seg), .v (.int .i64 x.H.tim), .v (.int .i64 x.H.mem), .v (.int .i64 x.H.lan), .arr 16 .u8 x.H.nam, .sl 1 0 1 0 x.L.length x.c, .sl 2 0 1 0 x.W.length x.W.length, .sl 3 0 2 0 x.P.length x.P.length, .v (.int .i64 x.ep), .v (.int .u64 x.R.ctr), .v (.bool x.R.rek), .v (.int .i64 x.R.fro), .arr 32 .u8 x.R.tre, .v (.bool x.op), .v (.int .i64 x.sl)]
def rblk (x : Rs) : List Blk := [some (rfL x), some (vsL Value.string x.L), some (vsL Value.bool x.W), some (prL (fun p : Bool × ByteArray => .bool p.1) (fun p => .string p.2) x.P)]
def xFlush (x : Rs) : Int := if x.op = true then 0 else 6
theorem xflush_spec (x : Rs) : ACall Try.prog 42 [.ptr 0 0 0] (rblk x) fun v h' => v = .v (.int .i64 (xFlush x)) ∧ h' = rblk x := by
  unfold rblk rfL
  cases h1 : x.op <;> (simp only [xFlush, h1]; refine acall_run (good17 4) Try.func42 rfl ⟨by kernel_rfl, by show 1 ≤ _; decide, by kernel_rfl, by kernel_rfl⟩ rfl ?_; have hr : Try.f42.results.toList = [.tmp 2] := rfl; repeat (first | simp only [c17_P, c17_odd, c17_ro, Nat.reduceBEq, reduceIte, Nat.reduceEqDiff, reduceCtorEq, ne_eq, if_true, if_false, exA, exA, tabs, exB, exD, buildA, rowOr, rowSetAt, rowAgg, mkAgg, AV.isAggV, AV.parts, AV.one, AV.solid, headSize, indexAddrA, indexA, fieldAddrA, fieldA, sliceA, boundsA, bndA, lenA, arrayAtA, rowOf, makeSliceA, intsOf, copyA, Nat.reduceAdd, Nat.reduceSub, Nat.reduceMul, Nat.reduceLeDiff, Nat.reduceLT, Nat.reduceGT, Int.reduceToNat, Int.reduceLE, Int.reduceLT, Int.reduceEq, Int.reduceNe, Int.reduceAdd, Int.reduceSub, Int.reduceMul, Int.reduceNeg, ite_true, ite_false, dite_true, xc1, xc2, xc3, xc4, xc5, xc6, xc7, xc8, xc9, xc10, xc11, xc12, xc13, xc14, xc15, xc16, xc17, hr, h1] | simp (maxSteps := 1000000) (disch := omega) only [exE, Int.toNat_natCast, Int.reduceToNat]); try trivial)
def xClose (x : Rs) : Int × Rs := if x.op = true then (0, { x with op := false }) else (6, x)
theorem xclose_spec (x : Rs) : ACall Try.prog 47 [.ptr 0 0 0] (rblk x) fun v h' => v = .v (.int .i64 (xClose x).1) ∧ h' = rblk (xClose x).2 := by
  unfold rblk rfL
  cases h1 : x.op <;> (simp only [xClose, h1, if_true, if_false, Bool.false_eq_true]; refine acall_run (good17 4) Try.func47 rfl ⟨by kernel_rfl, by show 1 ≤ _; decide, by kernel_rfl, by kernel_rfl⟩ rfl ?_; have hr : Try.f47.results.toList = [.tmp 2] := rfl; repeat (first | simp only [c17_P, c17_odd, c17_ro, Nat.reduceBEq, reduceIte, Nat.reduceEqDiff, reduceCtorEq, ne_eq, if_true, if_false, exA, exA, tabs, exB, exD, buildA, rowOr, rowSetAt, rowAgg, mkAgg, AV.isAggV, AV.parts, AV.one, AV.solid, headSize, indexAddrA, indexA, fieldAddrA, fieldA, sliceA, boundsA, bndA, lenA, arrayAtA, rowOf, makeSliceA, intsOf, copyA, Nat.reduceAdd, Nat.reduceSub, Nat.reduceMul, Nat.reduceLeDiff, Nat.reduceLT, Nat.reduceGT, Int.reduceToNat, Int.reduceLE, Int.reduceLT, Int.reduceEq, Int.reduceNe, Int.reduceAdd, Int.reduceSub, Int.reduceMul, Int.reduceNeg, ite_true, ite_false, dite_true, xc1, xc2, xc3, xc4, xc5, xc6, xc7, xc8, xc9, xc10, xc11, xc12, xc13, xc14, xc15, xc16, xc17, hr, h1] | simp (maxSteps := 1000000) (disch := omega) only [exE, Int.toNat_natCast, Int.reduceToNat]))
def xRekeyStart (m : Rs) : Int × Rs :=
  if m.op = true then (if m.R.rek = true then (230, m) else if 4294967295 ≤ m.ep then (2, m) else (0, { m with ep := IntKind.i64.wrap (m.ep + 1), R := ⟨IntKind.u64.wrap (m.R.ctr + 1), true, 0, m.R.tre⟩ })) else (6, m)
theorem xrekeyStart_spec (m : Rs) : ACall Try.prog 45 [.ptr 0 0 0] (rblk m) fun v h' => v = .v (.int .i64 (xRekeyStart m).1) ∧ h' = rblk (xRekeyStart m).2 := by
  unfold rblk rfL
  cases h1 : m.op
  · simp only [xRekeyStart, h1, if_true, if_false, Bool.false_eq_true]; refine acall_run (good17 4) Try.func45 rfl ⟨by kernel_rfl, by show 1 ≤ _; decide, by kernel_rfl, by kernel_rfl⟩ rfl ?_; have hr : Try.f45.results.toList = [.tmp 2] := rfl; repeat (first | simp only [c17_P, c17_odd, c17_ro, Nat.reduceBEq, reduceIte, Nat.reduceEqDiff, reduceCtorEq, ne_eq, if_true, if_false, exA, exA, tabs, exB, exD, buildA, rowOr, rowSetAt, rowAgg, mkAgg, AV.isAggV, AV.parts, AV.one, AV.solid, headSize, indexAddrA, indexA, fieldAddrA, fieldA, sliceA, boundsA, bndA, lenA, arrayAtA, rowOf, makeSliceA, intsOf, copyA, Nat.reduceAdd, Nat.reduceSub, Nat.reduceMul, Nat.reduceLeDiff, Nat.reduceLT, Nat.reduceGT, Int.reduceToNat, Int.reduceLE, Int.reduceLT, Int.reduceEq, Int.reduceNe, Int.reduceAdd, Int.reduceSub, Int.reduceMul, Int.reduceNeg, ite_true, ite_false, dite_true, xc1, xc2, xc3, xc4, xc5, xc6, xc7, xc8, xc9, xc10, xc11, xc12, xc13, xc14, xc15, xc16, xc17, hr, h1] | simp (maxSteps := 1000000) (disch := omega) only [exE, Int.toNat_natCast, Int.reduceToNat])
  cases h2 : m.R.rek
  · by_cases h3 : 4294967295 ≤ m.ep
    · simp only [xRekeyStart, h1, h2, h3, if_true, if_false, Bool.false_eq_true]; refine acall_run (good17 4) Try.func45 rfl ⟨by kernel_rfl, by show 1 ≤ _; decide, by kernel_rfl, by kernel_rfl⟩ rfl ?_; have hr : Try.f45.results.toList = [.tmp 2] := rfl; repeat (first | simp only [c17_P, c17_odd, c17_ro, Nat.reduceBEq, reduceIte, Nat.reduceEqDiff, reduceCtorEq, ne_eq, if_true, if_false, exA, exA, tabs, exB, exD, buildA, rowOr, rowSetAt, rowAgg, mkAgg, AV.isAggV, AV.parts, AV.one, AV.solid, headSize, indexAddrA, indexA, fieldAddrA, fieldA, sliceA, boundsA, bndA, lenA, arrayAtA, rowOf, makeSliceA, intsOf, copyA, Nat.reduceAdd, Nat.reduceSub, Nat.reduceMul, Nat.reduceLeDiff, Nat.reduceLT, Nat.reduceGT, Int.reduceToNat, Int.reduceLE, Int.reduceLT, Int.reduceEq, Int.reduceNe, Int.reduceAdd, Int.reduceSub, Int.reduceMul, Int.reduceNeg, ite_true, ite_false, dite_true, xc1, xc2, xc3, xc4, xc5, xc6, xc7, xc8, xc9, xc10, xc11, xc12, xc13, xc14, xc15, xc16, xc17, hr, h1, h2] | simp (maxSteps := 1000000) (disch := omega) only [exE, Int.toNat_natCast, Int.reduceToNat])
    · simp only [xRekeyStart, h1, h2, h3, if_true, if_false, Bool.false_eq_true]; refine acall_run (good17 4) Try.func45 rfl ⟨by kernel_rfl, by show 1 ≤ _; decide, by kernel_rfl, by kernel_rfl⟩ rfl ?_; have hr : Try.f45.results.toList = [.tmp 2] := rfl; repeat (first | simp only [c17_P, c17_odd, c17_ro, Nat.reduceBEq, reduceIte, Nat.reduceEqDiff, reduceCtorEq, ne_eq, if_true, if_false, exA, exA, tabs, exB, exD, buildA, rowOr, rowSetAt, rowAgg, mkAgg, AV.isAggV, AV.parts, AV.one, AV.solid, headSize, indexAddrA, indexA, fieldAddrA, fieldA, sliceA, boundsA, bndA, lenA, arrayAtA, rowOf, makeSliceA, intsOf, copyA, Nat.reduceAdd, Nat.reduceSub, Nat.reduceMul, Nat.reduceLeDiff, Nat.reduceLT, Nat.reduceGT, Int.reduceToNat, Int.reduceLE, Int.reduceLT, Int.reduceEq, Int.reduceNe, Int.reduceAdd, Int.reduceSub, Int.reduceMul, Int.reduceNeg, ite_true, ite_false, dite_true, xc1, xc2, xc3, xc4, xc5, xc6, xc7, xc8, xc9, xc10, xc11, xc12, xc13, xc14, xc15, xc16, xc17, hr, h1, h2] | simp (maxSteps := 1000000) (disch := omega) only [exE, Int.toNat_natCast, Int.reduceToNat])
  · simp only [xRekeyStart, h1, h2, if_true, if_false, Bool.false_eq_true]; refine acall_run (good17 4) Try.func45 rfl ⟨by kernel_rfl, by show 1 ≤ _; decide, by kernel_rfl, by kernel_rfl⟩ rfl ?_; have hr : Try.f45.results.toList = [.tmp 2] := rfl; repeat (first | simp only [c17_P, c17_odd, c17_ro, Nat.reduceBEq, reduceIte, Nat.reduceEqDiff, reduceCtorEq, ne_eq, if_true, if_false, exA, exA, tabs, exB, exD, buildA, rowOr, rowSetAt, rowAgg, mkAgg, AV.isAggV, AV.parts, AV.one, AV.solid, headSize, indexAddrA, indexA, fieldAddrA, fieldA, sliceA, boundsA, bndA, lenA, arrayAtA, rowOf, makeSliceA, intsOf, copyA, Nat.reduceAdd, Nat.reduceSub, Nat.reduceMul, Nat.reduceLeDiff, Nat.reduceLT, Nat.reduceGT, Int.reduceToNat, Int.reduceLE, Int.reduceLT, Int.reduceEq, Int.reduceNe, Int.reduceAdd, Int.reduceSub, Int.reduceMul, Int.reduceNeg, ite_true, ite_false, dite_true, xc1, xc2, xc3, xc4, xc5, xc6, xc7, xc8, xc9, xc10, xc11, xc12, xc13, xc14, xc15, xc16, xc17, hr, h1, h2] | simp (maxSteps := 1000000) (disch := omega) only [exE, Int.toNat_natCast, Int.reduceToNat])
def xMay (x : Rs) (n : Int) : Int := if x.op = true then (if 0 ≤ n ∧ n < x.H.sec then 0 else 100) else 6
theorem xread_bad (x : Rs) (n : Int) (h : xMay x n ≠ 0) : ACall Try.prog 41 [.ptr 0 0 0, .v (.int .i64 n)] (rblk x) fun v h' => v = .tup [.v (.slice none 0 0), .v (.int .i64 (xMay x n))] ∧ h' = rblk x := by
  unfold rblk rfL
  unfold xMay at h ⊢
  cases h1 : x.op
  · simp only [Bool.false_eq_true, if_false]; refine acall_run (good17 4) Try.func41 rfl ⟨by kernel_rfl, by show 2 ≤ _; decide, by kernel_rfl, by kernel_rfl⟩ rfl ?_; have hr : Try.f41.results.toList = [.tmp 4, .tmp 5] := rfl; repeat (first | simp only [c17_P, c17_odd, c17_ro, Nat.reduceBEq, reduceIte, Nat.reduceEqDiff, reduceCtorEq, ne_eq, if_true, if_false, exA, exA, tabs, exB, exD, buildA, rowOr, rowSetAt, rowAgg, mkAgg, AV.isAggV, AV.parts, AV.one, AV.solid, headSize, indexAddrA, indexA, fieldAddrA, fieldA, sliceA, boundsA, bndA, lenA, arrayAtA, rowOf, makeSliceA, intsOf, copyA, Nat.reduceAdd, Nat.reduceSub, Nat.reduceMul, Nat.reduceLeDiff, Nat.reduceLT, Nat.reduceGT, Int.reduceToNat, Int.reduceLE, Int.reduceLT, Int.reduceEq, Int.reduceNe, Int.reduceAdd, Int.reduceSub, Int.reduceMul, Int.reduceNeg, ite_true, ite_false, dite_true, xc1, xc2, xc3, xc4, xc5, xc6, xc7, xc8, xc9, xc10, xc11, xc12, xc13, xc14, xc15, xc16, xc17, hr, h1] | simp (maxSteps := 1000000) (disch := omega) only [exE, Int.toNat_natCast, Int.reduceToNat])
  · by_cases h2 : 0 ≤ n
    · by_cases h3 : n < x.H.sec
      · simp [h1, h2, h3] at h
      · simp only [h3, and_false, if_true, if_false]; refine acall_run (good17 4) Try.func41 rfl ⟨by kernel_rfl, by show 2 ≤ _; decide, by kernel_rfl, by kernel_rfl⟩ rfl ?_; have hr : Try.f41.results.toList = [.tmp 4, .tmp 5] := rfl; repeat (first | simp only [c17_P, c17_odd, c17_ro, Nat.reduceBEq, reduceIte, Nat.reduceEqDiff, reduceCtorEq, ne_eq, if_true, if_false, exA, exA, tabs, exB, exD, buildA, rowOr, rowSetAt, rowAgg, mkAgg, AV.isAggV, AV.parts, AV.one, AV.solid, headSize, indexAddrA, indexA, fieldAddrA, fieldA, sliceA, boundsA, bndA, lenA, arrayAtA, rowOf, makeSliceA, intsOf, copyA, Nat.reduceAdd, Nat.reduceSub, Nat.reduceMul, Nat.reduceLeDiff, Nat.reduceLT, Nat.reduceGT, Int.reduceToNat, Int.reduceLE, Int.reduceLT, Int.reduceEq, Int.reduceNe, Int.reduceAdd, Int.reduceSub, Int.reduceMul, Int.reduceNeg, ite_true, ite_false, dite_true, xc1, xc2, xc3, xc4, xc5, xc6, xc7, xc8, xc9, xc10, xc11, xc12, xc13, xc14, xc15, xc16, xc17, hr, h1] | simp (maxSteps := 1000000) (disch := omega) only [exE, Int.toNat_natCast, Int.reduceToNat])
    · simp only [h2, false_and, if_true, if_false]; refine acall_run (good17 4) Try.func41 rfl ⟨by kernel_rfl, by show 2 ≤ _; decide, by kernel_rfl, by kernel_rfl⟩ rfl ?_; have hr : Try.f41.results.toList = [.tmp 4, .tmp 5] := rfl; repeat (first | simp only [c17_P, c17_odd, c17_ro, Nat.reduceBEq, reduceIte, Nat.reduceEqDiff, reduceCtorEq, ne_eq, if_true, if_false, exA, exA, tabs, exB, exD, buildA, rowOr, rowSetAt, rowAgg, mkAgg, AV.isAggV, AV.parts, AV.one, AV.solid, headSize, indexAddrA, indexA, fieldAddrA, fieldA, sliceA, boundsA, bndA, lenA, arrayAtA, rowOf, makeSliceA, intsOf, copyA, Nat.reduceAdd, Nat.reduceSub, Nat.reduceMul, Nat.reduceLeDiff, Nat.reduceLT, Nat.reduceGT, Int.reduceToNat, Int.reduceLE, Int.reduceLT, Int.reduceEq, Int.reduceNe, Int.reduceAdd, Int.reduceSub, Int.reduceMul, Int.reduceNeg, ite_true, ite_false, dite_true, xc1, xc2, xc3, xc4, xc5, xc6, xc7, xc8, xc9, xc10, xc11, xc12, xc13, xc14, xc15, xc16, xc17, hr, h1] | simp (maxSteps := 1000000) (disch := omega) only [exE, Int.toNat_natCast, Int.reduceToNat])
theorem xread_ok (x : Rs) (i : Nat) (h : xMay x (i : Int) = 0) (hL : (x.L.length : Int) = x.H.sec) : ACall Try.prog 41 [.ptr 0 0 0, .v (.int .i64 i)] (rblk x) fun v h' => ∃ c, v = .tup [.sl 4 0 1 0 (x.L.getD i default).size c, .v (.int .i64 0)] ∧ h' = rblk x ++ [some [.arr (x.L.getD i default).size .u8 (Ax.strOf (x.L.getD i default))]] := by
  have na : ∀ n : Nat, (0 : Int) ≤ n := fun n => Int.natCast_nonneg n
  unfold xMay at h
  split at h
  · rename_i h1
    split at h
    · rename_i h2
      have h3 : (i : Int) < x.L.length := by omega
      have hi : i < x.L.length := by omega
      have hc : rowCell (vsL Value.string x.L) i = some (.v (.string (x.L.getD i default))) := by rw [rowCell_vs default]; simp [oguard, hi]
      unfold rblk rfL
      refine acall_run (good17 4) Try.func41 rfl ⟨by kernel_rfl, by show 2 ≤ _; decide, by kernel_rfl, by kernel_rfl⟩ rfl ?_; have hr : Try.f41.results.toList = [.tmp 4, .tmp 5] := rfl; repeat (first | simp only [c17_P, c17_odd, c17_ro, Nat.reduceBEq, reduceIte, Nat.reduceEqDiff, reduceCtorEq, ne_eq, if_true, if_false, exA, exA, tabs, exB, exD, buildA, rowOr, rowSetAt, rowAgg, mkAgg, AV.isAggV, AV.parts, AV.one, AV.solid, headSize, indexAddrA, indexA, fieldAddrA, fieldA, sliceA, boundsA, bndA, lenA, arrayAtA, rowOf, makeSliceA, intsOf, copyA, Nat.reduceAdd, Nat.reduceSub, Nat.reduceMul, Nat.reduceLeDiff, Nat.reduceLT, Nat.reduceGT, Int.reduceToNat, Int.reduceLE, Int.reduceLT, Int.reduceEq, Int.reduceNe, Int.reduceAdd, Int.reduceSub, Int.reduceMul, Int.reduceNeg, ite_true, ite_false, dite_true, xc1, xc2, xc3, xc4, xc5, xc6, xc7, xc8, xc9, xc10, xc11, xc12, xc13, xc14, xc15, xc16, xc17, hr, h1, h2.1, h2.2, rowS_vs, hc] | simp (maxSteps := 1000000) (disch := omega) only [exE, Int.toNat_natCast, Int.reduceToNat])
      exact ⟨h3, fun c hc => ⟨c, rfl⟩⟩
    · omega
  · omega
end Go.Proofs.Ytgkhngcnbddoiaa

namespace Go.Proofs.Ytgkhngcnbddoiaa
open Go.Ax
def xWrite (x : Rs) (n : Int) (b : List Int) : Int × Rs :=
  if xMay x n = 0 then (if b.length = 512 then (0, { x with L := x.L.set n.toNat (bytesOf b), W := x.W.set n.toNat true, R := up x.R }) else (101, x)) else (xMay x n, x)
theorem xMay_0 {x : Rs} {n : Int} (h : xMay x n = 0) : x.op = true ∧ 0 ≤ n ∧ n < x.H.sec := by
  unfold xMay at h
  split at h
  · split at h
    · rename_i h1 h2; exact ⟨h1, h2⟩
    · omega
  · omega
theorem xwrite_spec (x : Rs) (n : Int) (b : List Int) (hL : (x.L.length : Int) = x.H.sec) (hW : (x.W.length : Int) = x.H.sec) : ACall Try.prog 40 [.ptr 0 0 0, .v (.int .i64 n), .roI .u8 b] (rblk x) fun v h' => v = .v (.int .i64 (xWrite x n b).1) ∧ ∃ ext, h' = rblk (xWrite x n b).2 ++ ext := by
  have na : ∀ n : Nat, (0 : Int) ≤ n := fun n => Int.natCast_nonneg n
  by_cases h1 : xMay x n = 0
  · obtain ⟨h2, h3, h4⟩ := xMay_0 h1
    obtain ⟨i, rfl⟩ : ∃ i : Nat, n = i := ⟨n.toNat, by omega⟩
    have hi : i < x.L.length := by omega
    have hj : i < x.W.length := by omega
    have c1 : (i : Int) < x.L.length := by omega
    have c2 : (i : Int) < x.W.length := by omega
    have s1 : rowSet (vsL Value.string x.L) i (.v (.string (bytesOf b))) = some (vsL Value.string (x.L.set i (bytesOf b))) := by rw [rowSet_vs]; simp [oguard, hi]
    have s2 : rowSet (vsL Value.bool x.W) i (.v (.bool true)) = some (vsL Value.bool (x.W.set i true)) := by rw [rowSet_vs]; simp [oguard, hj]
    by_cases h5 : b.length = 512
    · simp only [xWrite, h1, h5, if_true, Int.toNat_natCast]
      have hh := xread_ok x i h1 hL
      unfold rblk rfL
      refine acall_run (good17 4) Try.func40 rfl ⟨by kernel_rfl, by show 3 ≤ _; decide, by kernel_rfl, by kernel_rfl⟩ rfl ?_; have hr : Try.f40.results.toList = [.tmp 6] := rfl; repeat (first | simp only [c17_P, c17_odd, c17_ro, Nat.reduceBEq, reduceIte, Nat.reduceEqDiff, reduceCtorEq, ne_eq, if_true, if_false, exA, exA, tabs, exB, exD, buildA, rowOr, rowSetAt, rowAgg, mkAgg, AV.isAggV, AV.parts, AV.one, AV.solid, headSize, indexAddrA, indexA, fieldAddrA, fieldA, sliceA, boundsA, bndA, lenA, arrayAtA, rowOf, makeSliceA, intsOf, copyA, Nat.reduceAdd, Nat.reduceSub, Nat.reduceMul, Nat.reduceLeDiff, Nat.reduceLT, Nat.reduceGT, Int.reduceToNat, Int.reduceLE, Int.reduceLT, Int.reduceEq, Int.reduceNe, Int.reduceAdd, Int.reduceSub, Int.reduceMul, Int.reduceNeg, ite_true, ite_false, dite_true, xc1, xc2, xc3, xc4, xc5, xc6, xc7, xc8, xc9, xc10, xc11, xc12, xc13, xc14, xc15, xc16, xc17, hr] | simp (maxSteps := 1000000) (disch := omega) only [exE, Int.toNat_natCast, Int.reduceToNat])
      refine callC_of (C := c17 4) hh ?_
      rintro v h' ⟨c, rfl, rfl⟩
      unfold rblk rfL
      repeat (first | simp only [c17_P, c17_odd, c17_ro, Nat.reduceBEq, reduceIte, Nat.reduceEqDiff, reduceCtorEq, ne_eq, if_true, if_false, exA, exA, tabs, exB, exD, buildA, rowOr, rowSetAt, rowAgg, mkAgg, AV.isAggV, AV.parts, AV.one, AV.solid, headSize, indexAddrA, indexA, fieldAddrA, fieldA, sliceA, boundsA, bndA, lenA, arrayAtA, rowOf, makeSliceA, intsOf, copyA, Nat.reduceAdd, Nat.reduceSub, Nat.reduceMul, Nat.reduceLeDiff, Nat.reduceLT, Nat.reduceGT, Int.reduceToNat, Int.reduceLE, Int.reduceLT, Int.reduceEq, Int.reduceNe, Int.reduceAdd, Int.reduceSub, Int.reduceMul, Int.reduceNeg, ite_true, ite_false, dite_true, xc1, xc2, xc3, xc4, xc5, xc6, xc7, xc8, xc9, xc10, xc11, xc12, xc13, xc14, xc15, xc16, xc17, hr, h5, rowS_vs, s1, s2] | simp (maxSteps := 1000000) (disch := omega) only [exE, Int.toNat_natCast, Int.reduceToNat])
      exact ⟨⟨na i, c1⟩, ⟨na i, c2⟩, _, rfl⟩
    · have h6 : (((b.length : Nat) : Int) != 512) = true := by simp; omega
      simp only [xWrite, h1, h5, if_true, if_false]
      have hh := xread_ok x i h1 hL
      unfold rblk rfL
      refine acall_run (good17 4) Try.func40 rfl ⟨by kernel_rfl, by show 3 ≤ _; decide, by kernel_rfl, by kernel_rfl⟩ rfl ?_; have hr : Try.f40.results.toList = [.tmp 6] := rfl; repeat (first | simp only [c17_P, c17_odd, c17_ro, Nat.reduceBEq, reduceIte, Nat.reduceEqDiff, reduceCtorEq, ne_eq, if_true, if_false, exA, exA, tabs, exB, exD, buildA, rowOr, rowSetAt, rowAgg, mkAgg, AV.isAggV, AV.parts, AV.one, AV.solid, headSize, indexAddrA, indexA, fieldAddrA, fieldA, sliceA, boundsA, bndA, lenA, arrayAtA, rowOf, makeSliceA, intsOf, copyA, Nat.reduceAdd, Nat.reduceSub, Nat.reduceMul, Nat.reduceLeDiff, Nat.reduceLT, Nat.reduceGT, Int.reduceToNat, Int.reduceLE, Int.reduceLT, Int.reduceEq, Int.reduceNe, Int.reduceAdd, Int.reduceSub, Int.reduceMul, Int.reduceNeg, ite_true, ite_false, dite_true, xc1, xc2, xc3, xc4, xc5, xc6, xc7, xc8, xc9, xc10, xc11, xc12, xc13, xc14, xc15, xc16, xc17, hr] | simp (maxSteps := 1000000) (disch := omega) only [exE, Int.toNat_natCast, Int.reduceToNat])
      refine callC_of (C := c17 4) hh ?_
      rintro v h' ⟨c, rfl, rfl⟩
      unfold rblk rfL
      repeat (first | simp only [c17_P, c17_odd, c17_ro, Nat.reduceBEq, reduceIte, Nat.reduceEqDiff, reduceCtorEq, ne_eq, if_true, if_false, exA, exA, tabs, exB, exD, buildA, rowOr, rowSetAt, rowAgg, mkAgg, AV.isAggV, AV.parts, AV.one, AV.solid, headSize, indexAddrA, indexA, fieldAddrA, fieldA, sliceA, boundsA, bndA, lenA, arrayAtA, rowOf, makeSliceA, intsOf, copyA, Nat.reduceAdd, Nat.reduceSub, Nat.reduceMul, Nat.reduceLeDiff, Nat.reduceLT, Nat.reduceGT, Int.reduceToNat, Int.reduceLE, Int.reduceLT, Int.reduceEq, Int.reduceNe, Int.reduceAdd, Int.reduceSub, Int.reduceMul, Int.reduceNeg, ite_true, ite_false, dite_true, xc1, xc2, xc3, xc4, xc5, xc6, xc7, xc8, xc9, xc10, xc11, xc12, xc13, xc14, xc15, xc16, xc17, hr, h6] | simp (maxSteps := 1000000) (disch := omega) only [exE, Int.toNat_natCast, Int.reduceToNat])
      exact ⟨_, rfl⟩
  · simp only [xWrite, h1, if_false]
    have h3 : (xMay x n != 0) = true := by simpa using h1
    have hh := xread_bad x n h1
    unfold rblk rfL
    refine acall_run (good17 4) Try.func40 rfl ⟨by kernel_rfl, by show 3 ≤ _; decide, by kernel_rfl, by kernel_rfl⟩ rfl ?_; have hr : Try.f40.results.toList = [.tmp 6] := rfl; repeat (first | simp only [c17_P, c17_odd, c17_ro, Nat.reduceBEq, reduceIte, Nat.reduceEqDiff, reduceCtorEq, ne_eq, if_true, if_false, exA, exA, tabs, exB, exD, buildA, rowOr, rowSetAt, rowAgg, mkAgg, AV.isAggV, AV.parts, AV.one, AV.solid, headSize, indexAddrA, indexA, fieldAddrA, fieldA, sliceA, boundsA, bndA, lenA, arrayAtA, rowOf, makeSliceA, intsOf, copyA, Nat.reduceAdd, Nat.reduceSub, Nat.reduceMul, Nat.reduceLeDiff, Nat.reduceLT, Nat.reduceGT, Int.reduceToNat, Int.reduceLE, Int.reduceLT, Int.reduceEq, Int.reduceNe, Int.reduceAdd, Int.reduceSub, Int.reduceMul, Int.reduceNeg, ite_true, ite_false, dite_true, xc1, xc2, xc3, xc4, xc5, xc6, xc7, xc8, xc9, xc10, xc11, xc12, xc13, xc14, xc15, xc16, xc17, hr] | simp (maxSteps := 1000000) (disch := omega) only [exE, Int.toNat_natCast, Int.reduceToNat])
    refine callC_of (C := c17 4) hh ?_
    rintro v h' ⟨rfl, rfl⟩
    unfold rblk rfL
    repeat (first | simp only [c17_P, c17_odd, c17_ro, Nat.reduceBEq, reduceIte, Nat.reduceEqDiff, reduceCtorEq, ne_eq, if_true, if_false, exA, exA, tabs, exB, exD, buildA, rowOr, rowSetAt, rowAgg, mkAgg, AV.isAggV, AV.parts, AV.one, AV.solid, headSize, indexAddrA, indexA, fieldAddrA, fieldA, sliceA, boundsA, bndA, lenA, arrayAtA, rowOf, makeSliceA, intsOf, copyA, Nat.reduceAdd, Nat.reduceSub, Nat.reduceMul, Nat.reduceLeDiff, Nat.reduceLT, Nat.reduceGT, Int.reduceToNat, Int.reduceLE, Int.reduceLT, Int.reduceEq, Int.reduceNe, Int.reduceAdd, Int.reduceSub, Int.reduceMul, Int.reduceNeg, ite_true, ite_false, dite_true, xc1, xc2, xc3, xc4, xc5, xc6, xc7, xc8, xc9, xc10, xc11, xc12, xc13, xc14, xc15, xc16, xc17, hr, h3] | simp (maxSteps := 1000000) (disch := omega) only [exE, Int.toNat_natCast, Int.reduceToNat])
    exact ⟨[], by simp⟩
def xpl (x : Rs) (n : Int) : Int := if x.R.rek = true then 230 else if 0 ≤ n ∧ n < x.P.length then 0 else 100
def xSlotAdd (x : Rs) (n : Int) (b : List Int) : Int × Rs :=
  if x.op = true then (if 512 < b.length then (1, x) else if xpl x n = 0 then (if (x.P.getD n.toNat (false, default)).1 = true then (5, x) else (0, { x with P := x.P.set n.toNat (true, bytesOf b), R := up x.R })) else (xpl x n, x)) else (6, x)
end Go.Proofs.Ytgkhngcnbddoiaa

namespace Go.Proofs.Ytgkhngcnbddoiaa
open Go.Ax
def xRekeyStep (x : Rs) : Bool × Int × Rs :=
  if x.op = true then (if x.R.rek = true then
    (dnB x.H x.R, 0, { x with R := ⟨if dnB x.H x.R = true then IntKind.u64.wrap ((if x.R.fro < x.H.sec then IntKind.u64.wrap (x.R.ctr + 1) else x.R.ctr) + 1) else (if x.R.fro < x.H.sec then IntKind.u64.wrap (x.R.ctr + 1) else x.R.ctr), (aft x.H x.R).rek, (aft x.H x.R).fro, x.R.tre⟩ })
    else (false, 231, x)) else (false, 6, x)
theorem xrekeyStep_spec (x : Rs) (hg : 0 ≤ x.H.gen) (ht : x.R.tre.length = 32) (hn : x.H.nam.length = 16) (hm : mayB x.H x.R = true) : ACall Try.prog 46 [.ptr 0 0 0] (rblk x) fun v h' => v = .tup [.v (.bool (xRekeyStep x).1), .v (.int .i64 (xRekeyStep x).2.1)] ∧ ∃ ext, h' = rblk (xRekeyStep x).2.2 ++ ext := by
  have ht2 : x.R.tre.take 32 = x.R.tre := List.take_of_length_le (by omega)
  have hn2 : x.H.nam.take 16 = x.H.nam := List.take_of_length_le (by omega)
  unfold rblk rfL
  cases h1 : x.op
  · simp only [xRekeyStep, h1, if_false, Bool.false_eq_true]; refine acall_run (good17 4) Try.func46 rfl ⟨by kernel_rfl, by show 1 ≤ _; decide, by kernel_rfl, by kernel_rfl⟩ rfl ?_; have hr : Try.f46.results.toList = [.tmp 2, .tmp 3] := rfl; repeat (first | simp only [c17_P, c17_odd, c17_ro, Nat.reduceBEq, reduceIte, Nat.reduceEqDiff, reduceCtorEq, ne_eq, if_true, if_false, exA, exA, tabs, exB, exD, buildA, rowOr, rowSetAt, rowAgg, mkAgg, AV.isAggV, AV.parts, AV.one, AV.solid, headSize, indexAddrA, indexA, fieldAddrA, fieldA, sliceA, boundsA, bndA, lenA, arrayAtA, rowOf, makeSliceA, intsOf, copyA, Nat.reduceAdd, Nat.reduceSub, Nat.reduceMul, Nat.reduceLeDiff, Nat.reduceLT, Nat.reduceGT, Int.reduceToNat, Int.reduceLE, Int.reduceLT, Int.reduceEq, Int.reduceNe, Int.reduceAdd, Int.reduceSub, Int.reduceMul, Int.reduceNeg, ite_true, ite_false, dite_true, xc1, xc2, xc3, xc4, xc5, xc6, xc7, xc8, xc9, xc10, xc11, xc12, xc13, xc14, xc15, xc16, xc17, hr, h1] | simp (maxSteps := 1000000) (disch := omega) only [exE, Int.toNat_natCast, Int.reduceToNat]); exact ⟨[], by simp [h1]⟩
  cases h2 : x.R.rek
  · simp only [xRekeyStep, h1, h2, if_true, if_false, Bool.false_eq_true]; refine acall_run (good17 4) Try.func46 rfl ⟨by kernel_rfl, by show 1 ≤ _; decide, by kernel_rfl, by kernel_rfl⟩ rfl ?_; have hr : Try.f46.results.toList = [.tmp 2, .tmp 3] := rfl; repeat (first | simp only [c17_P, c17_odd, c17_ro, Nat.reduceBEq, reduceIte, Nat.reduceEqDiff, reduceCtorEq, ne_eq, if_true, if_false, exA, exA, tabs, exB, exD, buildA, rowOr, rowSetAt, rowAgg, mkAgg, AV.isAggV, AV.parts, AV.one, AV.solid, headSize, indexAddrA, indexA, fieldAddrA, fieldA, sliceA, boundsA, bndA, lenA, arrayAtA, rowOf, makeSliceA, intsOf, copyA, Nat.reduceAdd, Nat.reduceSub, Nat.reduceMul, Nat.reduceLeDiff, Nat.reduceLT, Nat.reduceGT, Int.reduceToNat, Int.reduceLE, Int.reduceLT, Int.reduceEq, Int.reduceNe, Int.reduceAdd, Int.reduceSub, Int.reduceMul, Int.reduceNeg, ite_true, ite_false, dite_true, xc1, xc2, xc3, xc4, xc5, xc6, xc7, xc8, xc9, xc10, xc11, xc12, xc13, xc14, xc15, xc16, xc17, hr, h1, h2] | simp (maxSteps := 1000000) (disch := omega) only [exE, Int.toNat_natCast, Int.reduceToNat]); exact ⟨[], by simp [h1, h2]⟩
  have h0 : ∀ c, stE x.H ⟨c, true, x.R.fro, x.R.tre⟩ = 0 := by
    intro c
    have h5 : mayB x.H ⟨c, true, x.R.fro, x.R.tre⟩ = true := by
      simp only [mayB, h2, Bool.true_or, Bool.and_true] at hm ⊢
      exact hm
    unfold stE; rw [if_pos h5, if_pos rfl]
  have haf : ∀ c, afA x.H ⟨c, true, x.R.fro, x.R.tre⟩ = .tup [.agg [.v (.int .u64 c), .v (.bool (!dnB x.H x.R)), .v (.int .i64 (if dnB x.H x.R = true then 0 else toN x.H x.R)), .arr 32 .u8 x.R.tre], .v (.bool (dnB x.H x.R)), .v (.int .i64 0)] := fun c => af_0 (h0 c)
  cases h3 : dnB x.H x.R <;> by_cases h4 : x.R.fro < x.H.sec <;>
    (simp only [xRekeyStep, h1, h2, h3, h4, if_true, if_false, Bool.false_eq_true, aft]
     refine acall_run (good17 4) Try.func46 rfl ⟨by kernel_rfl, by show 1 ≤ _; decide, by kernel_rfl, by kernel_rfl⟩ rfl ?_; have hr : Try.f46.results.toList = [.tmp 2, .tmp 3] := rfl; repeat (first | simp only [c17_P, c17_odd, c17_ro, Nat.reduceBEq, reduceIte, Nat.reduceEqDiff, reduceCtorEq, ne_eq, if_true, if_false, exA, exA, tabs, exB, exD, buildA, rowOr, rowSetAt, rowAgg, mkAgg, AV.isAggV, AV.parts, AV.one, AV.solid, headSize, indexAddrA, indexA, fieldAddrA, fieldA, sliceA, boundsA, bndA, lenA, arrayAtA, rowOf, makeSliceA, intsOf, copyA, Nat.reduceAdd, Nat.reduceSub, Nat.reduceMul, Nat.reduceLeDiff, Nat.reduceLT, Nat.reduceGT, Int.reduceToNat, Int.reduceLE, Int.reduceLT, Int.reduceEq, Int.reduceNe, Int.reduceAdd, Int.reduceSub, Int.reduceMul, Int.reduceNeg, ite_true, ite_false, dite_true, xc1, xc2, xc3, xc4, xc5, xc6, xc7, xc8, xc9, xc10, xc11, xc12, xc13, xc14, xc15, xc16, xc17, hr, h1, h2, hg, ht, ht2, hn, hn2, Hd_eta, haf, h3, h4] | simp (maxSteps := 1000000) (disch := omega) only [exE, Int.toNat_natCast, Int.reduceToNat])
     exact ⟨_, rfl⟩)
end Go.Proofs.Ytgkhngcnbddoiaa

namespace Go.Proofs.Ytgkhngcnbddoiaa
open Go.Ax
def rise (f : Nat → Bool) : Nat → List Int
  | 0 => []
  | j + 1 => if f j = true then rise f j ++ [(j : Int)] else rise f j
theorem mem_rise (f : Nat → Bool) : ∀ (j : Nat) (x : Int), x ∈ rise f j ↔ ∃ i : Nat, i < j ∧ f i = true ∧ x = i
  | 0, x => by simp [rise]
  | j + 1, x => by
    have ih := mem_rise f j x
    simp only [rise]
    split
    · rename_i h
      simp only [List.mem_append, List.mem_cons, List.not_mem_nil, or_false, ih]
      constructor
      · rintro (⟨i, h1, h2, h3⟩ | rfl)
        · exact ⟨i, by omega, h2, h3⟩
        · exact ⟨j, by omega, h, rfl⟩
      · rintro ⟨i, h1, h2, rfl⟩
        by_cases hi : i = j
        · exact .inr (by rw [hi])
        · exact .inl ⟨i, by omega, h2, rfl⟩
    · rename_i h
      rw [ih]
      constructor
      · rintro ⟨i, h1, h2⟩
        exact ⟨i, by omega, h2⟩
      · rintro ⟨i, h1, h2, h3⟩
        refine ⟨i, ?_, h2, h3⟩
        have : i ≠ j := fun he => h (he ▸ h2)
        omega
theorem rise_pair (f : Nat → Bool) : ∀ j, (rise f j).Pairwise (· < ·)
  | 0 => .nil
  | j + 1 => by
    have ih := rise_pair f j
    simp only [rise]
    split
    · rw [List.pairwise_append]
      refine ⟨ih, List.pairwise_singleton _ _, ?_⟩
      intro a ha b hb
      obtain ⟨i, h1, _, rfl⟩ := (mem_rise f j a).1 ha
      simp only [List.mem_cons, List.not_mem_nil, or_false] at hb
      omega
    · exact ih
theorem rise_nodup (f : Nat → Bool) (j : Nat) : (rise f j).Nodup := (rise_pair f j).imp (fun h => by omega)
theorem rise_perm {ks : List Int} {f : Nat → Bool} {j : Nat} (hn : ks.Nodup) (hm : ∀ x, x ∈ ks ↔ x ∈ rise f j) : ks.Perm (rise f j) := (List.perm_ext_iff_of_nodup hn (rise_nodup f j)).2 hm
theorem srt_rise {ks : List Int} {f : Nat → Bool} {j : Nat} (hn : ks.Nodup) (hm : ∀ x, x ∈ ks ↔ x ∈ rise f j) : srt ks = rise f j := by
  have h1 : (srt ks).Perm (rise f j) := (List.mergeSort_perm ks _).trans (rise_perm hn hm)
  have h2 : (srt ks).Pairwise (fun a b => decide (a ≤ b) = true) := List.pairwise_mergeSort (fun a b c h1 h2 => by simp at h1 h2 ⊢; omega) (fun a b => by simp; omega) ks
  have h3 : (srt ks).Pairwise (· ≤ ·) := h2.imp (fun h => by simpa using h)
  exact List.Perm.eq_of_pairwise (le := (· ≤ ·)) (fun a b _ _ h1 h2 => by omega) h3 ((rise_pair f j).imp (fun h => by omega)) h1
end Go.Proofs.Ytgkhngcnbddoiaa

namespace Go.Proofs.Ytgkhngcnbddoiaa
open Go.Ax
theorem rise_len (f : Nat → Bool) : ∀ j, (rise f j).length ≤ j
  | 0 => by simp [rise]
  | j + 1 => by
    have ih := rise_len f j
    simp only [rise]
    split
    · simp; omega
    · omega
def wf (x : Rs) (i : Nat) : Bool := x.W.getD i false
def wrS (x : Rs) (j : Nat) (c : Nat) : St :=
  match rise (wf x) j with
  | [] => ⟨envL [(0, .ptr 0 0 0), (3, .v (.slice none 0 0)), (4, .v (.int .i64 j))], rblk x⟩
  | a :: l => ⟨envL [(0, .ptr 0 0 0), (3, .sl 4 0 1 0 (l.length + 1) c), (4, .v (.int .i64 j))], rblk x ++ [some [.arr (l.length + 1) .i64 (a :: l)]]⟩
theorem vs1 {α : Type} (f : α → Value) (a : α) : vsL f [a] = [.v (f a)] := rfl
theorem xwritten_spec (x : Rs) (hW : x.W.length ≤ 1048576) : ACall Try.prog 23 [.ptr 0 0 0] (rblk x) fun v h' =>
    (rise (wf x) x.W.length = [] ∧ v = .v (.slice none 0 0) ∧ h' = rblk x) ∨ ∃ c, v = .sl 4 0 1 0 (rise (wf x) x.W.length).length c ∧ h' = rblk x ++ [some [.arr (rise (wf x) x.W.length).length .i64 (rise (wf x) x.W.length)]] := by
  have na : ∀ n : Nat, (0 : Int) ≤ n := fun n => Int.natCast_nonneg n
  unfold rblk rfL
  refine acall_run (good17 4) Try.func23 rfl ⟨by kernel_rfl, by show 1 ≤ _; decide, by kernel_rfl, by kernel_rfl⟩ rfl ?_; have hr : Try.f23.results.toList = [.tmp 2] := rfl; repeat (first | simp only [c17_P, c17_odd, c17_ro, Nat.reduceBEq, reduceIte, Nat.reduceEqDiff, reduceCtorEq, ne_eq, if_true, if_false, exA, exA, tabs, exB, exD, buildA, rowOr, rowSetAt, rowAgg, mkAgg, AV.isAggV, AV.parts, AV.one, AV.solid, headSize, indexAddrA, indexA, fieldAddrA, fieldA, sliceA, boundsA, bndA, lenA, arrayAtA, rowOf, makeSliceA, intsOf, copyA, Nat.reduceAdd, Nat.reduceSub, Nat.reduceMul, Nat.reduceLeDiff, Nat.reduceLT, Nat.reduceGT, Int.reduceToNat, Int.reduceLE, Int.reduceLT, Int.reduceEq, Int.reduceNe, Int.reduceAdd, Int.reduceSub, Int.reduceMul, Int.reduceNeg, ite_true, ite_false, dite_true, xc1, xc2, xc3, xc4, xc5, xc6, xc7, xc8, xc9, xc10, xc11, xc12, xc13, xc14, xc15, xc16, xc17, hr] | simp (maxSteps := 1000000) (disch := omega) only [exE, Int.toNat_natCast, Int.reduceToNat])
  refine loop_countE (good17 4) (wrS x) x.W.length (by kernel_rfl) ⟨0, ?_⟩ ?_ ?_
  · unfold wrS rise rblk rfL; (refine weak_of ?_ ?_; (focus (first | with_reducible rfl | (simp only [Int.natCast_zero] <;> with_reducible rfl))); simp only [exF, Nat.reduceEqDiff, if_true, if_false, reduceIte, Option.some.injEq, reduceCtorEq, Int.cast_ofNat_Int, Int.natCast_zero])
  · intro i c hi
    have c1 : (i : Int) < (x.W.length : Int) := by omega
    have w1 : IntKind.i64.wrap ((i : Int) + 1) = ((i + 1 : Nat) : Int) := by rw [i64_id _ (by omega)]; omega
    have hc : rowCell (vsL Value.bool x.W) i = some (.v (.bool (wf x i))) := by rw [rowCell_vs false]; simp [oguard, hi, wf]
    cases hr0 : rise (wf x) i with
    | nil =>
      cases hf : wf x i
      · have e : rise (wf x) (i + 1) = [] := by simp [rise, hf, hr0]
        simp only [wrS, hr0, e]
        unfold rblk rfL
        repeat (first | simp only [c17_P, c17_odd, c17_ro, Nat.reduceBEq, reduceIte, Nat.reduceEqDiff, reduceCtorEq, ne_eq, if_true, if_false, exA, exA, tabs, exB, exD, buildA, rowOr, rowSetAt, rowAgg, mkAgg, AV.isAggV, AV.parts, AV.one, AV.solid, headSize, indexAddrA, indexA, fieldAddrA, fieldA, sliceA, boundsA, bndA, lenA, arrayAtA, rowOf, makeSliceA, intsOf, copyA, Nat.reduceAdd, Nat.reduceSub, Nat.reduceMul, Nat.reduceLeDiff, Nat.reduceLT, Nat.reduceGT, Int.reduceToNat, Int.reduceLE, Int.reduceLT, Int.reduceEq, Int.reduceNe, Int.reduceAdd, Int.reduceSub, Int.reduceMul, Int.reduceNeg, ite_true, ite_false, dite_true, xc1, xc2, xc3, xc4, xc5, xc6, xc7, xc8, xc9, xc10, xc11, xc12, xc13, xc14, xc15, xc16, xc17, hr, c1, w1, rowS_vs, hc, hf] | simp (maxSteps := 1000000) (disch := omega) only [exE, Int.toNat_natCast, Int.reduceToNat])
        refine ⟨na i, 0, ?_⟩
        (refine weak_of ?_ ?_; (focus (first | with_reducible rfl | (simp only [List.cons_append, List.nil_append] <;> with_reducible rfl))); simp only [exF, Nat.reduceEqDiff, if_true, if_false, reduceIte, Option.some.injEq, reduceCtorEq, Int.cast_ofNat_Int, List.cons_append, List.nil_append])
      · have e : rise (wf x) (i + 1) = [(i : Int)] := by simp [rise, hf, hr0]
        simp only [wrS, hr0, e]
        unfold rblk rfL
        repeat (first | simp only [c17_P, c17_odd, c17_ro, Nat.reduceBEq, reduceIte, Nat.reduceEqDiff, reduceCtorEq, ne_eq, if_true, if_false, exA, exA, tabs, exB, exD, buildA, rowOr, rowSetAt, rowAgg, mkAgg, AV.isAggV, AV.parts, AV.one, AV.solid, headSize, indexAddrA, indexA, fieldAddrA, fieldA, sliceA, boundsA, bndA, lenA, arrayAtA, rowOf, makeSliceA, intsOf, copyA, Nat.reduceAdd, Nat.reduceSub, Nat.reduceMul, Nat.reduceLeDiff, Nat.reduceLT, Nat.reduceGT, Int.reduceToNat, Int.reduceLE, Int.reduceLT, Int.reduceEq, Int.reduceNe, Int.reduceAdd, Int.reduceSub, Int.reduceMul, Int.reduceNeg, ite_true, ite_false, dite_true, xc1, xc2, xc3, xc4, xc5, xc6, xc7, xc8, xc9, xc10, xc11, xc12, xc13, xc14, xc15, xc16, xc17, hr, c1, w1, rowS_vs, hc, hf] | simp (maxSteps := 1000000) (disch := omega) only [exE, Int.toNat_natCast, Int.reduceToNat])
        refine ⟨na i, fun c' _ => ⟨c', ?_⟩⟩
        (refine weak_gc' [0, 1, 2, 3, 5] (by decide) (by simp) (by rfl) ?_ ?_; (focus (first | with_reducible rfl | (simp only [List.map_cons, List.map_nil, List.cons_append, List.nil_append, List.getElem?_cons_zero, List.getElem?_cons_succ, renB, renL, Option.map_some, Option.map_none, AV.ren, gcMap, List.getD_cons_zero, List.getD_cons_succ, renL, renL_vs, renL_pr, List.cons_append, List.nil_append] <;> with_reducible rfl))); simp only [exF, List.map_cons, List.map_nil, List.length_cons, List.length_nil, Nat.reduceAdd, AV.ren, renL, gcMap, Nat.reduceEqDiff, if_true, if_false, reduceIte, Option.some.injEq, reduceCtorEq, Int.cast_ofNat_Int, renL, renL_vs, renL_pr, List.cons_append, List.nil_append])
    | cons a l =>
      cases hf : wf x i
      · have e : rise (wf x) (i + 1) = a :: l := by simp [rise, hf, hr0]
        simp only [wrS, hr0, e]
        unfold rblk rfL
        repeat (first | simp only [c17_P, c17_odd, c17_ro, Nat.reduceBEq, reduceIte, Nat.reduceEqDiff, reduceCtorEq, ne_eq, if_true, if_false, exA, exA, tabs, exB, exD, buildA, rowOr, rowSetAt, rowAgg, mkAgg, AV.isAggV, AV.parts, AV.one, AV.solid, headSize, indexAddrA, indexA, fieldAddrA, fieldA, sliceA, boundsA, bndA, lenA, arrayAtA, rowOf, makeSliceA, intsOf, copyA, Nat.reduceAdd, Nat.reduceSub, Nat.reduceMul, Nat.reduceLeDiff, Nat.reduceLT, Nat.reduceGT, Int.reduceToNat, Int.reduceLE, Int.reduceLT, Int.reduceEq, Int.reduceNe, Int.reduceAdd, Int.reduceSub, Int.reduceMul, Int.reduceNeg, ite_true, ite_false, dite_true, xc1, xc2, xc3, xc4, xc5, xc6, xc7, xc8, xc9, xc10, xc11, xc12, xc13, xc14, xc15, xc16, xc17, hr, c1, w1, rowS_vs, hc, hf] | simp (maxSteps := 1000000) (disch := omega) only [exE, Int.toNat_natCast, Int.reduceToNat])
        refine ⟨na i, c, ?_⟩
        (refine weak_of ?_ ?_; (focus (first | with_reducible rfl | (simp only [List.cons_append, List.nil_append] <;> with_reducible rfl))); simp only [exF, Nat.reduceEqDiff, if_true, if_false, reduceIte, Option.some.injEq, reduceCtorEq, Int.cast_ofNat_Int, List.cons_append, List.nil_append])
      · have e : rise (wf x) (i + 1) = a :: (l ++ [(i : Int)]) := by simp [rise, hf, hr0]
        simp only [wrS, hr0, e]
        unfold rblk rfL
        have hl : l.length + 1 ≤ i := by have := rise_len (wf x) i; rw [hr0] at this; simpa using this
        have hg1 : (l.length + 1 + 1) * 8 ≤ 140737488355328 := by omega
        have hg2 : l.length ≤ 9223372036854775805 := by omega
        repeat (first | simp only [c17_P, c17_odd, c17_ro, Nat.reduceBEq, reduceIte, Nat.reduceEqDiff, reduceCtorEq, ne_eq, if_true, if_false, exA, exA, tabs, exB, exD, buildA, rowOr, rowSetAt, rowAgg, mkAgg, AV.isAggV, AV.parts, AV.one, AV.solid, headSize, indexAddrA, indexA, fieldAddrA, fieldA, sliceA, boundsA, bndA, lenA, arrayAtA, rowOf, makeSliceA, intsOf, copyA, Nat.reduceAdd, Nat.reduceSub, Nat.reduceMul, Nat.reduceLeDiff, Nat.reduceLT, Nat.reduceGT, Int.reduceToNat, Int.reduceLE, Int.reduceLT, Int.reduceEq, Int.reduceNe, Int.reduceAdd, Int.reduceSub, Int.reduceMul, Int.reduceNeg, ite_true, ite_false, dite_true, xc1, xc2, xc3, xc4, xc5, xc6, xc7, xc8, xc9, xc10, xc11, xc12, xc13, xc14, xc15, xc16, xc17, hr, c1, w1, rowS_vs, hc, hf, hg1, hg2] | simp (maxSteps := 1000000) (disch := omega) only [exE, Int.toNat_natCast, Int.reduceToNat])
        refine ⟨na i, fun c' _ => ⟨c', ?_⟩⟩
        (refine weak_gc' [0, 1, 2, 3, 6] (by decide) (by simp) (by rfl) ?_ ?_; (focus (first | with_reducible rfl | (simp only [List.map_cons, List.map_nil, List.cons_append, List.nil_append, List.getElem?_cons_zero, List.getElem?_cons_succ, renB, renL, Option.map_some, Option.map_none, AV.ren, gcMap, List.getD_cons_zero, List.getD_cons_succ, renL, renL_vs, renL_pr, List.cons_append, List.nil_append, List.length_append, List.length_cons, List.length_nil, Nat.reduceAdd] <;> with_reducible rfl))); simp only [exF, List.map_cons, List.map_nil, List.length_cons, List.length_nil, Nat.reduceAdd, AV.ren, renL, gcMap, Nat.reduceEqDiff, if_true, if_false, reduceIte, Option.some.injEq, reduceCtorEq, Int.cast_ofNat_Int, renL, renL_vs, renL_pr, List.cons_append, List.nil_append, List.length_append, List.length_cons, List.length_nil, Nat.reduceAdd])
  · intro c
    cases hr0 : rise (wf x) x.W.length with
    | nil =>
      simp only [wrS, hr0]
      unfold rblk rfL
      repeat (first | simp only [c17_P, c17_odd, c17_ro, Nat.reduceBEq, reduceIte, Nat.reduceEqDiff, reduceCtorEq, ne_eq, if_true, if_false, exA, exA, tabs, exB, exD, buildA, rowOr, rowSetAt, rowAgg, mkAgg, AV.isAggV, AV.parts, AV.one, AV.solid, headSize, indexAddrA, indexA, fieldAddrA, fieldA, sliceA, boundsA, bndA, lenA, arrayAtA, rowOf, makeSliceA, intsOf, copyA, Nat.reduceAdd, Nat.reduceSub, Nat.reduceMul, Nat.reduceLeDiff, Nat.reduceLT, Nat.reduceGT, Int.reduceToNat, Int.reduceLE, Int.reduceLT, Int.reduceEq, Int.reduceNe, Int.reduceAdd, Int.reduceSub, Int.reduceMul, Int.reduceNeg, ite_true, ite_false, dite_true, xc1, xc2, xc3, xc4, xc5, xc6, xc7, xc8, xc9, xc10, xc11, xc12, xc13, xc14, xc15, xc16, xc17, hr] | simp (maxSteps := 1000000) (disch := omega) only [exE, Int.toNat_natCast, Int.reduceToNat])
    | cons a l =>
      simp only [wrS, hr0]
      unfold rblk rfL
      repeat (first | simp only [c17_P, c17_odd, c17_ro, Nat.reduceBEq, reduceIte, Nat.reduceEqDiff, reduceCtorEq, ne_eq, if_true, if_false, exA, exA, tabs, exB, exD, buildA, rowOr, rowSetAt, rowAgg, mkAgg, AV.isAggV, AV.parts, AV.one, AV.solid, headSize, indexAddrA, indexA, fieldAddrA, fieldA, sliceA, boundsA, bndA, lenA, arrayAtA, rowOf, makeSliceA, intsOf, copyA, Nat.reduceAdd, Nat.reduceSub, Nat.reduceMul, Nat.reduceLeDiff, Nat.reduceLT, Nat.reduceGT, Int.reduceToNat, Int.reduceLE, Int.reduceLT, Int.reduceEq, Int.reduceNe, Int.reduceAdd, Int.reduceSub, Int.reduceMul, Int.reduceNeg, ite_true, ite_false, dite_true, xc1, xc2, xc3, xc4, xc5, xc6, xc7, xc8, xc9, xc10, xc11, xc12, xc13, xc14, xc15, xc16, xc17, hr] | simp (maxSteps := 1000000) (disch := omega) only [exE, Int.toNat_natCast, Int.reduceToNat])
      exact .inr ⟨c, rfl⟩
end Go.Proofs.Ytgkhngcnbddoiaa

namespace Go.Proofs.Ytgkhngcnbddoiaa
open Go.Ax
def pd : Bool × ByteArray := (false, default)
theorem xpl_0 {x : Rs} {n : Int} (h : xpl x n = 0) : x.R.rek = false ∧ 0 ≤ n ∧ n < x.P.length := by
  unfold xpl at h
  split at h
  · omega
  · rename_i h1
    split at h
    · rename_i h2; exact ⟨by simpa using h1, h2⟩
    · omega
theorem xslotAdd_spec (x : Rs) (n : Int) (b : List Int) : ACall Try.prog 43 [.ptr 0 0 0, .v (.int .i64 n), .roI .u8 b] (rblk x) fun v h' => v = .v (.int .i64 (xSlotAdd x n b).1) ∧ h' = rblk (xSlotAdd x n b).2 := by
  have na : ∀ n : Nat, (0 : Int) ≤ n := fun n => Int.natCast_nonneg n
  unfold rblk rfL
  cases h1 : x.op
  · simp only [xSlotAdd, h1, if_false, Bool.false_eq_true]; refine acall_run (good17 4) Try.func43 rfl ⟨by kernel_rfl, by show 3 ≤ _; decide, by kernel_rfl, by kernel_rfl⟩ rfl ?_; have hr : Try.f43.results.toList = [.tmp 6] := rfl; repeat (first | simp only [c17_P, c17_odd, c17_ro, Nat.reduceBEq, reduceIte, Nat.reduceEqDiff, reduceCtorEq, ne_eq, if_true, if_false, exA, exA, tabs, exB, exD, buildA, rowOr, rowSetAt, rowAgg, mkAgg, AV.isAggV, AV.parts, AV.one, AV.solid, headSize, indexAddrA, indexA, fieldAddrA, fieldA, sliceA, boundsA, bndA, lenA, arrayAtA, rowOf, makeSliceA, intsOf, copyA, Nat.reduceAdd, Nat.reduceSub, Nat.reduceMul, Nat.reduceLeDiff, Nat.reduceLT, Nat.reduceGT, Int.reduceToNat, Int.reduceLE, Int.reduceLT, Int.reduceEq, Int.reduceNe, Int.reduceAdd, Int.reduceSub, Int.reduceMul, Int.reduceNeg, ite_true, ite_false, dite_true, xc1, xc2, xc3, xc4, xc5, xc6, xc7, xc8, xc9, xc10, xc11, xc12, xc13, xc14, xc15, xc16, xc17, hr, h1] | simp (maxSteps := 1000000) (disch := omega) only [exE, Int.toNat_natCast, Int.reduceToNat])
  by_cases h2 : 512 < b.length
  · simp only [xSlotAdd, h1, h2, if_true]; refine acall_run (good17 4) Try.func43 rfl ⟨by kernel_rfl, by show 3 ≤ _; decide, by kernel_rfl, by kernel_rfl⟩ rfl ?_; have hr : Try.f43.results.toList = [.tmp 6] := rfl; repeat (first | simp only [c17_P, c17_odd, c17_ro, Nat.reduceBEq, reduceIte, Nat.reduceEqDiff, reduceCtorEq, ne_eq, if_true, if_false, exA, exA, tabs, exB, exD, buildA, rowOr, rowSetAt, rowAgg, mkAgg, AV.isAggV, AV.parts, AV.one, AV.solid, headSize, indexAddrA, indexA, fieldAddrA, fieldA, sliceA, boundsA, bndA, lenA, arrayAtA, rowOf, makeSliceA, intsOf, copyA, Nat.reduceAdd, Nat.reduceSub, Nat.reduceMul, Nat.reduceLeDiff, Nat.reduceLT, Nat.reduceGT, Int.reduceToNat, Int.reduceLE, Int.reduceLT, Int.reduceEq, Int.reduceNe, Int.reduceAdd, Int.reduceSub, Int.reduceMul, Int.reduceNeg, ite_true, ite_false, dite_true, xc1, xc2, xc3, xc4, xc5, xc6, xc7, xc8, xc9, xc10, xc11, xc12, xc13, xc14, xc15, xc16, xc17, hr, h1] | simp (maxSteps := 1000000) (disch := omega) only [exE, Int.toNat_natCast, Int.reduceToNat])
  cases h3 : x.R.rek
  · by_cases h4 : 0 ≤ n
    · by_cases h5 : n < x.P.length
      · obtain ⟨i, rfl⟩ : ∃ i : Nat, n = i := ⟨n.toNat, by omega⟩
        have hi : i < x.P.length := by omega
        have e : xpl x (i : Int) = 0 := by simp only [xpl, h3, h4, h5, and_self, if_true, if_false, Bool.false_eq_true]
        have c0 := drop_pr (f := fun p : Bool × ByteArray => Value.bool p.1) (g := fun p => Value.string p.2) pd x.P i hi
        have s0 := put_pr (f := fun p : Bool × ByteArray => Value.bool p.1) (g := fun p => Value.string p.2) (true, bytesOf b) x.P i hi
        simp only [pd] at c0
        cases h6 : (x.P.getD i (false, default)).1
        · simp only [xSlotAdd, h1, h2, e, h6, if_true, if_false, Bool.false_eq_true, Int.toNat_natCast]
          rw [h6] at c0
          refine acall_run (good17 4) Try.func43 rfl ⟨by kernel_rfl, by show 3 ≤ _; decide, by kernel_rfl, by kernel_rfl⟩ rfl ?_; have hr : Try.f43.results.toList = [.tmp 6] := rfl; repeat (first | simp only [c17_P, c17_odd, c17_ro, Nat.reduceBEq, reduceIte, Nat.reduceEqDiff, reduceCtorEq, ne_eq, if_true, if_false, exA, exA, tabs, exB, exD, buildA, rowOr, rowSetAt, rowAgg, mkAgg, AV.isAggV, AV.parts, AV.one, AV.solid, headSize, indexAddrA, indexA, fieldAddrA, fieldA, sliceA, boundsA, bndA, lenA, arrayAtA, rowOf, makeSliceA, intsOf, copyA, Nat.reduceAdd, Nat.reduceSub, Nat.reduceMul, Nat.reduceLeDiff, Nat.reduceLT, Nat.reduceGT, Int.reduceToNat, Int.reduceLE, Int.reduceLT, Int.reduceEq, Int.reduceNe, Int.reduceAdd, Int.reduceSub, Int.reduceMul, Int.reduceNeg, ite_true, ite_false, dite_true, xc1, xc2, xc3, xc4, xc5, xc6, xc7, xc8, xc9, xc10, xc11, xc12, xc13, xc14, xc15, xc16, xc17, hr, na, h1, h3, h5, rowS_pr, c0, s0, up] | simp (maxSteps := 1000000) (disch := omega) only [exE, Int.toNat_natCast, Int.reduceToNat])
        · simp only [xSlotAdd, h1, h2, e, h6, if_true, if_false, Bool.false_eq_true, Int.toNat_natCast]
          rw [h6] at c0
          refine acall_run (good17 4) Try.func43 rfl ⟨by kernel_rfl, by show 3 ≤ _; decide, by kernel_rfl, by kernel_rfl⟩ rfl ?_; have hr : Try.f43.results.toList = [.tmp 6] := rfl; repeat (first | simp only [c17_P, c17_odd, c17_ro, Nat.reduceBEq, reduceIte, Nat.reduceEqDiff, reduceCtorEq, ne_eq, if_true, if_false, exA, exA, tabs, exB, exD, buildA, rowOr, rowSetAt, rowAgg, mkAgg, AV.isAggV, AV.parts, AV.one, AV.solid, headSize, indexAddrA, indexA, fieldAddrA, fieldA, sliceA, boundsA, bndA, lenA, arrayAtA, rowOf, makeSliceA, intsOf, copyA, Nat.reduceAdd, Nat.reduceSub, Nat.reduceMul, Nat.reduceLeDiff, Nat.reduceLT, Nat.reduceGT, Int.reduceToNat, Int.reduceLE, Int.reduceLT, Int.reduceEq, Int.reduceNe, Int.reduceAdd, Int.reduceSub, Int.reduceMul, Int.reduceNeg, ite_true, ite_false, dite_true, xc1, xc2, xc3, xc4, xc5, xc6, xc7, xc8, xc9, xc10, xc11, xc12, xc13, xc14, xc15, xc16, xc17, hr, na, h1, h3, h5, rowS_pr, c0] | simp (maxSteps := 1000000) (disch := omega) only [exE, Int.toNat_natCast, Int.reduceToNat])
      · have e : xpl x n = 100 := by simp only [xpl, h3, h4, h5, and_false, if_false, Bool.false_eq_true]
        simp only [xSlotAdd, h1, h2, e, if_true, if_false, Bool.false_eq_true, Int.reduceEq]
        refine acall_run (good17 4) Try.func43 rfl ⟨by kernel_rfl, by show 3 ≤ _; decide, by kernel_rfl, by kernel_rfl⟩ rfl ?_; have hr : Try.f43.results.toList = [.tmp 6] := rfl; repeat (first | simp only [c17_P, c17_odd, c17_ro, Nat.reduceBEq, reduceIte, Nat.reduceEqDiff, reduceCtorEq, ne_eq, if_true, if_false, exA, exA, tabs, exB, exD, buildA, rowOr, rowSetAt, rowAgg, mkAgg, AV.isAggV, AV.parts, AV.one, AV.solid, headSize, indexAddrA, indexA, fieldAddrA, fieldA, sliceA, boundsA, bndA, lenA, arrayAtA, rowOf, makeSliceA, intsOf, copyA, Nat.reduceAdd, Nat.reduceSub, Nat.reduceMul, Nat.reduceLeDiff, Nat.reduceLT, Nat.reduceGT, Int.reduceToNat, Int.reduceLE, Int.reduceLT, Int.reduceEq, Int.reduceNe, Int.reduceAdd, Int.reduceSub, Int.reduceMul, Int.reduceNeg, ite_true, ite_false, dite_true, xc1, xc2, xc3, xc4, xc5, xc6, xc7, xc8, xc9, xc10, xc11, xc12, xc13, xc14, xc15, xc16, xc17, hr, h1, h3, h5] | simp (maxSteps := 1000000) (disch := omega) only [exE, Int.toNat_natCast, Int.reduceToNat])
    · have e : xpl x n = 100 := by simp only [xpl, h3, h4, false_and, if_false, Bool.false_eq_true]
      simp only [xSlotAdd, h1, h2, e, if_true, if_false, Bool.false_eq_true, Int.reduceEq]
      refine acall_run (good17 4) Try.func43 rfl ⟨by kernel_rfl, by show 3 ≤ _; decide, by kernel_rfl, by kernel_rfl⟩ rfl ?_; have hr : Try.f43.results.toList = [.tmp 6] := rfl; repeat (first | simp only [c17_P, c17_odd, c17_ro, Nat.reduceBEq, reduceIte, Nat.reduceEqDiff, reduceCtorEq, ne_eq, if_true, if_false, exA, exA, tabs, exB, exD, buildA, rowOr, rowSetAt, rowAgg, mkAgg, AV.isAggV, AV.parts, AV.one, AV.solid, headSize, indexAddrA, indexA, fieldAddrA, fieldA, sliceA, boundsA, bndA, lenA, arrayAtA, rowOf, makeSliceA, intsOf, copyA, Nat.reduceAdd, Nat.reduceSub, Nat.reduceMul, Nat.reduceLeDiff, Nat.reduceLT, Nat.reduceGT, Int.reduceToNat, Int.reduceLE, Int.reduceLT, Int.reduceEq, Int.reduceNe, Int.reduceAdd, Int.reduceSub, Int.reduceMul, Int.reduceNeg, ite_true, ite_false, dite_true, xc1, xc2, xc3, xc4, xc5, xc6, xc7, xc8, xc9, xc10, xc11, xc12, xc13, xc14, xc15, xc16, xc17, hr, h1, h3] | simp (maxSteps := 1000000) (disch := omega) only [exE, Int.toNat_natCast, Int.reduceToNat])
  · have e : xpl x n = 230 := by simp only [xpl, h3, if_true]
    simp only [xSlotAdd, h1, h2, e, if_true, if_false, Bool.false_eq_true, Int.reduceEq]
    refine acall_run (good17 4) Try.func43 rfl ⟨by kernel_rfl, by show 3 ≤ _; decide, by kernel_rfl, by kernel_rfl⟩ rfl ?_; have hr : Try.f43.results.toList = [.tmp 6] := rfl; repeat (first | simp only [c17_P, c17_odd, c17_ro, Nat.reduceBEq, reduceIte, Nat.reduceEqDiff, reduceCtorEq, ne_eq, if_true, if_false, exA, exA, tabs, exB, exD, buildA, rowOr, rowSetAt, rowAgg, mkAgg, AV.isAggV, AV.parts, AV.one, AV.solid, headSize, indexAddrA, indexA, fieldAddrA, fieldA, sliceA, boundsA, bndA, lenA, arrayAtA, rowOf, makeSliceA, intsOf, copyA, Nat.reduceAdd, Nat.reduceSub, Nat.reduceMul, Nat.reduceLeDiff, Nat.reduceLT, Nat.reduceGT, Int.reduceToNat, Int.reduceLE, Int.reduceLT, Int.reduceEq, Int.reduceNe, Int.reduceAdd, Int.reduceSub, Int.reduceMul, Int.reduceNeg, ite_true, ite_false, dite_true, xc1, xc2, xc3, xc4, xc5, xc6, xc7, xc8, xc9, xc10, xc11, xc12, xc13, xc14, xc15, xc16, xc17, hr, h1, h3] | simp (maxSteps := 1000000) (disch := omega) only [exE, Int.toNat_natCast, Int.reduceToNat])
end Go.Proofs.Ytgkhngcnbddoiaa
