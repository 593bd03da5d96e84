/- Part of the proof. -/
import Derived.Test.YtfnfmbikooeiaaaAd
set_option linter.unusedSimpArgs false
set_option linter.unusedVariables false
set_option maxHeartbeats 4000000
set_option maxRecDepth 100000
namespace Go.Proofs.Ytfnfmbikooeiaaa
open Go.Ax
noncomputable def n26 : FuncId → Option (List Blk → List AV → Option Out) := addNews n25 77 N77
noncomputable def c26 (k : Nat) : Cfg := ⟨Try.prog, k, p23, [], n26, none, []⟩
theorem c26_odd (k : Nat) : (c26 k).odd = [] := rfl
theorem c26_ro (k : Nat) : (c26 k).ro = [] := rfl
theorem c26_P (k : Nat) : (c26 k).P = Try.prog := rfl
theorem c26_pure (k : Nat) : (c26 k).pure = p23 := rfl
theorem c26_news (k : Nat) : (c26 k).news = n26 := rfl
theorem xc26 :
  (type_of% @Go.Proofs.Ytfnfmbikooeiaaa.c26_pure) ∧
  (type_of% @Go.Proofs.Ytfnfmbikooeiaaa.c26_news) ∧
  (type_of% @n26.eq_1) ∧
  (type_of% @Go.Proofs.Ytfnfmbikooeiaaa.N76_eq) ∧
  (type_of% @Go.Proofs.Ytfnfmbikooeiaaa.N77_eq) ∧
  (type_of% @Go.Proofs.Ytfnfmbikooeiaaa.adrK_eq) ∧
  (type_of% @Go.Proofs.Ytfnfmbikooeiaaa.othK_eq) :=
  ⟨@Go.Proofs.Ytfnfmbikooeiaaa.c26_pure, @Go.Proofs.Ytfnfmbikooeiaaa.c26_news, @n26.eq_1, @Go.Proofs.Ytfnfmbikooeiaaa.N76_eq, @Go.Proofs.Ytfnfmbikooeiaaa.N77_eq, @Go.Proofs.Ytfnfmbikooeiaaa.adrK_eq, @Go.Proofs.Ytfnfmbikooeiaaa.othK_eq⟩
theorem go26 {F A B : Prop} (f : F) (b : B) (h : F → A = B := by intro f; (repeat (first | simp only [c26_P, c26_odd, c26_ro, Nat.reduceBEq, reduceIte, Nat.reduceEqDiff, reduceCtorEq, ne_eq, if_true, if_false, exA, exA, tabs, exB, exD, buildA, rowOr, rowSetAt, rowAgg, mkAgg, AV.isAggV, AV.parts, AV.one, AV.solid, headSize, indexAddrA, indexA, fieldAddrA, fieldA, sliceA, boundsA, bndA, lenA, arrayAtA, rowOf, makeSliceA, intsOf, copyA, Nat.reduceAdd, Nat.reduceSub, Nat.reduceMul, Nat.reduceLeDiff, Nat.reduceLT, Nat.reduceGT, Int.reduceToNat, Int.reduceLE, Int.reduceLT, Int.reduceEq, Int.reduceNe, Int.reduceAdd, Int.reduceSub, Int.reduceMul, Int.reduceNeg, ite_true, ite_false, dite_true, xc10, xc11, xc12, xc13, xc14, xc15, xc16, xc17, xc20, xc21, xc22, xc23, xc24, xc25, xc26, run_range, exR, f] | simp (maxSteps := 1000000) (disch := omega) only [exE, Int.toNat_natCast, Int.reduceToNat])); all_goals rfl) : A := Eq.mpr (h f) b
theorem good26 (k : Nat) : (c26 k).Good := Cfg.Good.addN (good25 k) N77_use k
noncomputable def c26o (k : Nat) : Cfg := ⟨Try.prog, k, p23, [17], n26, none, []⟩
theorem c26o_odd (k : Nat) : (c26o k).odd = [17] := rfl
theorem c26o_ro (k : Nat) : (c26o k).ro = [] := rfl
theorem c26o_P (k : Nat) : (c26o k).P = Try.prog := rfl
theorem c26o_pure (k : Nat) : (c26o k).pure = p23 := rfl
theorem c26o_news (k : Nat) : (c26o k).news = n26 := rfl
theorem xc26o :
  (type_of% @Go.Proofs.Ytfnfmbikooeiaaa.c26o_pure) ∧
  (type_of% @Go.Proofs.Ytfnfmbikooeiaaa.c26o_news) :=
  ⟨@Go.Proofs.Ytfnfmbikooeiaaa.c26o_pure, @Go.Proofs.Ytfnfmbikooeiaaa.c26o_news⟩
theorem go26o {F A B : Prop} (f : F) (b : B) (h : F → A = B := by intro f; (repeat (first | simp only [c26o_P, c26o_odd, c26o_ro, Nat.reduceBEq, reduceIte, Nat.reduceEqDiff, reduceCtorEq, ne_eq, if_true, if_false, exA, exA, tabs, exB, exD, buildA, rowOr, rowSetAt, rowAgg, mkAgg, AV.isAggV, AV.parts, AV.one, AV.solid, headSize, indexAddrA, indexA, fieldAddrA, fieldA, sliceA, boundsA, bndA, lenA, arrayAtA, rowOf, makeSliceA, intsOf, copyA, Nat.reduceAdd, Nat.reduceSub, Nat.reduceMul, Nat.reduceLeDiff, Nat.reduceLT, Nat.reduceGT, Int.reduceToNat, Int.reduceLE, Int.reduceLT, Int.reduceEq, Int.reduceNe, Int.reduceAdd, Int.reduceSub, Int.reduceMul, Int.reduceNeg, ite_true, ite_false, dite_true, xc10, xc11, xc12, xc13, xc14, xc15, xc16, xc17, xc20, xc21, xc22, xc23, xc24, xc25, xc26, xc26o, run_range, exR, f] | simp (maxSteps := 1000000) (disch := omega) only [exE, Int.toNat_natCast, Int.reduceToNat])); all_goals rfl) : A := Eq.mpr (h f) b
theorem good26o (k : Nat) : (c26o k).Good := good26 k
end Go.Proofs.Ytfnfmbikooeiaaa

namespace Go.Proofs.Ytfnfmbikooeiaaa
open Go.Ax
def putAt (f : List Int) (k : Nat) (p : List Int) : List Int := f.take (k * 128) ++ p ++ f.drop (k * 128 + 128)
def aheadP (slice i part : Nat) (f : List Int) : List Int := pageAt f ((slice * part + i + 4 * part - 1) % (4 * part))
def stepW (pass slice lane i t L part : Nat) (f : List Int) : Int := if pass = 0 ∧ slice < 2 then (adrL pass slice lane 0 t L part).getD i 0 else (aheadP slice i part f).getD 0 0
def stepO (pass slice lane i L part : Nat) (fs : List (List Int)) (w : Nat) : List Int := pageAt (fs.getD (oLane pass slice lane L w) []) (oIdx pass slice lane i part L w)
def stepP (pass slice lane i t L part : Nat) (fs : List (List Int)) (f : List Int) : List Int :=
  pagesL (aheadP slice i part f) (stepO pass slice lane i L part (fs.set lane f) (stepW pass slice lane i t L part f).toNat)
def stepF (pass slice lane i t L part : Nat) (fs : List (List Int)) (f : List Int) : List Int :=
  putAt f (slice * part + i) (if 0 < pass then xorK (stepP pass slice lane i t L part fs f) (pageAt f (slice * part + i)) 128 else stepP pass slice lane i t L part fs f)
def sliceK (pass slice lane t L part lo : Nat) (fs : List (List Int)) (f : List Int) : Nat → List Int
  | 0 => f
  | k + 1 => stepF pass slice lane (lo + k) t L part fs (sliceK pass slice lane t L part lo fs f k)
theorem pageAt_len {f : List Int} {n k : Nat} (hf : f.length = n * 128) (hk : k < n) : (pageAt f k).length = 128 := by
  unfold pageAt; rw [List.length_take, List.length_drop, hf]; omega
theorem stepP_len (pass slice lane i t L part : Nat) (fs : List (List Int)) {f : List Int} (hf : f.length = 4 * part * 128) (hp : 0 < part) : (stepP pass slice lane i t L part fs f).length = 128 := by
  unfold stepP aheadP; rw [pagesL_len]; exact pageAt_len hf (Nat.mod_lt _ (by omega))
theorem putAt_len {f p : List Int} {n k : Nat} (hf : f.length = n * 128) (hk : k < n) (hp : p.length = 128) : (putAt f k p).length = n * 128 := by
  unfold putAt; rw [List.length_append, List.length_append, List.length_take, List.length_drop, hf, hp]; omega
theorem stepF_len (pass slice lane i t L part : Nat) (fs : List (List Int)) {f : List Int} (hf : f.length = 4 * part * 128) (hs : slice < 4) (hi : i < part) : (stepF pass slice lane i t L part fs f).length = 4 * part * 128 := by
  have h1 : slice * part ≤ 3 * part := Nat.mul_le_mul_right _ (by omega)
  unfold stepF
  refine putAt_len hf (by omega) ?_
  split
  · rw [xorK_len]; exact stepP_len _ _ _ _ _ _ _ _ hf (by omega)
  · exact stepP_len _ _ _ _ _ _ _ _ hf (by omega)
theorem sliceK_len (pass slice lane t L part lo : Nat) (fs : List (List Int)) {f : List Int} (hf : f.length = 4 * part * 128) (hs : slice < 4) : ∀ k, lo + k ≤ part → (sliceK pass slice lane t L part lo fs f k).length = 4 * part * 128
  | 0, _ => hf
  | k + 1, h => stepF_len _ _ _ _ _ _ _ _ (sliceK_len pass slice lane t L part lo fs hf hs k (by omega)) hs (by omega)
theorem Wds.put {f p : List Int} (hf : Wds f) (hp : Wds p) (k : Nat) : Wds (putAt f k p) := by
  have app : ∀ {a b : List Int}, Wds a → Wds b → Wds (a ++ b) := by
    intro a b ha hb i
    rw [List.getD_eq_getElem?_getD, List.getElem?_append]
    split
    · rw [← List.getD_eq_getElem?_getD]; exact ha i
    · rw [← List.getD_eq_getElem?_getD]; exact hb _
  unfold putAt
  refine app (app ?_ hp) ?_
  · intro i
    rw [List.getD_eq_getElem?_getD, List.getElem?_take]
    split
    · rw [← List.getD_eq_getElem?_getD]; exact hf i
    · simp
  · intro i
    rw [List.getD_eq_getElem?_getD, List.getElem?_drop, ← List.getD_eq_getElem?_getD]; exact hf _
theorem Wds.page {f : List Int} (hf : Wds f) (k : Nat) : Wds (pageAt f k) := by
  intro i
  unfold pageAt
  rw [List.getD_eq_getElem?_getD, List.getElem?_take]
  split
  · rw [List.getElem?_drop, ← List.getD_eq_getElem?_getD]; exact hf _
  · simp
theorem xorU_w (x y : Int) : 0 ≤ xorU x y ∧ xorU x y < 18446744073709551616 := by
  unfold xorU; rw [wrap_u64']; omega
theorem xorK_w {x y : List Int} (hx : x.length ≤ 128) : Wds (xorK x y 128) := by
  have key : ∀ n i, i < n → 0 ≤ (xorK x y n).getD i 0 ∧ (xorK x y n).getD i 0 < 18446744073709551616 := by
    intro n
    induction n with
    | zero => intro i hi; omega
    | succ n ih =>
      intro i hi
      simp only [xorK]
      rw [List.getD_eq_getElem?_getD, List.getElem?_set]
      split
      · split
        · exact xorU_w _ _
        · simp
      · rw [← List.getD_eq_getElem?_getD]; exact ih i (by omega)
  intro i
  rcases Nat.lt_or_ge i 128 with h | h
  · exact key 128 i h
  · rw [List.getD_eq_getElem?_getD, List.getElem?_eq_none (by rw [xorK_len]; omega)]; simp
theorem pagesL_w {x y : List Int} (hx : x.length ≤ 128) : Wds (pagesL x y) := by
  unfold pagesL pagesR
  exact xorK_w (by rw [stirK_len, stirK_len, xorK_len]; exact hx)
theorem stepF_w (pass slice lane i t L part : Nat) (fs : List (List Int)) {f : List Int} (hf : f.length = 4 * part * 128) (hw : Wds f) (hp : 0 < part) : Wds (stepF pass slice lane i t L part fs f) := by
  unfold stepF
  refine hw.put ?_ _
  split
  · exact xorK_w (by rw [stepP_len _ _ _ _ _ _ _ _ hf hp]; omega)
  · exact pagesL_w (by unfold aheadP; rw [pageAt_len hf (Nat.mod_lt _ (by omega))]; omega)
theorem sliceK_w (pass slice lane t L part lo : Nat) (fs : List (List Int)) {f : List Int} (hf : f.length = 4 * part * 128) (hw : Wds f) (hs : slice < 4) (hp : 0 < part) : ∀ k, lo + k ≤ part → Wds (sliceK pass slice lane t L part lo fs f k)
  | 0, _ => hw
  | k + 1, h => stepF_w _ _ _ _ _ _ _ _ (sliceK_len pass slice lane t L part lo fs hf hs k (by omega)) (sliceK_w pass slice lane t L part lo fs hf hw hs hp k (by omega)) hp
end Go.Proofs.Ytfnfmbikooeiaaa

namespace Go.Proofs.Ytfnfmbikooeiaaa
open Go.Ax
theorem othL_of {pass slice lane i t L part w : Nat} {h : List Blk} {es : List AV} {fs : List (List Int)} (hall : allOf (flatOf h (4 * part)) es = some fs) (h1 : pass ≤ 8) (h2 : slice ≤ 4) (h3 : lane < L) (h4 : i < part) (h5 : t ≤ 8) (hL : 1 ≤ L ∧ L ≤ 4) (h7 : 2 ≤ part ∧ part ≤ 64) (h8 : pass = 0 → slice = 0 → 2 ≤ i)
    (hf : fs.length = L) (hw : w < 18446744073709551616) : othL (pass : Int) (slice : Int) (lane : Int) (i : Int) (w : Int) h (t : Int) (L : Int) (part : Int) L es = some (.one (.arr 128 .u64 (stepO pass slice lane i L part fs w)) h) := by
  unfold othL
  simp only [Int.toNat_natCast]
  rw [hall, Option.bind_some]
  unfold oguard
  rw [if_pos]
  · rfl
  · refine ⟨⟨by omega, by omega⟩, ⟨by omega, by omega⟩, ⟨by omega, by omega⟩, ⟨by omega, by omega⟩, ⟨by omega, by omega⟩, ⟨by omega, by omega⟩, ⟨by omega, by omega⟩, fun e1 e2 => ?_, by omega, hf, trivial, by omega, by omega⟩
    have := h8 (by omega) (by omega)
    omega
theorem stepO_len {pass slice lane i L part w n : Nat} {fs : List (List Int)} (hn : n = 4 * part) (hp : 0 < part) (hf : fs.length = L) (hl : lane < L) (hfl : ∀ g ∈ fs, g.length = n * 128) : (stepO pass slice lane i L part fs w).length = 128 := by
  unfold stepO
  have hq : oLane pass slice lane L w < L := by
    unfold oLane
    split
    · exact hl
    · exact Nat.mod_lt _ (by omega)
  refine pageAt_len (n := n) (hfl _ ?_) ?_
  · rw [List.getD_eq_getElem?_getD, List.getElem?_eq_getElem (by omega)]; exact List.getElem_mem _
  · unfold oIdx; rw [hn]; exact Nat.mod_lt _ (by omega)
theorem mem_set_len {fs : List (List Int)} {lane N : Nat} {f : List Int} (hfl : ∀ g ∈ fs, g.length = N) (hf : f.length = N) : ∀ g ∈ fs.set lane f, g.length = N := by
  intro g hg
  rcases List.mem_or_eq_of_mem_set hg with h | rfl
  · exact hfl g h
  · exact hf
theorem slice_2a (pass slice lane t L part m c n N N1 N2 N3 : Nat) (hn : n = 4 * part) (hN : N = n * 128) (es : List AV) (fs : List (List Int)) (f0 g1 g2 g3 zp : List Int) (hzp : zp = List.replicate 128 0) (h1 : pass ≤ 7) (h2 : slice < 4) (h3 : lane < L) (hL : 1 ≤ L ∧ L ≤ 4) (h5 : t ≤ 8) (h7 : 2 ≤ part ∧ part ≤ 64)
    (hf0 : f0.length = N) (hw0 : Wds f0) (hfl : fs.length = L) (hfn : ∀ g ∈ fs, g.length = N) (hp0 : 0 < pass)
    (hcell : rowCell es lane = some (.sl 2 0 128 0 n n))
    (hren : ∀ l len, renL (gcMap (0 :: 1 :: 2 :: 3 :: 4 :: 5 :: l) len) es = es)
    (hall : ∀ M f rest, f.length = N → allOf (flatOf (M :: some es :: some [.arr N .u64 f] :: some [.arr N1 .u64 g1] :: some [.arr N2 .u64 g2] :: some [.arr N3 .u64 g3] :: rest) (4 * part)) es = some (fs.set lane f)) :
    ACall Try.prog 63 [.ptr 0 0 0, .agg [.v (.int .i64 pass), .v (.int .i64 slice), .v (.int .i64 lane), .v (.int .i64 0)]]
      [some [.v (.int .i64 t), .v (.int .i64 m), .v (.int .i64 L), .sl 1 0 1 0 L c, .v (.int .i64 part)], some es, some [.arr N .u64 f0], some [.arr N1 .u64 g1], some [.arr N2 .u64 g2], some [.arr N3 .u64 g3]]
      fun v h' => v = .tup [] ∧ ∃ x y, h' = [some [.v (.int .i64 t), .v (.int .i64 m), .v (.int .i64 L), .sl 1 0 1 0 L c, .v (.int .i64 part)], some es, some [.arr N .u64 (sliceK pass slice lane t L part 0 fs f0 part)], some [.arr N1 .u64 g1], some [.arr N2 .u64 g2], some [.arr N3 .u64 g3], x, y] := by
  have hpz : ((pass : Int) == 0) = false := by simp; omega
  have hpg : ((0 : Int) < (pass : Int)) = True := by simp; omega
  obtain ⟨sp, hsp⟩ : ∃ sp, sp = slice * part := ⟨_, rfl⟩
  have hsp1 : sp + part ≤ n := by rw [hsp, hn]; have := Nat.mul_le_mul_right part (show slice ≤ 3 by omega); omega
  have wsp : IntKind.i64.wrap ((slice : Int) * (part : Int)) = (sp : Int) := by rw [← Int.natCast_mul, ← hsp]; exact wrap_i64_id _ (by omega)
  refine bd (good26o 6) Try.func63 ?_
  refine go26o (an hpz hcell) ?_
  rw [← hzp]
  repeat with_reducible refine gd ?_
  refine loop_count (good26o 6) (fun k => ⟨envL [(0, .ptr 0 0 0), (3, .ptr 6 0 0), (4, .sl 2 0 128 0 n n), (5, .v (.bool false)), (6, .ptr 7 0 0)],
    [some [.v (.int .i64 t), .v (.int .i64 m), .v (.int .i64 L), .sl 1 0 1 0 L c, .v (.int .i64 part)], some es, some [.arr N .u64 (sliceK pass slice lane t L part 0 fs f0 k)], some [.arr N1 .u64 g1], some [.arr N2 .u64 g2], some [.arr N3 .u64 g3],
     some [.v (.int .i64 pass), .v (.int .i64 slice), .v (.int .i64 lane), .v (.int .i64 k)], some [.arr 128 .u64 zp]]⟩) part (by kernel_rfl) ?_ ?_ ?_
  · (refine weak_of ?_ ?_; (focus (first | with_reducible rfl | (simp only [sliceK, Int.natCast_zero] <;> with_reducible rfl))); simp only [exF, Nat.reduceEqDiff, if_true, if_false, reduceIte, Option.some.injEq, reduceCtorEq, Int.cast_ofNat_Int, sliceK, Int.natCast_zero])
  · intro i hi
    have hfk := sliceK_len pass slice lane t L part 0 fs (by rw [hf0, hN, hn]) h2 i (by omega)
    have hwk := sliceK_w pass slice lane t L part 0 fs (by rw [hf0, hN, hn]) hw0 h2 (by omega) i (by omega)
    rw [← hn, ← hN] at hfk
    have hS : sliceK pass slice lane t L part 0 fs f0 (i + 1) = stepF pass slice lane (0 + i) t L part fs (sliceK pass slice lane t L part 0 fs f0 i) := rfl
    rw [Nat.zero_add] at hS
    rw [hS]
    obtain ⟨f, hff⟩ : ∃ f, sliceK pass slice lane t L part 0 fs f0 i = f := ⟨_, rfl⟩
    rw [hff] at hfk hwk ⊢
    clear hff hS
    have hall2 := fun M rest => hall M f rest hfk
    obtain ⟨j, hj⟩ : ∃ j, j = (sp + i + n - 1) % n := ⟨_, rfl⟩
    have hjl : j < n := by rw [hj]; exact Nat.mod_lt _ (by omega)
    have hlt : ((i : Int) < (part : Int)) = True := by simp; omega
    have wh : IntKind.i64.wrap ((sp : Int) + (i : Int)) = ((sp + i : Nat) : Int) := by rw [wrap_i64_id _ (by omega)]; omega
    have wl : IntKind.i64.wrap (((sp + i : Nat) : Int) + ((n : Nat) : Int)) = ((sp + i + n : Nat) : Int) := by rw [wrap_i64_id _ (by omega)]; omega
    have wl1 : IntKind.i64.wrap (((sp + i + n : Nat) : Int) - 1) = ((sp + i + n - 1 : Nat) : Int) := by rw [wrap_i64_id _ (by omega)]; omega
    have wm : ((sp + i + n - 1 : Nat) : Int).tmod ((n : Nat) : Int) = (j : Int) := by rw [← Int.ofNat_tmod, hj]
    have wj : ((j : Int)).toNat = j := Int.toNat_natCast j
    have hn0 : (((n : Nat) : Int) = 0) = False := by simp; omega
    simp only [c26o_P, c26o_odd, c26o_ro, Nat.reduceBEq, reduceIte, Nat.reduceEqDiff, reduceCtorEq, ne_eq, if_true, if_false, exA, exA, tabs, exB, exD, buildA, rowOr, rowSetAt, rowAgg, mkAgg, AV.isAggV, AV.parts, AV.one, AV.solid, headSize, indexAddrA, indexA, fieldAddrA, fieldA, sliceA, boundsA, bndA, lenA, arrayAtA, rowOf, makeSliceA, intsOf, copyA, Nat.reduceAdd, Nat.reduceSub, Nat.reduceMul, Nat.reduceLeDiff, Nat.reduceLT, Nat.reduceGT, Int.reduceToNat, Int.reduceLE, Int.reduceLT, Int.reduceEq, Int.reduceNe, Int.reduceAdd, Int.reduceSub, Int.reduceMul, Int.reduceNeg, ite_true, ite_false, dite_true, xc10, xc11, xc12, xc13, xc14, xc15, xc16, xc17, xc20, xc21, xc22, xc23, xc24, xc25, xc26, xc26o, run_range, exR, hpg, hpz, wsp, hall2, hlt, wh, wl, wl1, wm, wj, hn0]
    repeat with_reducible refine gd ?_
    have hsl : (fs.set lane f).length = L := by rw [List.length_set]; exact hfl
    rw [show List.take 128 (List.drop (j * 128) f) = pageAt f j from rfl]
    have hahl : (pageAt f j).length = 128 := pageAt_len (n := n) (by rw [hfk, hN]) hjl
    obtain ⟨ah, hah⟩ : ∃ ah, pageAt f j = ah := ⟨_, rfl⟩
    have hW := hwk.page j 0
    rw [hah] at hW hahl ⊢
    obtain ⟨w, hw⟩ := Int.eq_ofNat_of_zero_le hW.1
    have hw2 : w < 18446744073709551616 := by have := hW.2; omega
    rw [hw]
    have hah2 : aheadP slice i part f = ah := by unfold aheadP; rw [← hn, ← hsp, ← hj, hah]
    obtain ⟨o, ho⟩ : ∃ o, o = stepO pass slice lane i L part (fs.set lane f) w := ⟨_, rfl⟩
    have hol : o.length = 128 := by rw [ho]; exact stepO_len hn (by omega) hsl h3 (by rw [← hN]; exact mem_set_len hfn hfk)
    have hoth : ∀ M rest, othL pass slice lane i w (M :: some es :: some [.arr N .u64 f] :: some [.arr N1 .u64 g1] :: some [.arr N2 .u64 g2] :: some [.arr N3 .u64 g3] :: rest) t L part L es = some (.one (.arr 128 .u64 o) (M :: some es :: some [.arr N .u64 f] :: some [.arr N1 .u64 g1] :: some [.arr N2 .u64 g2] :: some [.arr N3 .u64 g3] :: rest)) := by
      intro M rest
      rw [ho]
      exact othL_of (hall2 M rest) (by omega) (by omega) h3 hi h5 hL h7 (by omega) hsl hw2
    have hpl : (pagesL ah o).length = 128 := by rw [pagesL_len, hahl]
    have hpt : List.take 128 (pagesL ah o) = pagesL ah o := List.take_of_length_le (by omega)
    have hat : List.take 128 ah = ah := List.take_of_length_le (by omega)
    have hN1 : (N = 128) = False := by simp; omega
    have hp : stepP pass slice lane i t L part fs f = pagesL ah o := by
      unfold stepP stepW
      rw [if_neg (by omega), hah2, hw, Int.toNat_natCast, ho]
    refine odd_merge (good26o 6) (.first 0 (.first 1 (.first 2 (.first 3 (.fork 4 (.fork 5 (.fork 6 (.fork 7 .done .stop) .stop) (.fork 6 (.fork 5 (.fork 7 .done .stop) .stop) .stop)) (.fork 6 (.fork 4 (.fork 5 (.fork 7 .done .stop) .stop) .stop) .stop))))))
      ⟨envL [(0, .ptr 0 0 0), (3, .ptr 6 0 0), (4, .sl 2 0 128 0 n n), (5, .v (.bool false)), (6, .ptr 7 0 0), (7, .v (.int .i64 ((sp + i : Nat)))), (10, .ptr 9 0 0)],
      [some [.v (.int .i64 t), .v (.int .i64 m), .v (.int .i64 L), .sl 1 0 1 0 L c, .v (.int .i64 part)], some es, some [.arr N .u64 f], some [.arr N1 .u64 g1], some [.arr N2 .u64 g2], some [.arr N3 .u64 g3],
       some [.v (.int .i64 pass), .v (.int .i64 slice), .v (.int .i64 lane), .v (.int .i64 i)], some [.arr 128 .u64 zp], some [.arr 128 .u64 ah], some [.arr 128 .u64 (pagesL ah o)]]⟩ (by kernel_rfl) ?_ ?_
    · refine go26o (an hoth (an hat (an hahl (an hol (an hpl hpt))))) ?_
      repeat' (first | exact trivial | rfl | refine And.intro ?_ ?_)
      all_goals exact wk nf
    · refine go26o hpg ?_
      repeat with_reducible refine gd ?_
      rw [show List.take 128 (List.drop ((sp + i) * 128) f) = pageAt f (sp + i) from rfl]
      have hoo : (pageAt f (sp + i)).length = 128 := pageAt_len (n := n) (by rw [hfk, hN]) (by omega)
      obtain ⟨od, hod⟩ : ∃ od, pageAt f (sp + i) = od := ⟨_, rfl⟩
      rw [hod] at hoo ⊢
      refine loop_count (good26o 6) (fun k => ⟨envL [(0, .ptr 0 0 0), (3, .ptr 6 0 0), (4, .sl 2 0 128 0 n n), (5, .v (.bool false)), (6, .ptr 7 0 0), (7, .v (.int .i64 ((sp + i : Nat)))), (10, .ptr 8 0 0), (101, .arr 128 .u64 od), (102, .v (.int .i64 k))],
        [some [.v (.int .i64 t), .v (.int .i64 m), .v (.int .i64 L), .sl 1 0 1 0 L c, .v (.int .i64 part)], some es, some [.arr N .u64 f], some [.arr N1 .u64 g1], some [.arr N2 .u64 g2], some [.arr N3 .u64 g3],
         some [.v (.int .i64 pass), .v (.int .i64 slice), .v (.int .i64 lane), .v (.int .i64 i)], some [.arr 128 .u64 zp], some [.arr 128 .u64 (xorK (pagesL ah o) od k)]]⟩) 128 (by kernel_rfl) ?_ ?_ ?_
      · (refine weak_gc' [0, 1, 2, 3, 4, 5, 6, 7, 9] (by decide) (by simp) (by rfl) ?_ ?_; (focus (first | with_reducible rfl | (simp only [List.map_cons, List.map_nil, List.cons_append, List.nil_append, List.getElem?_cons_zero, List.getElem?_cons_succ, renB, renL, Option.map_some, Option.map_none, AV.ren, gcMap, List.getD_cons_zero, List.getD_cons_succ, xorK, hren] <;> with_reducible rfl))); simp only [exF, List.map_cons, List.map_nil, List.length_cons, List.length_nil, Nat.reduceAdd, AV.ren, renL, gcMap, Nat.reduceEqDiff, if_true, if_false, reduceIte, Option.some.injEq, reduceCtorEq, Int.cast_ofNat_Int, xorK, hren])
      · intro k hk
        have hxl : (xorK (pagesL ah o) od k).length = 128 := by rw [xorK_len, hpl]
        have hS : xorK (pagesL ah o) od (k + 1) = (xorK (pagesL ah o) od k).set k (xorU ((xorK (pagesL ah o) od k).getD k 0) (od.getD k 0)) := rfl
        rw [hS]
        obtain ⟨x, hx⟩ : ∃ x, xorK (pagesL ah o) od k = x := ⟨_, rfl⟩
        rw [hx] at hxl ⊢
        refine go26o nf ?_
        repeat with_reducible refine gd ?_
        exact wk nf
      · have hxt : List.take 128 (xorK (pagesL ah o) od 128) = xorK (pagesL ah o) od 128 := List.take_of_length_le (by rw [xorK_len, hpl]; omega)
        have hst : stepF pass slice lane i t L part fs f = List.take ((sp + i) * 128) f ++ xorK (pagesL ah o) od 128 ++ List.drop ((sp + i) * 128 + 128) f := by
          unfold stepF putAt; rw [if_pos hp0, hp, ← hsp, hod]
        rw [hst]
        refine go26o (an hN1 (an @and_false hxt)) ?_
        repeat with_reducible refine gd ?_
        exact wgc [0, 1, 2, 3, 4, 5, 6, 7] hren
  · refine go26o nf ?_

    exact ⟨_, _, rfl⟩
theorem slice_2 (pass slice lane t L part m c n N N1 N2 N3 : Nat) (hn : n = 4 * part) (hN : N = n * 128) (es : List AV) (fs : List (List Int)) (f0 g1 g2 g3 zp : List Int) (hzp : zp = List.replicate 128 0) (h1 : pass ≤ 7) (h2 : slice < 4) (h3 : lane < L) (hL : 1 ≤ L ∧ L ≤ 4) (h5 : t ≤ 8) (h7 : 2 ≤ part ∧ part ≤ 64)
    (hf0 : f0.length = N) (hw0 : Wds f0) (hfl : fs.length = L) (hfn : ∀ g ∈ fs, g.length = N) (hp0 : 0 < pass)
    (hcell : rowCell es lane = some (.sl 2 0 128 0 n n))
    (hren : ∀ l len, renL (gcMap (0 :: 1 :: 2 :: 3 :: 4 :: 5 :: l) len) es = es)
    (hall : ∀ M f rest, f.length = N → allOf (flatOf (M :: some es :: some [.arr N .u64 f] :: some [.arr N1 .u64 g1] :: some [.arr N2 .u64 g2] :: some [.arr N3 .u64 g3] :: rest) (4 * part)) es = some (fs.set lane f)) :
    ACall Try.prog 63 [.ptr 0 0 0, .agg [.v (.int .i64 pass), .v (.int .i64 slice), .v (.int .i64 lane), .v (.int .i64 0)]]
      [some [.v (.int .i64 t), .v (.int .i64 m), .v (.int .i64 L), .sl 1 0 1 0 L c, .v (.int .i64 part)], some es, some [.arr N .u64 f0], some [.arr N1 .u64 g1], some [.arr N2 .u64 g2], some [.arr N3 .u64 g3]]
      fun v h' => v = .tup [] ∧ h' = [some [.v (.int .i64 t), .v (.int .i64 m), .v (.int .i64 L), .sl 1 0 1 0 L c, .v (.int .i64 part)], some es, some [.arr N .u64 (sliceK pass slice lane t L part 0 fs f0 part)], some [.arr N1 .u64 g1], some [.arr N2 .u64 g2], some [.arr N3 .u64 g3]] := by
  refine ACall.weak (C := c26o 6) rfl (κ := fun v h' => v = .tup [] ∧ ∃ x y, h' = [some [.v (.int .i64 t), .v (.int .i64 m), .v (.int .i64 L), .sl 1 0 1 0 L c, .v (.int .i64 part)], some es, some [.arr N .u64 (sliceK pass slice lane t L part 0 fs f0 part)], some [.arr N1 .u64 g1], some [.arr N2 .u64 g2], some [.arr N3 .u64 g3], x, y]) ?_ ?_
  · exact slice_2a pass slice lane t L part m c n N N1 N2 N3 hn hN es fs f0 g1 g2 g3 zp hzp h1 h2 h3 hL h5 h7 hf0 hw0 hfl hfn hp0 hcell hren hall
  · rintro _ _ ⟨rfl, x, y, rfl⟩
    exact ⟨_, _, weak_gc' [0, 1, 2, 3, 4, 5] (by decide) (by simp) (by rfl) (by simp only [List.map_cons, List.map_nil, List.getElem?_cons_zero, List.getElem?_cons_succ, renB, Option.map_some, renL, AV.ren, hren, gcMap, List.getD_cons_zero, List.getD_cons_succ]) ⟨rfl, trivial⟩, rfl, rfl⟩
end Go.Proofs.Ytfnfmbikooeiaaa

namespace Go.Proofs.Ytfnfmbikooeiaaa
open Go.Ax
theorem slice_ba (slice lane t L part m c n N N1 N2 N3 : Nat) (hn : n = 4 * part) (hN : N = n * 128) (es : List AV) (fs : List (List Int)) (f0 g1 g2 g3 zp : List Int) (hzp : zp = List.replicate 128 0) (h2 : slice < 4) (h2b : 2 ≤ slice) (h3 : lane < L) (hL : 1 ≤ L ∧ L ≤ 4) (h5 : t ≤ 8) (h7 : 2 ≤ part ∧ part ≤ 64)
    (hf0 : f0.length = N) (hw0 : Wds f0) (hfl : fs.length = L) (hfn : ∀ g ∈ fs, g.length = N)
    (hcell : rowCell es lane = some (.sl 2 0 128 0 n n))
    (hren : ∀ l len, renL (gcMap (0 :: 1 :: 2 :: 3 :: 4 :: 5 :: l) len) es = es)
    (hall : ∀ M f rest, f.length = N → allOf (flatOf (M :: some es :: some [.arr N .u64 f] :: some [.arr N1 .u64 g1] :: some [.arr N2 .u64 g2] :: some [.arr N3 .u64 g3] :: rest) (4 * part)) es = some (fs.set lane f)) :
    ACall Try.prog 63 [.ptr 0 0 0, .agg [.v (.int .i64 0), .v (.int .i64 slice), .v (.int .i64 lane), .v (.int .i64 0)]]
      [some [.v (.int .i64 t), .v (.int .i64 m), .v (.int .i64 L), .sl 1 0 1 0 L c, .v (.int .i64 part)], some es, some [.arr N .u64 f0], some [.arr N1 .u64 g1], some [.arr N2 .u64 g2], some [.arr N3 .u64 g3]]
      fun v h' => v = .tup [] ∧ ∃ x y, h' = [some [.v (.int .i64 t), .v (.int .i64 m), .v (.int .i64 L), .sl 1 0 1 0 L c, .v (.int .i64 part)], some es, some [.arr N .u64 (sliceK 0 slice lane t L part 0 fs f0 part)], some [.arr N1 .u64 g1], some [.arr N2 .u64 g2], some [.arr N3 .u64 g3], x, y] := by
  obtain ⟨sp, hsp⟩ : ∃ sp, sp = slice * part := ⟨_, rfl⟩
  have hsp1 : sp + part ≤ n := by rw [hsp, hn]; have := Nat.mul_le_mul_right part (show slice ≤ 3 by omega); omega
  have wsp : IntKind.i64.wrap ((slice : Int) * (part : Int)) = (sp : Int) := by rw [← Int.natCast_mul, ← hsp]; exact wrap_i64_id _ (by omega)
  have hsf : ((slice : Int) < 2) = False := by simp; omega
  have hs0 : ((slice : Int) == 0) = false := by simp; omega
  refine bd (good26o 6) Try.func63 ?_
  refine go26o (an hcell (an hsf hs0)) ?_
  rw [← hzp]
  repeat with_reducible refine gd ?_
  refine loop_count (good26o 6) (fun k => ⟨envL [(0, .ptr 0 0 0), (3, .ptr 6 0 0), (4, .sl 2 0 128 0 n n), (5, .v (.bool false)), (6, .ptr 7 0 0)],
    [some [.v (.int .i64 t), .v (.int .i64 m), .v (.int .i64 L), .sl 1 0 1 0 L c, .v (.int .i64 part)], some es, some [.arr N .u64 (sliceK 0 slice lane t L part 0 fs f0 k)], some [.arr N1 .u64 g1], some [.arr N2 .u64 g2], some [.arr N3 .u64 g3],
     some [.v (.int .i64 0), .v (.int .i64 slice), .v (.int .i64 lane), .v (.int .i64 (k))], some [.arr 128 .u64 zp]]⟩) part (by kernel_rfl) ?_ ?_ ?_
  · (refine weak_of ?_ ?_; (focus (first | with_reducible rfl | (simp only [sliceK, Int.natCast_zero, Nat.add_zero, Int.cast_ofNat_Int] <;> with_reducible rfl))); simp only [exF, Nat.reduceEqDiff, if_true, if_false, reduceIte, Option.some.injEq, reduceCtorEq, Int.cast_ofNat_Int, sliceK, Int.natCast_zero, Nat.add_zero, Int.cast_ofNat_Int])
  · intro i hi
    have hfk := sliceK_len 0 slice lane t L part 0 fs (by rw [hf0, hN, hn]) h2 i (by omega)
    have hwk := sliceK_w 0 slice lane t L part 0 fs (by rw [hf0, hN, hn]) hw0 h2 (by omega) i (by omega)
    rw [← hn, ← hN] at hfk
    have hS : sliceK 0 slice lane t L part 0 fs f0 (i + 1) = stepF 0 slice lane (0 + i) t L part fs (sliceK 0 slice lane t L part 0 fs f0 i) := rfl
    rw [hS]
    obtain ⟨f, hff⟩ : ∃ f, sliceK 0 slice lane t L part 0 fs f0 i = f := ⟨_, rfl⟩
    rw [hff] at hfk hwk ⊢
    clear hff hS
    rw [Nat.zero_add]
    have hall2 := fun M rest => hall M f rest hfk
    obtain ⟨j, hj⟩ : ∃ j, j = (sp + i + n - 1) % n := ⟨_, rfl⟩
    have hjl : j < n := by rw [hj]; exact Nat.mod_lt _ (by omega)
    have hlt : ((i : Int) < (part : Int)) = True := by simp; omega
    have wh : IntKind.i64.wrap ((sp : Int) + (i : Int)) = ((sp + i : Nat) : Int) := by rw [wrap_i64_id _ (by omega)]; omega
    have wl : IntKind.i64.wrap (((sp + i : Nat) : Int) + ((n : Nat) : Int)) = ((sp + i + n : Nat) : Int) := by rw [wrap_i64_id _ (by omega)]; omega
    have wl1 : IntKind.i64.wrap (((sp + i + n : Nat) : Int) - 1) = ((sp + i + n - 1 : Nat) : Int) := by rw [wrap_i64_id _ (by omega)]; omega
    have wm : ((sp + i + n - 1 : Nat) : Int).tmod ((n : Nat) : Int) = (j : Int) := by rw [← Int.ofNat_tmod, hj]
    have wj : ((j : Int)).toNat = j := Int.toNat_natCast j
    have hn0 : (((n : Nat) : Int) = 0) = False := by simp; omega
    have hsl : (fs.set lane f).length = L := by rw [List.length_set]; exact hfl
    have hahl : (pageAt f j).length = 128 := pageAt_len (n := n) (by rw [hfk, hN]) hjl
    have hN1 : (N = 128) = False := by simp; omega
    have hW := hwk.page j 0
    obtain ⟨ah, hah⟩ : ∃ ah, pageAt f j = ah := ⟨_, rfl⟩
    rw [hah] at hahl hW
    obtain ⟨w, hw⟩ := Int.eq_ofNat_of_zero_le hW.1
    have hw2 : w < 18446744073709551616 := by have := hW.2; omega
    have hah2 : aheadP slice i part f = ah := by unfold aheadP; rw [← hn, ← hsp, ← hj, hah]
    obtain ⟨o, ho⟩ : ∃ o, o = stepO 0 slice lane i L part (fs.set lane f) w := ⟨_, rfl⟩
    have hol : o.length = 128 := by rw [ho]; exact stepO_len hn (by omega) hsl h3 (by rw [← hN]; exact mem_set_len hfn hfk)
    have hoth : ∀ M rest, othL 0 slice lane i w (M :: some es :: some [.arr N .u64 f] :: some [.arr N1 .u64 g1] :: some [.arr N2 .u64 g2] :: some [.arr N3 .u64 g3] :: rest) t L part L es = some (.one (.arr 128 .u64 o) (M :: some es :: some [.arr N .u64 f] :: some [.arr N1 .u64 g1] :: some [.arr N2 .u64 g2] :: some [.arr N3 .u64 g3] :: rest)) := by
      intro M rest
      rw [ho]
      exact othL_of (pass := 0) (slice := slice) (hall2 M rest) (by omega) (by omega) h3 hi h5 hL h7 (by omega) hsl hw2
    have hpl : (pagesL ah o).length = 128 := by rw [pagesL_len, hahl]
    have hpt : List.take 128 (pagesL ah o) = pagesL ah o := List.take_of_length_le (by omega)
    have hat : List.take 128 ah = ah := List.take_of_length_le (by omega)
    have hp : stepP 0 slice lane i t L part fs f = pagesL ah o := by
      unfold stepP stepW
      rw [if_neg (by omega), hah2, hw, Int.toNat_natCast, ho]
    have hst : stepF 0 slice lane i t L part fs f = List.take ((sp + i) * 128) f ++ pagesL ah o ++ List.drop ((sp + i) * 128 + 128) f := by
      unfold stepF putAt; rw [if_neg (by omega), hp, ← hsp]
    rw [hst]
    simp only [c26o_P, c26o_odd, c26o_ro, Nat.reduceBEq, reduceIte, Nat.reduceEqDiff, reduceCtorEq, ne_eq, if_true, if_false, exA, exA, tabs, exB, exD, buildA, rowOr, rowSetAt, rowAgg, mkAgg, AV.isAggV, AV.parts, AV.one, AV.solid, headSize, indexAddrA, indexA, fieldAddrA, fieldA, sliceA, boundsA, bndA, lenA, arrayAtA, rowOf, makeSliceA, intsOf, copyA, Nat.reduceAdd, Nat.reduceSub, Nat.reduceMul, Nat.reduceLeDiff, Nat.reduceLT, Nat.reduceGT, Int.reduceToNat, Int.reduceLE, Int.reduceLT, Int.reduceEq, Int.reduceNe, Int.reduceAdd, Int.reduceSub, Int.reduceMul, Int.reduceNeg, ite_true, ite_false, dite_true, xc10, xc11, xc12, xc13, xc14, xc15, xc16, xc17, xc20, xc21, xc22, xc23, xc24, xc25, xc26, xc26o, run_range, exR, wsp, hall2, hlt, wh, wl, wl1, wm, wj, hn0]
    repeat with_reducible refine gd ?_
    (rw [show List.take 128 (List.drop (j * 128) f) = pageAt f j from rfl, hah, hw])
    skip
    refine odd_merge (good26o 6) (.first 0 (.first 1 (.first 2 (.first 3 (.fork 4 (.fork 5 (.fork 6 (.fork 7 .done .stop) .stop) (.fork 6 (.fork 5 (.fork 7 .done .stop) .stop) .stop)) (.fork 6 (.fork 4 (.fork 5 (.fork 7 .done .stop) .stop) .stop) .stop))))))
      ⟨envL [(0, .ptr 0 0 0), (3, .ptr 6 0 0), (4, .sl 2 0 128 0 n n), (5, .v (.bool false)), (6, .ptr 7 0 0), (7, .v (.int .i64 ((sp + i : Nat)))), (10, .ptr 9 0 0)],
      [some [.v (.int .i64 t), .v (.int .i64 m), .v (.int .i64 L), .sl 1 0 1 0 L c, .v (.int .i64 part)], some es, some [.arr N .u64 f], some [.arr N1 .u64 g1], some [.arr N2 .u64 g2], some [.arr N3 .u64 g3],
       some [.v (.int .i64 0), .v (.int .i64 slice), .v (.int .i64 lane), .v (.int .i64 i)], some [.arr 128 .u64 zp], some [.arr 128 .u64 ah], some [.arr 128 .u64 (pagesL ah o)]]⟩ (by kernel_rfl) ?_ ?_
    · refine go26o (an hoth (an hat (an hahl (an hol (an hpl hpt))))) ?_
      repeat' (first | exact trivial | rfl | refine And.intro ?_ ?_)
      all_goals exact wk nf
    · refine go26o (an hN1 (an @and_false hpt)) ?_
      repeat with_reducible refine gd ?_
      exact wgc [0, 1, 2, 3, 4, 5, 6, 7] hren
  · refine go26o nf ?_
    exact ⟨_, _, rfl⟩
theorem slice_b (slice lane t L part m c n N N1 N2 N3 : Nat) (hn : n = 4 * part) (hN : N = n * 128) (es : List AV) (fs : List (List Int)) (f0 g1 g2 g3 zp : List Int) (hzp : zp = List.replicate 128 0) (h2 : slice < 4) (h2b : 2 ≤ slice) (h3 : lane < L) (hL : 1 ≤ L ∧ L ≤ 4) (h5 : t ≤ 8) (h7 : 2 ≤ part ∧ part ≤ 64)
    (hf0 : f0.length = N) (hw0 : Wds f0) (hfl : fs.length = L) (hfn : ∀ g ∈ fs, g.length = N)
    (hcell : rowCell es lane = some (.sl 2 0 128 0 n n))
    (hren : ∀ l len, renL (gcMap (0 :: 1 :: 2 :: 3 :: 4 :: 5 :: l) len) es = es)
    (hall : ∀ M f rest, f.length = N → allOf (flatOf (M :: some es :: some [.arr N .u64 f] :: some [.arr N1 .u64 g1] :: some [.arr N2 .u64 g2] :: some [.arr N3 .u64 g3] :: rest) (4 * part)) es = some (fs.set lane f)) :
    ACall Try.prog 63 [.ptr 0 0 0, .agg [.v (.int .i64 0), .v (.int .i64 slice), .v (.int .i64 lane), .v (.int .i64 0)]]
      [some [.v (.int .i64 t), .v (.int .i64 m), .v (.int .i64 L), .sl 1 0 1 0 L c, .v (.int .i64 part)], some es, some [.arr N .u64 f0], some [.arr N1 .u64 g1], some [.arr N2 .u64 g2], some [.arr N3 .u64 g3]]
      fun v h' => v = .tup [] ∧ h' = [some [.v (.int .i64 t), .v (.int .i64 m), .v (.int .i64 L), .sl 1 0 1 0 L c, .v (.int .i64 part)], some es, some [.arr N .u64 (sliceK 0 slice lane t L part 0 fs f0 part)], some [.arr N1 .u64 g1], some [.arr N2 .u64 g2], some [.arr N3 .u64 g3]] := by
  refine ACall.weak (C := c26o 6) rfl (κ := fun v h' => v = .tup [] ∧ ∃ x y, h' = [some [.v (.int .i64 t), .v (.int .i64 m), .v (.int .i64 L), .sl 1 0 1 0 L c, .v (.int .i64 part)], some es, some [.arr N .u64 (sliceK 0 slice lane t L part 0 fs f0 part)], some [.arr N1 .u64 g1], some [.arr N2 .u64 g2], some [.arr N3 .u64 g3], x, y]) ?_ ?_
  · exact slice_ba slice lane t L part m c n N N1 N2 N3 hn hN es fs f0 g1 g2 g3 zp hzp h2 h2b h3 hL h5 h7 hf0 hw0 hfl hfn hcell hren hall
  · rintro _ _ ⟨rfl, x, y, rfl⟩
    exact ⟨_, _, weak_gc' [0, 1, 2, 3, 4, 5] (by decide) (by simp) (by rfl) (by simp only [List.map_cons, List.map_nil, List.getElem?_cons_zero, List.getElem?_cons_succ, renB, Option.map_some, renL, AV.ren, hren, gcMap, List.getD_cons_zero, List.getD_cons_succ]) ⟨rfl, trivial⟩, rfl, rfl⟩
end Go.Proofs.Ytfnfmbikooeiaaa

namespace Go.Proofs.Ytfnfmbikooeiaaa
open Go.Ax
theorem slice_ca (lane t L part m c n N N1 N2 N3 : Nat) (hn : n = 4 * part) (hN : N = n * 128) (es : List AV) (fs : List (List Int)) (f0 g1 g2 g3 zp : List Int) (hzp : zp = adrL 0 1 lane 0 t L part) (h3 : lane < L) (hL : 1 ≤ L ∧ L ≤ 4) (h5 : t ≤ 8) (h7 : 2 ≤ part ∧ part ≤ 64)
    (hf0 : f0.length = N) (hw0 : Wds f0) (hfl : fs.length = L) (hfn : ∀ g ∈ fs, g.length = N)
    (hcell : rowCell es lane = some (.sl 2 0 128 0 n n))
    (hren : ∀ l len, renL (gcMap (0 :: 1 :: 2 :: 3 :: 4 :: 5 :: l) len) es = es)
    (hall : ∀ M f rest, f.length = N → allOf (flatOf (M :: some es :: some [.arr N .u64 f] :: some [.arr N1 .u64 g1] :: some [.arr N2 .u64 g2] :: some [.arr N3 .u64 g3] :: rest) (4 * part)) es = some (fs.set lane f)) :
    ACall Try.prog 63 [.ptr 0 0 0, .agg [.v (.int .i64 0), .v (.int .i64 1), .v (.int .i64 lane), .v (.int .i64 0)]]
      [some [.v (.int .i64 t), .v (.int .i64 m), .v (.int .i64 L), .sl 1 0 1 0 L c, .v (.int .i64 part)], some es, some [.arr N .u64 f0], some [.arr N1 .u64 g1], some [.arr N2 .u64 g2], some [.arr N3 .u64 g3]]
      fun v h' => v = .tup [] ∧ ∃ x y, h' = [some [.v (.int .i64 t), .v (.int .i64 m), .v (.int .i64 L), .sl 1 0 1 0 L c, .v (.int .i64 part)], some es, some [.arr N .u64 (sliceK 0 1 lane t L part 0 fs f0 part)], some [.arr N1 .u64 g1], some [.arr N2 .u64 g2], some [.arr N3 .u64 g3], x, y] := by
  obtain ⟨sp, hsp⟩ : ∃ sp, sp = 1 * part := ⟨_, rfl⟩
  have hsp1 : sp + part ≤ n := by omega
  have wsp : IntKind.i64.wrap ((1 : Int) * (part : Int)) = (sp : Int) := by rw [wrap_i64_id _ (by omega)]; omega
  refine bd (good26o 6) Try.func63 ?_
  refine go26o hcell ?_
  have hzl : zp.length = 128 := by rw [hzp]; unfold adrL; rw [pagesL_len]; rfl
  have hzw : Wds zp := by rw [hzp]; exact pagesL_w (by decide)
  have hzt : List.take 128 zp = zp := List.take_of_length_le (by omega)
  rw [← hzp]
  repeat with_reducible refine gd ?_
  try simp only [hzt, hzl]
  repeat with_reducible refine gd ?_
  refine loop_count (good26o 6) (fun k => ⟨envL [(0, .ptr 0 0 0), (3, .ptr 6 0 0), (4, .sl 2 0 128 0 n n), (5, .v (.bool true)), (6, .ptr 7 0 0)],
    [some [.v (.int .i64 t), .v (.int .i64 m), .v (.int .i64 L), .sl 1 0 1 0 L c, .v (.int .i64 part)], some es, some [.arr N .u64 (sliceK 0 1 lane t L part 0 fs f0 k)], some [.arr N1 .u64 g1], some [.arr N2 .u64 g2], some [.arr N3 .u64 g3],
     some [.v (.int .i64 0), .v (.int .i64 1), .v (.int .i64 lane), .v (.int .i64 (k))], some [.arr 128 .u64 zp]]⟩) part (by kernel_rfl) ?_ ?_ ?_
  · (refine weak_of ?_ ?_; (focus (first | with_reducible rfl | (simp only [sliceK, Int.natCast_zero, Nat.add_zero, Int.cast_ofNat_Int] <;> with_reducible rfl))); simp only [exF, Nat.reduceEqDiff, if_true, if_false, reduceIte, Option.some.injEq, reduceCtorEq, Int.cast_ofNat_Int, sliceK, Int.natCast_zero, Nat.add_zero, Int.cast_ofNat_Int])
  · intro i hi
    have hfk := sliceK_len 0 1 lane t L part 0 fs (by rw [hf0, hN, hn]) (by decide) i (by omega)
    have hwk := sliceK_w 0 1 lane t L part 0 fs (by rw [hf0, hN, hn]) hw0 (by decide) (by omega) i (by omega)
    rw [← hn, ← hN] at hfk
    have hS : sliceK 0 1 lane t L part 0 fs f0 (i + 1) = stepF 0 1 lane (0 + i) t L part fs (sliceK 0 1 lane t L part 0 fs f0 i) := rfl
    rw [hS]
    obtain ⟨f, hff⟩ : ∃ f, sliceK 0 1 lane t L part 0 fs f0 i = f := ⟨_, rfl⟩
    rw [hff] at hfk hwk ⊢
    clear hff hS
    rw [Nat.zero_add]
    have hall2 := fun M rest => hall M f rest hfk
    obtain ⟨j, hj⟩ : ∃ j, j = (sp + i + n - 1) % n := ⟨_, rfl⟩
    have hjl : j < n := by rw [hj]; exact Nat.mod_lt _ (by omega)
    have hlt : ((i : Int) < (part : Int)) = True := by simp; omega
    have wh : IntKind.i64.wrap ((sp : Int) + (i : Int)) = ((sp + i : Nat) : Int) := by rw [wrap_i64_id _ (by omega)]; omega
    have wl : IntKind.i64.wrap (((sp + i : Nat) : Int) + ((n : Nat) : Int)) = ((sp + i + n : Nat) : Int) := by rw [wrap_i64_id _ (by omega)]; omega
    have wl1 : IntKind.i64.wrap (((sp + i + n : Nat) : Int) - 1) = ((sp + i + n - 1 : Nat) : Int) := by rw [wrap_i64_id _ (by omega)]; omega
    have wm : ((sp + i + n - 1 : Nat) : Int).tmod ((n : Nat) : Int) = (j : Int) := by rw [← Int.ofNat_tmod, hj]
    have wj : ((j : Int)).toNat = j := Int.toNat_natCast j
    have hn0 : (((n : Nat) : Int) = 0) = False := by simp; omega
    have hsl : (fs.set lane f).length = L := by rw [List.length_set]; exact hfl
    have hahl : (pageAt f j).length = 128 := pageAt_len (n := n) (by rw [hfk, hN]) hjl
    have hN1 : (N = 128) = False := by simp; omega
    have hW := hzw i
    have wi : ((i : Int)).tmod 128 = (i : Int) := by rw [Int.tmod_eq_of_lt (by omega) (by omega)]
    obtain ⟨ah, hah⟩ : ∃ ah, pageAt f j = ah := ⟨_, rfl⟩
    rw [hah] at hahl
    obtain ⟨w, hw⟩ := Int.eq_ofNat_of_zero_le hW.1
    have hw2 : w < 18446744073709551616 := by have := hW.2; omega
    have hah2 : aheadP 1 i part f = ah := by unfold aheadP; rw [← hn, ← hsp, ← hj, hah]
    obtain ⟨o, ho⟩ : ∃ o, o = stepO 0 1 lane i L part (fs.set lane f) w := ⟨_, rfl⟩
    have hol : o.length = 128 := by rw [ho]; exact stepO_len hn (by omega) hsl h3 (by rw [← hN]; exact mem_set_len hfn hfk)
    have hoth : ∀ M rest, othL 0 1 lane i w (M :: some es :: some [.arr N .u64 f] :: some [.arr N1 .u64 g1] :: some [.arr N2 .u64 g2] :: some [.arr N3 .u64 g3] :: rest) t L part L es = some (.one (.arr 128 .u64 o) (M :: some es :: some [.arr N .u64 f] :: some [.arr N1 .u64 g1] :: some [.arr N2 .u64 g2] :: some [.arr N3 .u64 g3] :: rest)) := by
      intro M rest
      rw [ho]
      exact othL_of (pass := 0) (slice := 1) (hall2 M rest) (by omega) (by omega) h3 hi h5 hL h7 (by omega) hsl hw2
    have hpl : (pagesL ah o).length = 128 := by rw [pagesL_len, hahl]
    have hpt : List.take 128 (pagesL ah o) = pagesL ah o := List.take_of_length_le (by omega)
    have hat : List.take 128 ah = ah := List.take_of_length_le (by omega)
    have hp : stepP 0 1 lane i t L part fs f = pagesL ah o := by
      unfold stepP stepW
      rw [if_pos (by omega), hah2, ← hzp, hw, Int.toNat_natCast, ho]
    have hst : stepF 0 1 lane i t L part fs f = List.take ((sp + i) * 128) f ++ pagesL ah o ++ List.drop ((sp + i) * 128 + 128) f := by
      unfold stepF putAt; rw [if_neg (by omega), hp, ← hsp]
    rw [hst]
    have hadr : adrL 0 1 lane i t L part = adrL 0 1 lane 0 t L part := by unfold adrL adrZ; rw [Nat.div_eq_of_lt (by omega)]
    obtain hi0 | hi0 : ((i : Int) == 0) = true ∨ ((i : Int) == 0) = false := by cases ((i : Int) == 0) <;> simp
    all_goals (
      simp only [c26o_P, c26o_odd, c26o_ro, Nat.reduceBEq, reduceIte, Nat.reduceEqDiff, reduceCtorEq, ne_eq, if_true, if_false, exA, exA, tabs, exB, exD, buildA, rowOr, rowSetAt, rowAgg, mkAgg, AV.isAggV, AV.parts, AV.one, AV.solid, headSize, indexAddrA, indexA, fieldAddrA, fieldA, sliceA, boundsA, bndA, lenA, arrayAtA, rowOf, makeSliceA, intsOf, copyA, Nat.reduceAdd, Nat.reduceSub, Nat.reduceMul, Nat.reduceLeDiff, Nat.reduceLT, Nat.reduceGT, Int.reduceToNat, Int.reduceLE, Int.reduceLT, Int.reduceEq, Int.reduceNe, Int.reduceAdd, Int.reduceSub, Int.reduceMul, Int.reduceNeg, ite_true, ite_false, dite_true, xc10, xc11, xc12, xc13, xc14, xc15, xc16, xc17, xc20, xc21, xc22, xc23, xc24, xc25, xc26, xc26o, run_range, exR, wsp, hall2, hlt, wh, wl, wl1, wm, wj, hn0, wi, hi0, adrK_eq, Int.toNat_natCast]
      repeat with_reducible refine gd ?_
      (rw [show List.take 128 (List.drop (j * 128) f) = pageAt f j from rfl, hah])
      (try simp only [hadr, ← hzp, hzt, hzl, hw, true_and]); (repeat with_reducible refine gd ?_)
      refine odd_merge (good26o 6) (.first 0 (.first 1 (.first 2 (.first 3 (.fork 4 (.fork 5 (.fork 6 (.fork 7 .done .stop) .stop) (.fork 6 (.fork 5 (.fork 7 .done .stop) .stop) .stop)) (.fork 6 (.fork 4 (.fork 5 (.fork 7 .done .stop) .stop) .stop) .stop))))))
        ⟨envL [(0, .ptr 0 0 0), (3, .ptr 6 0 0), (4, .sl 2 0 128 0 n n), (5, .v (.bool true)), (6, .ptr 7 0 0), (7, .v (.int .i64 ((sp + i : Nat)))), (10, .ptr 9 0 0)],
        [some [.v (.int .i64 t), .v (.int .i64 m), .v (.int .i64 L), .sl 1 0 1 0 L c, .v (.int .i64 part)], some es, some [.arr N .u64 f], some [.arr N1 .u64 g1], some [.arr N2 .u64 g2], some [.arr N3 .u64 g3],
         some [.v (.int .i64 0), .v (.int .i64 1), .v (.int .i64 lane), .v (.int .i64 i)], some [.arr 128 .u64 zp], some [.arr 128 .u64 ah], some [.arr 128 .u64 (pagesL ah o)]]⟩ (by kernel_rfl) ?_ ?_
      · refine go26o (an hoth (an hat (an hahl (an hol (an hpl hpt))))) ?_
        repeat' (first | exact trivial | rfl | refine And.intro ?_ ?_)
        all_goals exact wk nf
      · refine go26o (an hN1 (an @and_false hpt)) ?_
        repeat with_reducible refine gd ?_
        exact wgc [0, 1, 2, 3, 4, 5, 6, 7] hren)
  · refine go26o nf ?_
    exact ⟨_, _, rfl⟩
theorem slice_c (lane t L part m c n N N1 N2 N3 : Nat) (hn : n = 4 * part) (hN : N = n * 128) (es : List AV) (fs : List (List Int)) (f0 g1 g2 g3 zp : List Int) (hzp : zp = adrL 0 1 lane 0 t L part) (h3 : lane < L) (hL : 1 ≤ L ∧ L ≤ 4) (h5 : t ≤ 8) (h7 : 2 ≤ part ∧ part ≤ 64)
    (hf0 : f0.length = N) (hw0 : Wds f0) (hfl : fs.length = L) (hfn : ∀ g ∈ fs, g.length = N)
    (hcell : rowCell es lane = some (.sl 2 0 128 0 n n))
    (hren : ∀ l len, renL (gcMap (0 :: 1 :: 2 :: 3 :: 4 :: 5 :: l) len) es = es)
    (hall : ∀ M f rest, f.length = N → allOf (flatOf (M :: some es :: some [.arr N .u64 f] :: some [.arr N1 .u64 g1] :: some [.arr N2 .u64 g2] :: some [.arr N3 .u64 g3] :: rest) (4 * part)) es = some (fs.set lane f)) :
    ACall Try.prog 63 [.ptr 0 0 0, .agg [.v (.int .i64 0), .v (.int .i64 1), .v (.int .i64 lane), .v (.int .i64 0)]]
      [some [.v (.int .i64 t), .v (.int .i64 m), .v (.int .i64 L), .sl 1 0 1 0 L c, .v (.int .i64 part)], some es, some [.arr N .u64 f0], some [.arr N1 .u64 g1], some [.arr N2 .u64 g2], some [.arr N3 .u64 g3]]
      fun v h' => v = .tup [] ∧ h' = [some [.v (.int .i64 t), .v (.int .i64 m), .v (.int .i64 L), .sl 1 0 1 0 L c, .v (.int .i64 part)], some es, some [.arr N .u64 (sliceK 0 1 lane t L part 0 fs f0 part)], some [.arr N1 .u64 g1], some [.arr N2 .u64 g2], some [.arr N3 .u64 g3]] := by
  refine ACall.weak (C := c26o 6) rfl (κ := fun v h' => v = .tup [] ∧ ∃ x y, h' = [some [.v (.int .i64 t), .v (.int .i64 m), .v (.int .i64 L), .sl 1 0 1 0 L c, .v (.int .i64 part)], some es, some [.arr N .u64 (sliceK 0 1 lane t L part 0 fs f0 part)], some [.arr N1 .u64 g1], some [.arr N2 .u64 g2], some [.arr N3 .u64 g3], x, y]) ?_ ?_
  · exact slice_ca lane t L part m c n N N1 N2 N3 hn hN es fs f0 g1 g2 g3 zp hzp h3 hL h5 h7 hf0 hw0 hfl hfn hcell hren hall
  · rintro _ _ ⟨rfl, x, y, rfl⟩
    exact ⟨_, _, weak_gc' [0, 1, 2, 3, 4, 5] (by decide) (by simp) (by rfl) (by simp only [List.map_cons, List.map_nil, List.getElem?_cons_zero, List.getElem?_cons_succ, renB, Option.map_some, renL, AV.ren, hren, gcMap, List.getD_cons_zero, List.getD_cons_succ]) ⟨rfl, trivial⟩, rfl, rfl⟩
end Go.Proofs.Ytfnfmbikooeiaaa

namespace Go.Proofs.Ytfnfmbikooeiaaa
open Go.Ax
theorem slice_da (lane t L part m c n N N1 N2 N3 : Nat) (hn : n = 4 * part) (hN : N = n * 128) (es : List AV) (fs : List (List Int)) (f0 g1 g2 g3 zp : List Int) (hzp : zp = adrL 0 0 lane 0 t L part) (h3 : lane < L) (hL : 1 ≤ L ∧ L ≤ 4) (h5 : t ≤ 8) (h7 : 2 ≤ part ∧ part ≤ 64)
    (hf0 : f0.length = N) (hw0 : Wds f0) (hfl : fs.length = L) (hfn : ∀ g ∈ fs, g.length = N)
    (hcell : rowCell es lane = some (.sl 2 0 128 0 n n))
    (hren : ∀ l len, renL (gcMap (0 :: 1 :: 2 :: 3 :: 4 :: 5 :: l) len) es = es)
    (hall : ∀ M f rest, f.length = N → allOf (flatOf (M :: some es :: some [.arr N .u64 f] :: some [.arr N1 .u64 g1] :: some [.arr N2 .u64 g2] :: some [.arr N3 .u64 g3] :: rest) (4 * part)) es = some (fs.set lane f)) :
    ACall Try.prog 63 [.ptr 0 0 0, .agg [.v (.int .i64 0), .v (.int .i64 0), .v (.int .i64 lane), .v (.int .i64 0)]]
      [some [.v (.int .i64 t), .v (.int .i64 m), .v (.int .i64 L), .sl 1 0 1 0 L c, .v (.int .i64 part)], some es, some [.arr N .u64 f0], some [.arr N1 .u64 g1], some [.arr N2 .u64 g2], some [.arr N3 .u64 g3]]
      fun v h' => v = .tup [] ∧ ∃ x y, h' = [some [.v (.int .i64 t), .v (.int .i64 m), .v (.int .i64 L), .sl 1 0 1 0 L c, .v (.int .i64 part)], some es, some [.arr N .u64 (sliceK 0 0 lane t L part 2 fs f0 (part - 2))], some [.arr N1 .u64 g1], some [.arr N2 .u64 g2], some [.arr N3 .u64 g3], x, y] := by
  obtain ⟨sp, hsp⟩ : ∃ sp, sp = 0 * part := ⟨_, rfl⟩
  have hsp1 : sp + part ≤ n := by omega
  have wsp : IntKind.i64.wrap ((0 : Int) * (part : Int)) = (sp : Int) := by rw [wrap_i64_id _ (by omega)]; omega
  refine bd (good26o 6) Try.func63 ?_
  refine go26o hcell ?_
  rw [show adrL 0 0 lane 2 t L part = adrL 0 0 lane 0 t L part from rfl]
  have hzl : zp.length = 128 := by rw [hzp]; unfold adrL; rw [pagesL_len]; rfl
  have hzw : Wds zp := by rw [hzp]; exact pagesL_w (by decide)
  have hzt : List.take 128 zp = zp := List.take_of_length_le (by omega)
  rw [← hzp]
  repeat with_reducible refine gd ?_
  try simp only [hzt, hzl]
  repeat with_reducible refine gd ?_
  refine loop_count (good26o 6) (fun k => ⟨envL [(0, .ptr 0 0 0), (3, .ptr 6 0 0), (4, .sl 2 0 128 0 n n), (5, .v (.bool true)), (6, .ptr 7 0 0)],
    [some [.v (.int .i64 t), .v (.int .i64 m), .v (.int .i64 L), .sl 1 0 1 0 L c, .v (.int .i64 part)], some es, some [.arr N .u64 (sliceK 0 0 lane t L part 2 fs f0 k)], some [.arr N1 .u64 g1], some [.arr N2 .u64 g2], some [.arr N3 .u64 g3],
     some [.v (.int .i64 0), .v (.int .i64 0), .v (.int .i64 lane), .v (.int .i64 ((2 + k : Nat)))], some [.arr 128 .u64 zp]]⟩) (part - 2) (by kernel_rfl) ?_ ?_ ?_
  · (refine weak_of ?_ ?_; (focus (first | with_reducible rfl | (simp only [sliceK, Int.natCast_zero, Nat.add_zero, Int.cast_ofNat_Int] <;> with_reducible rfl))); simp only [exF, Nat.reduceEqDiff, if_true, if_false, reduceIte, Option.some.injEq, reduceCtorEq, Int.cast_ofNat_Int, sliceK, Int.natCast_zero, Nat.add_zero, Int.cast_ofNat_Int])
  · intro i hi
    have hfk := sliceK_len 0 0 lane t L part 2 fs (by rw [hf0, hN, hn]) (by decide) i (by omega)
    have hwk := sliceK_w 0 0 lane t L part 2 fs (by rw [hf0, hN, hn]) hw0 (by decide) (by omega) i (by omega)
    rw [← hn, ← hN] at hfk
    have hS : sliceK 0 0 lane t L part 2 fs f0 (i + 1) = stepF 0 0 lane (2 + i) t L part fs (sliceK 0 0 lane t L part 2 fs f0 i) := rfl
    rw [hS]
    obtain ⟨f, hff⟩ : ∃ f, sliceK 0 0 lane t L part 2 fs f0 i = f := ⟨_, rfl⟩
    rw [hff] at hfk hwk ⊢
    clear hff hS
    rw [show 2 + (i + 1) = 2 + i + 1 from rfl]
    obtain ⟨i, hii⟩ : ∃ q, q = 2 + i := ⟨_, rfl⟩
    rw [← hii]
    have hi : i < part := by omega
    have hi2 : 2 ≤ i := by omega
    have hall2 := fun M rest => hall M f rest hfk
    obtain ⟨j, hj⟩ : ∃ j, j = (sp + i + n - 1) % n := ⟨_, rfl⟩
    have hjl : j < n := by rw [hj]; exact Nat.mod_lt _ (by omega)
    have hlt : ((i : Int) < (part : Int)) = True := by simp; omega
    have wh : IntKind.i64.wrap ((sp : Int) + (i : Int)) = ((sp + i : Nat) : Int) := by rw [wrap_i64_id _ (by omega)]; omega
    have wl : IntKind.i64.wrap (((sp + i : Nat) : Int) + ((n : Nat) : Int)) = ((sp + i + n : Nat) : Int) := by rw [wrap_i64_id _ (by omega)]; omega
    have wl1 : IntKind.i64.wrap (((sp + i + n : Nat) : Int) - 1) = ((sp + i + n - 1 : Nat) : Int) := by rw [wrap_i64_id _ (by omega)]; omega
    have wm : ((sp + i + n - 1 : Nat) : Int).tmod ((n : Nat) : Int) = (j : Int) := by rw [← Int.ofNat_tmod, hj]
    have wj : ((j : Int)).toNat = j := Int.toNat_natCast j
    have hn0 : (((n : Nat) : Int) = 0) = False := by simp; omega
    have hsl : (fs.set lane f).length = L := by rw [List.length_set]; exact hfl
    have hahl : (pageAt f j).length = 128 := pageAt_len (n := n) (by rw [hfk, hN]) hjl
    have hN1 : (N = 128) = False := by simp; omega
    have hW := hzw i
    have wi : ((i : Int)).tmod 128 = (i : Int) := by rw [Int.tmod_eq_of_lt (by omega) (by omega)]
    obtain ⟨ah, hah⟩ : ∃ ah, pageAt f j = ah := ⟨_, rfl⟩
    rw [hah] at hahl
    obtain ⟨w, hw⟩ := Int.eq_ofNat_of_zero_le hW.1
    have hw2 : w < 18446744073709551616 := by have := hW.2; omega
    have hah2 : aheadP 0 i part f = ah := by unfold aheadP; rw [← hn, ← hsp, ← hj, hah]
    obtain ⟨o, ho⟩ : ∃ o, o = stepO 0 0 lane i L part (fs.set lane f) w := ⟨_, rfl⟩
    have hol : o.length = 128 := by rw [ho]; exact stepO_len hn (by omega) hsl h3 (by rw [← hN]; exact mem_set_len hfn hfk)
    have hoth : ∀ M rest, othL 0 0 lane i w (M :: some es :: some [.arr N .u64 f] :: some [.arr N1 .u64 g1] :: some [.arr N2 .u64 g2] :: some [.arr N3 .u64 g3] :: rest) t L part L es = some (.one (.arr 128 .u64 o) (M :: some es :: some [.arr N .u64 f] :: some [.arr N1 .u64 g1] :: some [.arr N2 .u64 g2] :: some [.arr N3 .u64 g3] :: rest)) := by
      intro M rest
      rw [ho]
      exact othL_of (pass := 0) (slice := 0) (hall2 M rest) (by omega) (by omega) h3 hi h5 hL h7 (by omega) hsl hw2
    have hpl : (pagesL ah o).length = 128 := by rw [pagesL_len, hahl]
    have hpt : List.take 128 (pagesL ah o) = pagesL ah o := List.take_of_length_le (by omega)
    have hat : List.take 128 ah = ah := List.take_of_length_le (by omega)
    have hp : stepP 0 0 lane i t L part fs f = pagesL ah o := by
      unfold stepP stepW
      rw [if_pos (by omega), hah2, ← hzp, hw, Int.toNat_natCast, ho]
    have hst : stepF 0 0 lane i t L part fs f = List.take ((sp + i) * 128) f ++ pagesL ah o ++ List.drop ((sp + i) * 128 + 128) f := by
      unfold stepF putAt; rw [if_neg (by omega), hp, ← hsp]
    rw [hst]
    have hadr : adrL 0 0 lane i t L part = adrL 0 0 lane 0 t L part := by unfold adrL adrZ; rw [Nat.div_eq_of_lt (by omega)]
    have hi0 : ((i : Int) == 0) = false := by simp; omega
    simp only [c26o_P, c26o_odd, c26o_ro, Nat.reduceBEq, reduceIte, Nat.reduceEqDiff, reduceCtorEq, ne_eq, if_true, if_false, exA, exA, tabs, exB, exD, buildA, rowOr, rowSetAt, rowAgg, mkAgg, AV.isAggV, AV.parts, AV.one, AV.solid, headSize, indexAddrA, indexA, fieldAddrA, fieldA, sliceA, boundsA, bndA, lenA, arrayAtA, rowOf, makeSliceA, intsOf, copyA, Nat.reduceAdd, Nat.reduceSub, Nat.reduceMul, Nat.reduceLeDiff, Nat.reduceLT, Nat.reduceGT, Int.reduceToNat, Int.reduceLE, Int.reduceLT, Int.reduceEq, Int.reduceNe, Int.reduceAdd, Int.reduceSub, Int.reduceMul, Int.reduceNeg, ite_true, ite_false, dite_true, xc10, xc11, xc12, xc13, xc14, xc15, xc16, xc17, xc20, xc21, xc22, xc23, xc24, xc25, xc26, xc26o, run_range, exR, wsp, hall2, hlt, wh, wl, wl1, wm, wj, hn0, wi, hi0, adrK_eq, Int.toNat_natCast]
    repeat with_reducible refine gd ?_
    (rw [show List.take 128 (List.drop (j * 128) f) = pageAt f j from rfl, hah])
    (try simp only [hadr, ← hzp, hzt, hzl, hw, true_and]); (repeat with_reducible refine gd ?_)
    refine odd_merge (good26o 6) (.first 0 (.first 1 (.first 2 (.first 3 (.fork 4 (.fork 5 (.fork 6 (.fork 7 .done .stop) .stop) (.fork 6 (.fork 5 (.fork 7 .done .stop) .stop) .stop)) (.fork 6 (.fork 4 (.fork 5 (.fork 7 .done .stop) .stop) .stop) .stop))))))
      ⟨envL [(0, .ptr 0 0 0), (3, .ptr 6 0 0), (4, .sl 2 0 128 0 n n), (5, .v (.bool true)), (6, .ptr 7 0 0), (7, .v (.int .i64 ((sp + i : Nat)))), (10, .ptr 9 0 0)],
      [some [.v (.int .i64 t), .v (.int .i64 m), .v (.int .i64 L), .sl 1 0 1 0 L c, .v (.int .i64 part)], some es, some [.arr N .u64 f], some [.arr N1 .u64 g1], some [.arr N2 .u64 g2], some [.arr N3 .u64 g3],
       some [.v (.int .i64 0), .v (.int .i64 0), .v (.int .i64 lane), .v (.int .i64 i)], some [.arr 128 .u64 zp], some [.arr 128 .u64 ah], some [.arr 128 .u64 (pagesL ah o)]]⟩ (by kernel_rfl) ?_ ?_
    · refine go26o (an hoth (an hat (an hahl (an hol (an hpl hpt))))) ?_
      repeat' (first | exact trivial | rfl | refine And.intro ?_ ?_)
      all_goals exact wk nf
    · refine go26o (an hN1 (an @and_false hpt)) ?_
      repeat with_reducible refine gd ?_
      exact wgc [0, 1, 2, 3, 4, 5, 6, 7] hren
  · have hlast : ((2 + (part - 2) : Nat) : Int) = (part : Int) := by omega
    refine go26o hlast ?_
    exact ⟨_, _, rfl⟩
theorem slice_d (lane t L part m c n N N1 N2 N3 : Nat) (hn : n = 4 * part) (hN : N = n * 128) (es : List AV) (fs : List (List Int)) (f0 g1 g2 g3 zp : List Int) (hzp : zp = adrL 0 0 lane 0 t L part) (h3 : lane < L) (hL : 1 ≤ L ∧ L ≤ 4) (h5 : t ≤ 8) (h7 : 2 ≤ part ∧ part ≤ 64)
    (hf0 : f0.length = N) (hw0 : Wds f0) (hfl : fs.length = L) (hfn : ∀ g ∈ fs, g.length = N)
    (hcell : rowCell es lane = some (.sl 2 0 128 0 n n))
    (hren : ∀ l len, renL (gcMap (0 :: 1 :: 2 :: 3 :: 4 :: 5 :: l) len) es = es)
    (hall : ∀ M f rest, f.length = N → allOf (flatOf (M :: some es :: some [.arr N .u64 f] :: some [.arr N1 .u64 g1] :: some [.arr N2 .u64 g2] :: some [.arr N3 .u64 g3] :: rest) (4 * part)) es = some (fs.set lane f)) :
    ACall Try.prog 63 [.ptr 0 0 0, .agg [.v (.int .i64 0), .v (.int .i64 0), .v (.int .i64 lane), .v (.int .i64 0)]]
      [some [.v (.int .i64 t), .v (.int .i64 m), .v (.int .i64 L), .sl 1 0 1 0 L c, .v (.int .i64 part)], some es, some [.arr N .u64 f0], some [.arr N1 .u64 g1], some [.arr N2 .u64 g2], some [.arr N3 .u64 g3]]
      fun v h' => v = .tup [] ∧ h' = [some [.v (.int .i64 t), .v (.int .i64 m), .v (.int .i64 L), .sl 1 0 1 0 L c, .v (.int .i64 part)], some es, some [.arr N .u64 (sliceK 0 0 lane t L part 2 fs f0 (part - 2))], some [.arr N1 .u64 g1], some [.arr N2 .u64 g2], some [.arr N3 .u64 g3]] := by
  refine ACall.weak (C := c26o 6) rfl (κ := fun v h' => v = .tup [] ∧ ∃ x y, h' = [some [.v (.int .i64 t), .v (.int .i64 m), .v (.int .i64 L), .sl 1 0 1 0 L c, .v (.int .i64 part)], some es, some [.arr N .u64 (sliceK 0 0 lane t L part 2 fs f0 (part - 2))], some [.arr N1 .u64 g1], some [.arr N2 .u64 g2], some [.arr N3 .u64 g3], x, y]) ?_ ?_
  · exact slice_da lane t L part m c n N N1 N2 N3 hn hN es fs f0 g1 g2 g3 zp hzp h3 hL h5 h7 hf0 hw0 hfl hfn hcell hren hall
  · rintro _ _ ⟨rfl, x, y, rfl⟩
    exact ⟨_, _, weak_gc' [0, 1, 2, 3, 4, 5] (by decide) (by simp) (by rfl) (by simp only [List.map_cons, List.map_nil, List.getElem?_cons_zero, List.getElem?_cons_succ, renB, Option.map_some, renL, AV.ren, hren, gcMap, List.getD_cons_zero, List.getD_cons_succ]) ⟨rfl, trivial⟩, rfl, rfl⟩
end Go.Proofs.Ytfnfmbikooeiaaa

namespace Go.Proofs.Ytfnfmbikooeiaaa
open Go.Ax
def loS (pass slice : Nat) : Nat := if pass = 0 ∧ slice = 0 then 2 else 0
def laneL (pass slice lane t L part : Nat) (fs : List (List Int)) : List Int := sliceK pass slice lane t L part (loS pass slice) fs (fs.getD lane []) (part - loS pass slice)
def sliceL (pass slice lane t L part : Nat) (fs : List (List Int)) : List (List Int) := fs.set lane (laneL pass slice lane t L part fs)
theorem slice_u (pass slice lane t L part m c n N N1 N2 N3 : Nat) (hn : n = 4 * part) (hN : N = n * 128) (es : List AV) (fs : List (List Int)) (f0 g1 g2 g3 : List Int) (h1 : pass ≤ 7) (h2 : slice < 4) (h3 : lane < L) (hL : 1 ≤ L ∧ L ≤ 4) (h5 : t ≤ 8) (h7 : 2 ≤ part ∧ part ≤ 64)
    (hf0 : f0.length = N) (hw0 : Wds f0) (hfl : fs.length = L) (hfn : ∀ g ∈ fs, g.length = N)
    (hcell : rowCell es lane = some (.sl 2 0 128 0 n n))
    (hren : ∀ l len, renL (gcMap (0 :: 1 :: 2 :: 3 :: 4 :: 5 :: l) len) es = es)
    (hall : ∀ M f rest, f.length = N → allOf (flatOf (M :: some es :: some [.arr N .u64 f] :: some [.arr N1 .u64 g1] :: some [.arr N2 .u64 g2] :: some [.arr N3 .u64 g3] :: rest) (4 * part)) es = some (fs.set lane f)) :
    ACall Try.prog 63 [.ptr 0 0 0, .agg [.v (.int .i64 pass), .v (.int .i64 slice), .v (.int .i64 lane), .v (.int .i64 0)]]
      [some [.v (.int .i64 t), .v (.int .i64 m), .v (.int .i64 L), .sl 1 0 1 0 L c, .v (.int .i64 part)], some es, some [.arr N .u64 f0], some [.arr N1 .u64 g1], some [.arr N2 .u64 g2], some [.arr N3 .u64 g3]]
      fun v h' => v = .tup [] ∧ h' = [some [.v (.int .i64 t), .v (.int .i64 m), .v (.int .i64 L), .sl 1 0 1 0 L c, .v (.int .i64 part)], some es, some [.arr N .u64 (sliceK pass slice lane t L part (loS pass slice) fs f0 (part - loS pass slice))], some [.arr N1 .u64 g1], some [.arr N2 .u64 g2], some [.arr N3 .u64 g3]] := by
  rcases Nat.eq_zero_or_pos pass with h0 | h0
  · subst h0
    rcases (by omega : slice = 0 ∨ slice = 1 ∨ 2 ≤ slice) with hs | hs | hs
    · subst hs
      exact slice_d lane t L part m c n N N1 N2 N3 hn hN es fs f0 g1 g2 g3 _ rfl h3 hL h5 h7 hf0 hw0 hfl hfn hcell hren hall
    · subst hs
      exact slice_c lane t L part m c n N N1 N2 N3 hn hN es fs f0 g1 g2 g3 _ rfl h3 hL h5 h7 hf0 hw0 hfl hfn hcell hren hall
    · have hlo : loS 0 slice = 0 := by unfold loS; rw [if_neg (by omega)]
      rw [hlo, Nat.sub_zero]
      exact slice_b slice lane t L part m c n N N1 N2 N3 hn hN es fs f0 g1 g2 g3 _ rfl h2 hs h3 hL h5 h7 hf0 hw0 hfl hfn hcell hren hall
  · have hlo : loS pass slice = 0 := by unfold loS; rw [if_neg (by omega)]
    rw [hlo, Nat.sub_zero]
    exact slice_2 pass slice lane t L part m c n N N1 N2 N3 hn hN es fs f0 g1 g2 g3 _ rfl h1 h2 h3 hL h5 h7 hf0 hw0 hfl hfn h0 hcell hren hall
def rowA (q : Nat → Nat) (L n : Nat) : List AV := (List.range L).map fun j => .sl (q j) 0 128 0 n n
theorem renL_map (g : Nat → Nat) (q : Nat → Nat) (n : Nat) : ∀ l : List Nat, renL g (l.map fun j => AV.sl (q j) 0 128 0 n n) = l.map fun j => .sl (g (q j)) 0 128 0 n n
  | [] => rfl
  | a :: l => by simp only [List.map_cons, renL, AV.ren, renL_map g q n l]
theorem rowA_ren {g q q' : Nat → Nat} {L n : Nat} (h : ∀ j, j < L → g (q j) = q' j) : renL g (rowA q L n) = rowA q' L n := by
  unfold rowA
  rw [renL_map]
  exact List.map_congr_left fun j hj => by rw [h j (List.mem_range.1 hj)]
theorem rowCell_map (q : Nat → Nat) (n : Nat) : ∀ (l : List Nat) (i : Nat), rowCell (l.map fun j => AV.sl (q j) 0 128 0 n n) i = (l[i]?).map fun j => .sl (q j) 0 128 0 n n
  | [], i => by simp [rowCell]
  | a :: l, 0 => by simp [rowCell, AV.one]
  | a :: l, i + 1 => by
    have := rowCell_map q n l i
    simp only [List.map_cons, List.getElem?_cons_succ, rowCell, AV.one, if_true]
    exact this
theorem rowA_cell {q : Nat → Nat} {L n i : Nat} (h : i < L) : rowCell (rowA q L n) i = some (.sl (q i) 0 128 0 n n) := by
  unfold rowA
  rw [rowCell_map, List.getElem?_range h]; rfl
theorem allOf_map (F : AV → Option (List Int)) (x : Nat → AV) (y : Nat → List Int) : ∀ l : List Nat, (∀ j ∈ l, F (x j) = some (y j)) → allOf F (l.map x) = some (l.map y)
  | [], _ => rfl
  | a :: l, h => by
    simp only [List.map_cons, allOf]
    rw [h a (by simp), allOf_map F x y l (fun j hj => h j (by simp [hj]))]
    rfl
theorem getD_range {fs : List (List Int)} {L : Nat} (h : fs.length = L) : (List.range L).map (fun j => fs.getD j []) = fs := by
  apply List.ext_getElem
  · simp [h]
  · intro j h1 h2
    rw [List.getElem_map, List.getElem_range, List.getD_eq_getElem?_getD, List.getElem?_eq_getElem h2]; rfl
theorem flatOf_at {h : List Blk} {n b N : Nat} {f : List Int} (hr : row h b = some [.arr N .u64 f]) (hN : N = n * 128) (hf : f.length = N) : flatOf h n (.sl b 0 128 0 n n) = some f := by
  unfold flatOf
  simp only [hr]
  unfold oguard
  rw [if_pos ⟨trivial, hN, by omega⟩]
theorem rowA_all {h : List Blk} {q : Nat → Nat} {L n N : Nat} {fs : List (List Int)} (hl : fs.length = L) (hN : N = n * 128) (hf : ∀ g ∈ fs, g.length = N) (hr : ∀ j, j < L → row h (q j) = some [.arr N .u64 (fs.getD j [])]) :
    allOf (flatOf h n) (rowA q L n) = some fs := by
  unfold rowA
  rw [allOf_map (flatOf h n) _ (fun j => fs.getD j [])]
  · rw [getD_range hl]
  · intro j hj
    have hj := List.mem_range.1 hj
    refine flatOf_at (hr j hj) hN (hf _ ?_)
    rw [List.getD_eq_getElem?_getD, List.getElem?_eq_getElem (by omega)]; exact List.getElem_mem _
def lb (L N : Nat) (fs : List (List Int)) (j : Nat) : Blk := some [.arr (if j < L then N else 0) .u64 (if j < L then fs.getD j [] else [])]
def memH (t m L c part : Nat) (fs : List (List Int)) : List Blk :=
  [some [.v (.int .i64 t), .v (.int .i64 m), .v (.int .i64 L), .sl 1 0 1 0 L c, .v (.int .i64 part)], some (rowA (fun j => 2 + j) L (4 * part)), lb L (4 * part * 128) fs 0, lb L (4 * part * 128) fs 1, lb L (4 * part * 128) fs 2, lb L (4 * part * 128) fs 3]
def qL (lane j : Nat) : Nat := if j = lane then 2 else if j < lane then 3 + j else 2 + j
theorem slice_at (pass slice lane t L part m c : Nat) (fs : List (List Int)) (h1 : pass ≤ 7) (h2 : slice < 4) (h3 : lane < L) (hL : 1 ≤ L ∧ L ≤ 4) (h5 : t ≤ 8) (h7 : 2 ≤ part ∧ part ≤ 64)
    (hfl : fs.length = L) (hfn : ∀ g ∈ fs, g.length = 4 * part * 128) (hfw : ∀ g ∈ fs, Wds g) :
    ACall Try.prog 63 [.ptr 0 0 0, .agg [.v (.int .i64 pass), .v (.int .i64 slice), .v (.int .i64 lane), .v (.int .i64 0)]] (memH t m L c part fs)
      fun v h' => v = .tup [] ∧ h' = memH t m L c part (sliceL pass slice lane t L part fs) := by
  obtain ⟨n, hn⟩ : ∃ n, n = 4 * part := ⟨_, rfl⟩
  obtain ⟨N, hN⟩ : ∃ N, N = n * 128 := ⟨_, rfl⟩
  have hmem : fs.getD lane [] ∈ fs := by rw [List.getD_eq_getElem?_getD, List.getElem?_eq_getElem (by omega)]; exact List.getElem_mem _
  have hq : ∀ j, j < L → qL lane j = 2 ∨ qL lane j = 3 ∨ qL lane j = 4 ∨ qL lane j = 5 := by
    intro j hj; unfold qL; split
    · simp
    · split <;> omega
  have hren : ∀ l len, renL (gcMap (0 :: 1 :: 2 :: 3 :: 4 :: 5 :: l) len) (rowA (qL lane) L n) = rowA (qL lane) L n := by
    intro l len
    refine rowA_ren fun j hj => ?_
    rcases hq j hj with h | h | h | h <;> rw [h] <;> rfl
  have hcell : rowCell (rowA (qL lane) L n) lane = some (.sl 2 0 128 0 n n) := by rw [rowA_cell h3]; unfold qL; rw [if_pos rfl]
  have hg : ∀ f j, j < L → (fs.set lane f).getD j [] = if lane = j then f else fs.getD j [] := by
    intro f j hj
    rw [List.getD_eq_getElem?_getD, List.getElem?_set]
    split
    · rw [if_pos (by omega)]; rfl
    · rw [List.getD_eq_getElem?_getD]
  have key := fun N1 N2 N3 g1 g2 g3 hall => slice_u pass slice lane t L part m c n N N1 N2 N3 hn hN (rowA (qL lane) L n) fs (fs.getD lane []) g1 g2 g3 h1 h2 h3 hL h5 h7 (by rw [hfn _ hmem, hN, hn]) (hfw _ hmem) hfl (fun g hg => by rw [hfn g hg, hN, hn]) hcell hren hall
  have hlb : ∀ f j, lb L N (fs.set lane f) j = if lane = j then some [.arr N .u64 f] else lb L N fs j := by
    intro f j
    unfold lb
    by_cases hj : j < L
    · rw [if_pos hj, if_pos hj, hg f j hj]
      split <;> simp [hj]
    · rw [if_neg (by omega : ¬ lane = j)]; simp [hj]
  have hls : lb L N fs lane = some [.arr N .u64 (fs.getD lane [])] := by unfold lb; simp [h3]
  have hc : ∀ j, (∀ f, f.length = N → j < L → lane ≠ j → (fs.set lane f).getD j [] = fs.getD j []) := fun j f _ hj hne => by rw [hg f j hj, if_neg hne]
  have hrow : ∀ π, (∀ j, j < 4 → frameMap π 6 (qL lane j) = 2 + j) → renL (frameMap π 6) (rowA (qL lane) L n) = rowA (fun j => 2 + j) L n := fun π h => rowA_ren fun j hj => h j (by omega)
  have hfn2 : ∀ g ∈ fs, g.length = N := fun g hg => by rw [hfn g hg, hN, hn]
  have hkeep : laneL pass slice lane t L part fs = sliceK pass slice lane t L part (loS pass slice) fs (fs.getD lane []) (part - loS pass slice) := rfl
  unfold memH sliceL
  rw [hkeep, ← hn, ← hN, hlb, hlb, hlb, hlb]
  clear hkeep
  obtain ⟨r, hr⟩ : ∃ r, sliceK pass slice lane t L part (loS pass slice) fs (fs.getD lane []) (part - loS pass slice) = r := ⟨_, rfl⟩
  rw [hr] at key ⊢
  clear hr
  rcases Nat.lt_or_ge lane 1 with hl | hl
  · obtain rfl : lane = 0 := by omega
    have hw := hrow [0, 1, 2, 3, 4, 5] (by intro j hj; rcases (by omega : j = 0 ∨ j = 1 ∨ j = 2 ∨ j = 3) with rfl | rfl | rfl | rfl <;> rfl)
    have hall : ∀ M f rest, f.length = N → allOf (flatOf (M :: some (rowA (qL 0) L n) :: some [.arr N .u64 f] :: lb L N fs 1 :: lb L N fs 2 :: lb L N fs 3 :: rest) (4 * part)) (rowA (qL 0) L n) = some (fs.set 0 f) := by
      intro M f rest hf
      rw [← hn]
      refine rowA_all (by rw [List.length_set]; exact hfl) hN (mem_set_len hfn2 hf) ?_
      intro j hj
      rw [hg f j hj]
      rcases (by omega : j = 0 ∨ j = 1 ∨ j = 2 ∨ j = 3) with rfl | rfl | rfl | rfl
      all_goals first | rfl | simp [row_def, qL, lb, hj]
    refine ACall.frame (key _ _ _ _ _ _ hall) [0, 1, 2, 3, 4, 5] rfl rfl (by decide) (show ∀ p ∈ [0, 1, 2, 3, 4, 5], p < 6 by decide) ?_ ?_
    · intro k hk
      have hk : k < 6 := hk
      rcases (by omega : k = 0 ∨ k = 1 ∨ k = 2 ∨ k = 3 ∨ k = 4 ∨ k = 5) with rfl | rfl | rfl | rfl | rfl | rfl
      · rfl
      · exact congrArg (fun x => some (some x)) hw.symm
      all_goals first | rfl | exact congrArg some hls
    · rintro av h' ⟨rfl, rfl⟩
      refine ⟨rfl, ?_⟩
      simp only [overwrite, List.map_cons, List.map_nil, renB, Option.map_some, List.length_cons, List.length_nil, Nat.reduceAdd, hw, List.set_cons_zero, List.set_cons_succ]
      simp only [renL, AV.ren, reduceIte, Nat.reduceEqDiff, List.append_nil, frameMap, List.length_cons, List.length_nil, Nat.reduceAdd, Nat.reduceLT, List.getD_cons_zero, List.getD_cons_succ]
      rfl
  rcases Nat.lt_or_ge lane 2 with hl | hl
  · obtain rfl : lane = 1 := by omega
    have hw := hrow [0, 1, 3, 2, 4, 5] (by intro j hj; rcases (by omega : j = 0 ∨ j = 1 ∨ j = 2 ∨ j = 3) with rfl | rfl | rfl | rfl <;> rfl)
    have hall : ∀ M f rest, f.length = N → allOf (flatOf (M :: some (rowA (qL 1) L n) :: some [.arr N .u64 f] :: lb L N fs 0 :: lb L N fs 2 :: lb L N fs 3 :: rest) (4 * part)) (rowA (qL 1) L n) = some (fs.set 1 f) := by
      intro M f rest hf
      rw [← hn]
      refine rowA_all (by rw [List.length_set]; exact hfl) hN (mem_set_len hfn2 hf) ?_
      intro j hj
      rw [hg f j hj]
      rcases (by omega : j = 0 ∨ j = 1 ∨ j = 2 ∨ j = 3) with rfl | rfl | rfl | rfl
      all_goals first | rfl | simp [row_def, qL, lb, hj]
    refine ACall.frame (key _ _ _ _ _ _ hall) [0, 1, 3, 2, 4, 5] rfl rfl (by decide) (show ∀ p ∈ [0, 1, 3, 2, 4, 5], p < 6 by decide) ?_ ?_
    · intro k hk
      have hk : k < 6 := hk
      rcases (by omega : k = 0 ∨ k = 1 ∨ k = 2 ∨ k = 3 ∨ k = 4 ∨ k = 5) with rfl | rfl | rfl | rfl | rfl | rfl
      · rfl
      · exact congrArg (fun x => some (some x)) hw.symm
      all_goals first | rfl | exact congrArg some hls
    · rintro av h' ⟨rfl, rfl⟩
      refine ⟨rfl, ?_⟩
      simp only [overwrite, List.map_cons, List.map_nil, renB, Option.map_some, List.length_cons, List.length_nil, Nat.reduceAdd, hw, List.set_cons_zero, List.set_cons_succ]
      simp only [renL, AV.ren, reduceIte, Nat.reduceEqDiff, List.append_nil, frameMap, List.length_cons, List.length_nil, Nat.reduceAdd, Nat.reduceLT, List.getD_cons_zero, List.getD_cons_succ]
      rfl
  rcases Nat.lt_or_ge lane 3 with hl | hl
  · obtain rfl : lane = 2 := by omega
    have hw := hrow [0, 1, 4, 2, 3, 5] (by intro j hj; rcases (by omega : j = 0 ∨ j = 1 ∨ j = 2 ∨ j = 3) with rfl | rfl | rfl | rfl <;> rfl)
    have hall : ∀ M f rest, f.length = N → allOf (flatOf (M :: some (rowA (qL 2) L n) :: some [.arr N .u64 f] :: lb L N fs 0 :: lb L N fs 1 :: lb L N fs 3 :: rest) (4 * part)) (rowA (qL 2) L n) = some (fs.set 2 f) := by
      intro M f rest hf
      rw [← hn]
      refine rowA_all (by rw [List.length_set]; exact hfl) hN (mem_set_len hfn2 hf) ?_
      intro j hj
      rw [hg f j hj]
      rcases (by omega : j = 0 ∨ j = 1 ∨ j = 2 ∨ j = 3) with rfl | rfl | rfl | rfl
      all_goals first | rfl | simp [row_def, qL, lb, hj]
    refine ACall.frame (key _ _ _ _ _ _ hall) [0, 1, 4, 2, 3, 5] rfl rfl (by decide) (show ∀ p ∈ [0, 1, 4, 2, 3, 5], p < 6 by decide) ?_ ?_
    · intro k hk
      have hk : k < 6 := hk
      rcases (by omega : k = 0 ∨ k = 1 ∨ k = 2 ∨ k = 3 ∨ k = 4 ∨ k = 5) with rfl | rfl | rfl | rfl | rfl | rfl
      · rfl
      · exact congrArg (fun x => some (some x)) hw.symm
      all_goals first | rfl | exact congrArg some hls
    · rintro av h' ⟨rfl, rfl⟩
      refine ⟨rfl, ?_⟩
      simp only [overwrite, List.map_cons, List.map_nil, renB, Option.map_some, List.length_cons, List.length_nil, Nat.reduceAdd, hw, List.set_cons_zero, List.set_cons_succ]
      simp only [renL, AV.ren, reduceIte, Nat.reduceEqDiff, List.append_nil, frameMap, List.length_cons, List.length_nil, Nat.reduceAdd, Nat.reduceLT, List.getD_cons_zero, List.getD_cons_succ]
      rfl
  rcases Nat.lt_or_ge lane 4 with hl | hl
  · obtain rfl : lane = 3 := by omega
    have hw := hrow [0, 1, 5, 2, 3, 4] (by intro j hj; rcases (by omega : j = 0 ∨ j = 1 ∨ j = 2 ∨ j = 3) with rfl | rfl | rfl | rfl <;> rfl)
    have hall : ∀ M f rest, f.length = N → allOf (flatOf (M :: some (rowA (qL 3) L n) :: some [.arr N .u64 f] :: lb L N fs 0 :: lb L N fs 1 :: lb L N fs 2 :: rest) (4 * part)) (rowA (qL 3) L n) = some (fs.set 3 f) := by
      intro M f rest hf
      rw [← hn]
      refine rowA_all (by rw [List.length_set]; exact hfl) hN (mem_set_len hfn2 hf) ?_
      intro j hj
      rw [hg f j hj]
      rcases (by omega : j = 0 ∨ j = 1 ∨ j = 2 ∨ j = 3) with rfl | rfl | rfl | rfl
      all_goals first | rfl | simp [row_def, qL, lb, hj]
    refine ACall.frame (key _ _ _ _ _ _ hall) [0, 1, 5, 2, 3, 4] rfl rfl (by decide) (show ∀ p ∈ [0, 1, 5, 2, 3, 4], p < 6 by decide) ?_ ?_
    · intro k hk
      have hk : k < 6 := hk
      rcases (by omega : k = 0 ∨ k = 1 ∨ k = 2 ∨ k = 3 ∨ k = 4 ∨ k = 5) with rfl | rfl | rfl | rfl | rfl | rfl
      · rfl
      · exact congrArg (fun x => some (some x)) hw.symm
      all_goals first | rfl | exact congrArg some hls
    · rintro av h' ⟨rfl, rfl⟩
      refine ⟨rfl, ?_⟩
      simp only [overwrite, List.map_cons, List.map_nil, renB, Option.map_some, List.length_cons, List.length_nil, Nat.reduceAdd, hw, List.set_cons_zero, List.set_cons_succ]
      simp only [renL, AV.ren, reduceIte, Nat.reduceEqDiff, List.append_nil, frameMap, List.length_cons, List.length_nil, Nat.reduceAdd, Nat.reduceLT, List.getD_cons_zero, List.getD_cons_succ]
      rfl
  omega
end Go.Proofs.Ytfnfmbikooeiaaa

namespace Go.Proofs.Ytfnfmbikooeiaaa
open Go.Ax
noncomputable def begB (seed : List Int) (i l : Int) : List Int := Classical.choose (p := fun x => x = longL 1024 (le4 1024 ++ (seed ++ (le4 i ++ le4 l)))) ⟨_, rfl⟩
theorem begB_eq (seed : List Int) (i l : Int) : begB seed i l = longL 1024 (le4 1024 ++ (seed ++ (le4 i ++ le4 l))) := Classical.choose_spec (p := fun x => x = longL 1024 (le4 1024 ++ (seed ++ (le4 i ++ le4 l)))) ⟨_, rfl⟩
theorem begB_len (seed : List Int) (i l : Int) : (begB seed i l).length = 1024 := by
  rw [begB_eq]
  unfold longL
  split
  · rw [blakeL_len]
  · rw [List.length_append, out64_len, blakeL_len]
    try omega
noncomputable def beginK (seed : List Int) (l n : Nat) : Nat → List Int
  | 0 => (List.replicate n (List.replicate 128 0)).flatten
  | k + 1 => putAt (beginK seed l n k) k (pageOf (begB seed k l))
theorem beginK_0 (seed : List Int) (l n : Nat) : beginK seed l n 0 = (List.replicate n (List.replicate 128 0)).flatten := rfl
theorem beginK_len (seed : List Int) (l n : Nat) (hn : 2 ≤ n) : ∀ k, k ≤ 2 → (beginK seed l n k).length = n * 128
  | 0, _ => by rw [beginK_0, List.length_flatten]; simp
  | k + 1, h => putAt_len (beginK_len seed l n hn k (by omega)) (by omega) (pageOf_len _)
noncomputable def begH (t m L part n N c : Nat) (seed : List Int) : Nat → List Blk
  | 0 => [some [.v (.int .i64 t), .v (.int .i64 m), .v (.int .i64 L), .v (.slice none 0 0), .v (.int .i64 part)]]
  | 1 => [some [.v (.int .i64 t), .v (.int .i64 m), .v (.int .i64 L), .sl 1 0 1 0 1 c, .v (.int .i64 part)], some [.sl 2 0 128 0 n n], some [.arr N .u64 (beginK seed 0 n 2)]]
  | 2 => [some [.v (.int .i64 t), .v (.int .i64 m), .v (.int .i64 L), .sl 1 0 1 0 2 c, .v (.int .i64 part)], some [.sl 2 0 128 0 n n, .sl 3 0 128 0 n n], some [.arr N .u64 (beginK seed 0 n 2)], some [.arr N .u64 (beginK seed 1 n 2)]]
  | 3 => [some [.v (.int .i64 t), .v (.int .i64 m), .v (.int .i64 L), .sl 1 0 1 0 3 c, .v (.int .i64 part)], some [.sl 2 0 128 0 n n, .sl 3 0 128 0 n n, .sl 4 0 128 0 n n], some [.arr N .u64 (beginK seed 0 n 2)], some [.arr N .u64 (beginK seed 1 n 2)], some [.arr N .u64 (beginK seed 2 n 2)]]
  | _ => [some [.v (.int .i64 t), .v (.int .i64 m), .v (.int .i64 L), .sl 1 0 1 0 4 c, .v (.int .i64 part)], some [.sl 2 0 128 0 n n, .sl 3 0 128 0 n n, .sl 4 0 128 0 n n, .sl 5 0 128 0 n n], some [.arr N .u64 (beginK seed 0 n 2)], some [.arr N .u64 (beginK seed 1 n 2)], some [.arr N .u64 (beginK seed 2 n 2)], some [.arr N .u64 (beginK seed 3 n 2)]]
theorem begH_0 (t m L part n N c : Nat) (seed : List Int) : begH t m L part n N c seed 0 = [some [.v (.int .i64 t), .v (.int .i64 m), .v (.int .i64 L), .v (.slice none 0 0), .v (.int .i64 part)]] := rfl
theorem begH_1 (t m L part n N c : Nat) (seed : List Int) : begH t m L part n N c seed 1 = [some [.v (.int .i64 t), .v (.int .i64 m), .v (.int .i64 L), .sl 1 0 1 0 1 c, .v (.int .i64 part)], some [.sl 2 0 128 0 n n], some [.arr N .u64 (beginK seed 0 n 2)]] := rfl
theorem begH_2 (t m L part n N c : Nat) (seed : List Int) : begH t m L part n N c seed 2 = [some [.v (.int .i64 t), .v (.int .i64 m), .v (.int .i64 L), .sl 1 0 1 0 2 c, .v (.int .i64 part)], some [.sl 2 0 128 0 n n, .sl 3 0 128 0 n n], some [.arr N .u64 (beginK seed 0 n 2)], some [.arr N .u64 (beginK seed 1 n 2)]] := rfl
theorem begH_3 (t m L part n N c : Nat) (seed : List Int) : begH t m L part n N c seed 3 = [some [.v (.int .i64 t), .v (.int .i64 m), .v (.int .i64 L), .sl 1 0 1 0 3 c, .v (.int .i64 part)], some [.sl 2 0 128 0 n n, .sl 3 0 128 0 n n, .sl 4 0 128 0 n n], some [.arr N .u64 (beginK seed 0 n 2)], some [.arr N .u64 (beginK seed 1 n 2)], some [.arr N .u64 (beginK seed 2 n 2)]] := rfl
theorem begH_4 (t m L part n N c : Nat) (seed : List Int) : begH t m L part n N c seed 4 = [some [.v (.int .i64 t), .v (.int .i64 m), .v (.int .i64 L), .sl 1 0 1 0 4 c, .v (.int .i64 part)], some [.sl 2 0 128 0 n n, .sl 3 0 128 0 n n, .sl 4 0 128 0 n n, .sl 5 0 128 0 n n], some [.arr N .u64 (beginK seed 0 n 2)], some [.arr N .u64 (beginK seed 1 n 2)], some [.arr N .u64 (beginK seed 2 n 2)], some [.arr N .u64 (beginK seed 3 n 2)]] := rfl
theorem begin_a (t m L part n N : Nat) (seed : List Int) (hL : 1 ≤ L ∧ L ≤ 4) (ht : t ≤ 8) (hm : m ≤ 256) (hok : okP t m L = true) (hpt : part = m / (4 * L)) (h7 : 2 ≤ part ∧ part ≤ 64) (hn : n = 4 * part) (hN : N = n * 128) (hsd : seed.length = 64) :
    ACall Try.prog 62 [.agg [.v (.int .i64 t), .v (.int .i64 m), .v (.int .i64 L)], .roI .u8 seed] [] fun v h' => ∃ c, v = .ptr 0 0 0 ∧ h' = begH t m L part n N c seed L := by
  have hpg : pgN t m L = ((part * 4 * L : Nat) : Int) := by unfold pgN; rw [if_pos hok, hpt]; simp only [Int.toNat_natCast]
  have w4 : IntKind.i64.wrap (4 * (L : Int)) = ((4 * L : Nat) : Int) := by rw [wrap_i64_id _ (by omega)]; omega
  have hdv : (((part * 4 * L : Nat) : Int)).tdiv ((4 * L : Nat) : Int) = (part : Int) := by
    rw [← Int.ofNat_tdiv, Nat.mul_assoc, Nat.mul_div_cancel _ (by omega)]
  have h40 : (((4 * L : Nat) : Int) = 0) = False := by simp; omega
  have wn : IntKind.i64.wrap (4 * (part : Int)) = ((n : Nat) : Int) := by rw [wrap_i64_id _ (by omega)]; omega
  have hN1 : (N = 128) = False := by simp; omega
  have h4 : ∀ x, (le4 x).length = 4 := fun _ => rfl
  have h4t : ∀ x, List.take 4 (le4 x) = le4 x := fun _ => rfl
  have hstk : List.take 64 seed = seed := List.take_of_length_le (by omega)
  refine bd (good26 0) Try.func62 ?_
  refine go26 (an hpg (an w4 (an hdv h40))) ?_
  refine loop_countE (good26 0) (fun l c => ⟨envL [(1, .roI .u8 seed), (5, .ptr 0 0 0), (21, .v (.int .i64 L)), (22, .v (.int .i64 l))], begH t m L part n N c seed l⟩) L (by kernel_rfl) ⟨0, ?_⟩ ?_ ?_
  · rw [begH_0]
    exact wgc [1] nf
  · intro l c hl
    have hll : ((l : Int) < (L : Int)) = True := by simp; omega
    rcases Nat.lt_or_ge l 1 with hl0 | hl0
    · obtain rfl : l = 0 := by omega
      rw [begH_0]
      refine go26 (an hll wn) ?_
      repeat with_reducible refine gd ?_
      rw [← hN]
      refine loop_count (good26 0) (fun k => ⟨envL [(1, .roI .u8 seed), (5, .ptr 0 0 0), (6, .v (.int .i64 0)), (7, .sl 1 0 128 0 n n), (21, .v (.int .i64 L)), (22, .v (.int .i64 0)), (31, .v (.int .i64 k))], [some [.v (.int .i64 t), .v (.int .i64 m), .v (.int .i64 L), .v (.slice none 0 0), .v (.int .i64 part)], some [.arr N .u64 (beginK seed 0 n k)]]⟩) 2 (by kernel_rfl) ?_ ?_ ?_
      · exact wk @beginK_0
      · intro k hk
        have hkl := beginK_len seed 0 n (by omega) k (by omega)
        rw [← hN] at hkl
        have hS : beginK seed 0 n (k + 1) = List.take (k * 128) (beginK seed 0 n k) ++ pageOf (begB seed k 0) ++ List.drop (k * 128 + 128) (beginK seed 0 n k) := rfl
        rw [hS]
        obtain ⟨x, hx⟩ : ∃ x, beginK seed 0 n k = x := ⟨_, rfl⟩
        rw [hx] at hkl ⊢
        have hkk : ((k : Int) < (n : Int)) = True := by simp; omega
        have hlg : longL 1024 (le4 1024 ++ (seed ++ (le4 k ++ le4 0))) = begB seed k 0 := (begB_eq _ _ _).symm
        have hBl := begB_len seed k 0
        have hBt : List.take 1024 (begB seed k 0) = begB seed k 0 := List.take_of_length_le (by omega)
        refine go26 (an h4 (an h4t (an hstk (an hsd hlg)))) ?_
        intro c9 _
        refine go26 (an hBl (an hBt (an hkk (an hN1 (an @and_false (an @pageOf_len @pageOf_take)))))) ?_
        repeat with_reducible refine gd ?_
        exact wgc [0, 1] nf
      · refine go26 nf ?_
        intro c9 _
        refine ⟨c9, ?_⟩
        rw [begH_1]
        (refine weak_gc' [0, 3, 1] (by decide) (by simp) (by rfl) ?_ ?_; (focus (first | with_reducible rfl | (simp only [List.map_cons, List.map_nil, List.cons_append, List.nil_append, List.getElem?_cons_zero, List.getElem?_cons_succ, renB, renL, Option.map_some, Option.map_none, AV.ren, gcMap, List.getD_cons_zero, List.getD_cons_succ, Nat.add_zero] <;> with_reducible rfl))); simp only [exF, List.map_cons, List.map_nil, List.length_cons, List.length_nil, Nat.reduceAdd, AV.ren, renL, gcMap, Nat.reduceEqDiff, if_true, if_false, reduceIte, Option.some.injEq, reduceCtorEq, Int.cast_ofNat_Int, Nat.add_zero])
        rfl
    rcases Nat.lt_or_ge l 2 with hl1 | hl1
    · obtain rfl : l = 1 := by omega
      rw [begH_1]
      refine go26 (an hll wn) ?_
      repeat with_reducible refine gd ?_
      rw [← hN]
      refine loop_count (good26 0) (fun k => ⟨envL [(1, .roI .u8 seed), (5, .ptr 0 0 0), (6, .v (.int .i64 1)), (7, .sl 3 0 128 0 n n), (21, .v (.int .i64 L)), (22, .v (.int .i64 1)), (31, .v (.int .i64 k))], [some [.v (.int .i64 t), .v (.int .i64 m), .v (.int .i64 L), .sl 1 0 1 0 1 c, .v (.int .i64 part)], some [.sl 2 0 128 0 n n], some [.arr N .u64 (beginK seed 0 n 2)], some [.arr N .u64 (beginK seed 1 n k)]]⟩) 2 (by kernel_rfl) ?_ ?_ ?_
      · exact wk @beginK_0
      · intro k hk
        have hkl := beginK_len seed 1 n (by omega) k (by omega)
        rw [← hN] at hkl
        have hS : beginK seed 1 n (k + 1) = List.take (k * 128) (beginK seed 1 n k) ++ pageOf (begB seed k 1) ++ List.drop (k * 128 + 128) (beginK seed 1 n k) := rfl
        rw [hS]
        obtain ⟨x, hx⟩ : ∃ x, beginK seed 1 n k = x := ⟨_, rfl⟩
        rw [hx] at hkl ⊢
        have hkk : ((k : Int) < (n : Int)) = True := by simp; omega
        have hlg : longL 1024 (le4 1024 ++ (seed ++ (le4 k ++ le4 1))) = begB seed k 1 := (begB_eq _ _ _).symm
        have hBl := begB_len seed k 1
        have hBt : List.take 1024 (begB seed k 1) = begB seed k 1 := List.take_of_length_le (by omega)
        refine go26 (an h4 (an h4t (an hstk (an hsd hlg)))) ?_
        intro c9 _
        refine go26 (an hBl (an hBt (an hkk (an hN1 (an @and_false (an @pageOf_len @pageOf_take)))))) ?_
        repeat with_reducible refine gd ?_
        exact wgc [0, 1, 2, 3] nf
      · refine go26 nf ?_
        intro c9 _
        refine ⟨c9, ?_⟩
        rw [begH_2]
        (refine weak_gc' [0, 5, 2, 3] (by decide) (by simp) (by rfl) ?_ ?_; (focus (first | with_reducible rfl | (simp only [List.map_cons, List.map_nil, List.cons_append, List.nil_append, List.getElem?_cons_zero, List.getElem?_cons_succ, renB, renL, Option.map_some, Option.map_none, AV.ren, gcMap, List.getD_cons_zero, List.getD_cons_succ, Nat.add_zero] <;> with_reducible rfl))); simp only [exF, List.map_cons, List.map_nil, List.length_cons, List.length_nil, Nat.reduceAdd, AV.ren, renL, gcMap, Nat.reduceEqDiff, if_true, if_false, reduceIte, Option.some.injEq, reduceCtorEq, Int.cast_ofNat_Int, Nat.add_zero])
        rfl
    rcases Nat.lt_or_ge l 3 with hl2 | hl2
    · obtain rfl : l = 2 := by omega
      rw [begH_2]
      refine go26 (an hll wn) ?_
      repeat with_reducible refine gd ?_
      rw [← hN]
      refine loop_count (good26 0) (fun k => ⟨envL [(1, .roI .u8 seed), (5, .ptr 0 0 0), (6, .v (.int .i64 2)), (7, .sl 4 0 128 0 n n), (21, .v (.int .i64 L)), (22, .v (.int .i64 2)), (31, .v (.int .i64 k))], [some [.v (.int .i64 t), .v (.int .i64 m), .v (.int .i64 L), .sl 1 0 1 0 2 c, .v (.int .i64 part)], some [.sl 2 0 128 0 n n, .sl 3 0 128 0 n n], some [.arr N .u64 (beginK seed 0 n 2)], some [.arr N .u64 (beginK seed 1 n 2)], some [.arr N .u64 (beginK seed 2 n k)]]⟩) 2 (by kernel_rfl) ?_ ?_ ?_
      · exact wk @beginK_0
      · intro k hk
        have hkl := beginK_len seed 2 n (by omega) k (by omega)
        rw [← hN] at hkl
        have hS : beginK seed 2 n (k + 1) = List.take (k * 128) (beginK seed 2 n k) ++ pageOf (begB seed k 2) ++ List.drop (k * 128 + 128) (beginK seed 2 n k) := rfl
        rw [hS]
        obtain ⟨x, hx⟩ : ∃ x, beginK seed 2 n k = x := ⟨_, rfl⟩
        rw [hx] at hkl ⊢
        have hkk : ((k : Int) < (n : Int)) = True := by simp; omega
        have hlg : longL 1024 (le4 1024 ++ (seed ++ (le4 k ++ le4 2))) = begB seed k 2 := (begB_eq _ _ _).symm
        have hBl := begB_len seed k 2
        have hBt : List.take 1024 (begB seed k 2) = begB seed k 2 := List.take_of_length_le (by omega)
        refine go26 (an h4 (an h4t (an hstk (an hsd hlg)))) ?_
        intro c9 _
        refine go26 (an hBl (an hBt (an hkk (an hN1 (an @and_false (an @pageOf_len @pageOf_take)))))) ?_
        repeat with_reducible refine gd ?_
        exact wgc [0, 1, 2, 3, 4] nf
      · refine go26 nf ?_
        intro c9 _
        refine ⟨c9, ?_⟩
        rw [begH_3]
        (refine weak_gc' [0, 6, 2, 3, 4] (by decide) (by simp) (by rfl) ?_ ?_; (focus (first | with_reducible rfl | (simp only [List.map_cons, List.map_nil, List.cons_append, List.nil_append, List.getElem?_cons_zero, List.getElem?_cons_succ, renB, renL, Option.map_some, Option.map_none, AV.ren, gcMap, List.getD_cons_zero, List.getD_cons_succ, Nat.add_zero] <;> with_reducible rfl))); simp only [exF, List.map_cons, List.map_nil, List.length_cons, List.length_nil, Nat.reduceAdd, AV.ren, renL, gcMap, Nat.reduceEqDiff, if_true, if_false, reduceIte, Option.some.injEq, reduceCtorEq, Int.cast_ofNat_Int, Nat.add_zero])
        rfl
    rcases Nat.lt_or_ge l 4 with hl3 | hl3
    · obtain rfl : l = 3 := by omega
      rw [begH_3]
      refine go26 (an hll wn) ?_
      repeat with_reducible refine gd ?_
      rw [← hN]
      refine loop_count (good26 0) (fun k => ⟨envL [(1, .roI .u8 seed), (5, .ptr 0 0 0), (6, .v (.int .i64 3)), (7, .sl 5 0 128 0 n n), (21, .v (.int .i64 L)), (22, .v (.int .i64 3)), (31, .v (.int .i64 k))], [some [.v (.int .i64 t), .v (.int .i64 m), .v (.int .i64 L), .sl 1 0 1 0 3 c, .v (.int .i64 part)], some [.sl 2 0 128 0 n n, .sl 3 0 128 0 n n, .sl 4 0 128 0 n n], some [.arr N .u64 (beginK seed 0 n 2)], some [.arr N .u64 (beginK seed 1 n 2)], some [.arr N .u64 (beginK seed 2 n 2)], some [.arr N .u64 (beginK seed 3 n k)]]⟩) 2 (by kernel_rfl) ?_ ?_ ?_
      · exact wk @beginK_0
      · intro k hk
        have hkl := beginK_len seed 3 n (by omega) k (by omega)
        rw [← hN] at hkl
        have hS : beginK seed 3 n (k + 1) = List.take (k * 128) (beginK seed 3 n k) ++ pageOf (begB seed k 3) ++ List.drop (k * 128 + 128) (beginK seed 3 n k) := rfl
        rw [hS]
        obtain ⟨x, hx⟩ : ∃ x, beginK seed 3 n k = x := ⟨_, rfl⟩
        rw [hx] at hkl ⊢
        have hkk : ((k : Int) < (n : Int)) = True := by simp; omega
        have hlg : longL 1024 (le4 1024 ++ (seed ++ (le4 k ++ le4 3))) = begB seed k 3 := (begB_eq _ _ _).symm
        have hBl := begB_len seed k 3
        have hBt : List.take 1024 (begB seed k 3) = begB seed k 3 := List.take_of_length_le (by omega)
        refine go26 (an h4 (an h4t (an hstk (an hsd hlg)))) ?_
        intro c9 _
        refine go26 (an hBl (an hBt (an hkk (an hN1 (an @and_false (an @pageOf_len @pageOf_take)))))) ?_
        repeat with_reducible refine gd ?_
        exact wgc [0, 1, 2, 3, 4, 5] nf
      · refine go26 nf ?_
        intro c9 _
        refine ⟨c9, ?_⟩
        rw [begH_4]
        (refine weak_gc' [0, 7, 2, 3, 4, 5] (by decide) (by simp) (by rfl) ?_ ?_; (focus (first | with_reducible rfl | (simp only [List.map_cons, List.map_nil, List.cons_append, List.nil_append, List.getElem?_cons_zero, List.getElem?_cons_succ, renB, renL, Option.map_some, Option.map_none, AV.ren, gcMap, List.getD_cons_zero, List.getD_cons_succ, Nat.add_zero] <;> with_reducible rfl))); simp only [exF, List.map_cons, List.map_nil, List.length_cons, List.length_nil, Nat.reduceAdd, AV.ren, renL, gcMap, Nat.reduceEqDiff, if_true, if_false, reduceIte, Option.some.injEq, reduceCtorEq, Int.cast_ofNat_Int, Nat.add_zero])
        rfl
    omega
  · intro c
    refine go26 nf ?_
    exact ⟨c, rfl⟩
noncomputable def beginL (seed : List Int) (L n : Nat) : List (List Int) := (List.range L).map fun l => beginK seed l n 2
theorem begin_b (t m L part : Nat) (seed : List Int) (hL : 1 ≤ L ∧ L ≤ 4) (ht : t ≤ 8) (hm : m ≤ 256) (hok : okP t m L = true) (hpt : part = m / (4 * L)) (h7 : 2 ≤ part ∧ part ≤ 64) (hsd : seed.length = 64) :
    ACall Try.prog 62 [.agg [.v (.int .i64 t), .v (.int .i64 m), .v (.int .i64 L)], .roI .u8 seed] [] fun v h' => ∃ c, v = .ptr 0 0 0 ∧ h' = memH t m L c part (beginL seed L (4 * part)) := by
  refine ACall.weak (C := c26 0) rfl (begin_a t m L part (4 * part) (4 * part * 128) seed hL ht hm hok hpt h7 rfl rfl hsd) ?_
  rintro v h' ⟨c, rfl, rfl⟩
  rcases (by omega : L = 1 ∨ L = 2 ∨ L = 3 ∨ L = 4) with rfl | rfl | rfl | rfl
  · exact ⟨_, _, (weak_pad .u64).trans ((weak_pad .u64).trans (weak_pad .u64)), c, rfl, rfl⟩
  · exact ⟨_, _, (weak_pad .u64).trans (weak_pad .u64), c, rfl, rfl⟩
  · exact ⟨_, _, weak_pad .u64, c, rfl, rfl⟩
  · exact ⟨_, _, Weak.refl _ _, c, rfl, rfl⟩
end Go.Proofs.Ytfnfmbikooeiaaa

namespace Go.Proofs.Ytfnfmbikooeiaaa
open Go.Ax
structure GoodL (L part : Nat) (fs : List (List Int)) : Prop where
  len : fs.length = L
  lane : ∀ g ∈ fs, g.length = 4 * part * 128
  word : ∀ g ∈ fs, Wds g
theorem GoodL.at {L part : Nat} {fs : List (List Int)} (h : GoodL L part fs) {j : Nat} (hj : j < L) : fs.getD j [] ∈ fs := by
  rw [List.getD_eq_getElem?_getD, List.getElem?_eq_getElem (by rw [h.len]; exact hj)]; exact List.getElem_mem _
theorem GoodL.slice {L part : Nat} {fs : List (List Int)} (h : GoodL L part fs) {pass slice lane t : Nat} (h2 : slice < 4) (h3 : lane < L) (h7 : 2 ≤ part) : GoodL L part (sliceL pass slice lane t L part fs) := by
  have hm := h.at h3
  have hlo : loS pass slice ≤ 2 := by unfold loS; split <;> omega
  refine ⟨by unfold sliceL; rw [List.length_set]; exact h.len, ?_, ?_⟩
  · intro g hg
    rcases List.mem_or_eq_of_mem_set hg with hg | rfl
    · exact h.lane g hg
    · exact sliceK_len _ _ _ _ _ _ _ _ (h.lane _ hm) h2 _ (by omega)
  · intro g hg
    rcases List.mem_or_eq_of_mem_set hg with hg | rfl
    · exact h.word g hg
    · exact sliceK_w _ _ _ _ _ _ _ _ (h.lane _ hm) (h.word _ hm) h2 (by omega) _ (by omega)
def laneS (pass slice t L part : Nat) (fs : List (List Int)) : Nat → List (List Int)
  | 0 => fs
  | l + 1 => sliceL pass slice l t L part (laneS pass slice t L part fs l)
def sliceS (pass t L part : Nat) (fs : List (List Int)) : Nat → List (List Int)
  | 0 => fs
  | s + 1 => laneS pass s t L part (sliceS pass t L part fs s) L
def passS (t L part : Nat) (fs : List (List Int)) : Nat → List (List Int)
  | 0 => fs
  | p + 1 => sliceS p t L part (passS t L part fs p) 4
theorem laneS_good {pass slice t L part : Nat} {fs : List (List Int)} (h : GoodL L part fs) (h2 : slice < 4) (h7 : 2 ≤ part) : ∀ l, l ≤ L → GoodL L part (laneS pass slice t L part fs l)
  | 0, _ => h
  | l + 1, hl => (laneS_good h h2 h7 l (by omega)).slice h2 (by omega) h7
theorem sliceS_good {pass t L part : Nat} {fs : List (List Int)} (h : GoodL L part fs) (h7 : 2 ≤ part) : ∀ s, s ≤ 4 → GoodL L part (sliceS pass t L part fs s)
  | 0, _ => h
  | s + 1, hs => laneS_good (sliceS_good h h7 s (by omega)) (by omega) h7 L (Nat.le_refl _)
theorem passS_good {t L part : Nat} {fs : List (List Int)} (h : GoodL L part fs) (h7 : 2 ≤ part) : ∀ p, GoodL L part (passS t L part fs p)
  | 0 => h
  | p + 1 => sliceS_good (passS_good h h7 p) h7 4 (Nat.le_refl _)
theorem orU_w (x y : Int) : 0 ≤ orU x y ∧ orU x y < 18446744073709551616 := by
  unfold orU; rw [wrap_u64']; omega
theorem Wds.set {v : List Int} (h : Wds v) (i : Nat) {x : Int} (hx : 0 ≤ x ∧ x < 18446744073709551616) : Wds (v.set i x) := by
  intro j
  have hj := h j
  rw [List.getD_eq_getElem?_getD] at hj ⊢
  rw [List.getElem?_set]
  split
  · split
    · simpa using hx
    · simp
  · exact hj
theorem zeros_w (n : Nat) : Wds (List.replicate n 0) := by
  intro i
  rw [List.getD_eq_getElem?_getD, List.getElem?_replicate]
  split <;> simp
theorem rpageK_w (b : List Int) : ∀ n, Wds (rpageK b n)
  | 0 => zeros_w _
  | n + 1 => by
    simp only [rpageK, wordB]
    exact (rpageK_w b n).set _ (orU_w _ _)
theorem pageOf_w (b : List Int) : Wds (pageOf b) := by rw [pageOf_eq]; exact rpageK_w b 1024
theorem flat_zeros (n k : Nat) : (List.replicate n (List.replicate k (0 : Int))).flatten = List.replicate (n * k) 0 := by
  rw [List.eq_replicate_iff]
  constructor
  · rw [List.length_flatten]; simp
  · intro x hx
    obtain ⟨l, hl, hx⟩ := List.mem_flatten.1 hx
    rw [(List.mem_replicate.1 hl).2] at hx
    exact (List.mem_replicate.1 hx).2
theorem beginL_good (seed : List Int) {L part : Nat} (h7 : 2 ≤ part) : GoodL L part (beginL seed L (4 * part)) := by
  refine ⟨by unfold beginL; simp, ?_, ?_⟩
  · intro g hg
    obtain ⟨l, _, rfl⟩ := List.mem_map.1 hg
    exact beginK_len seed l (4 * part) (by omega) 2 (Nat.le_refl _)
  · intro g hg
    obtain ⟨l, _, rfl⟩ := List.mem_map.1 hg
    have h0 : Wds (beginK seed l (4 * part) 0) := by rw [beginK_0, flat_zeros]; exact zeros_w _
    exact (h0.put (pageOf_w _) 0).put (pageOf_w _) 1
def sumS (n : Nat) (fs : List (List Int)) : Nat → List Int
  | 0 => List.replicate 128 0
  | l + 1 => xorK (sumS n fs l) (pageAt (fs.getD l []) (n - 1)) 128
theorem sumS_len (n : Nat) (fs : List (List Int)) : ∀ l, (sumS n fs l).length = 128
  | 0 => by simp [sumS]
  | l + 1 => by simp only [sumS, xorK_len]; exact sumS_len n fs l
theorem rowA_ren' (g q : Nat → Nat) (L n : Nat) : renL g (rowA q L n) = rowA (fun j => g (q j)) L n := renL_map g q n _
theorem lb_ren (g : Nat → Nat) (L N : Nat) (fs : List (List Int)) (j : Nat) : renB g (lb L N fs j) = lb L N fs j := rfl
theorem rowA_id {g : Nat → Nat} {L n : Nat} (hL : L ≤ 4) (hg : ∀ b, b < 6 → g b = b) : renL g (rowA (fun j => 2 + j) L n) = rowA (fun j => 2 + j) L n := rowA_ren fun j hj => hg _ (by omega)
theorem memH_ren {g : Nat → Nat} {t m L c part : Nat} {fs : List (List Int)} (hL : L ≤ 4) (hg : ∀ b, b < 6 → g b = b) : (memH t m L c part fs).map (renB g) = memH t m L c part fs := by
  unfold memH
  simp only [List.map_cons, List.map_nil, lb_ren, renB, Option.map_some, rowA_id hL hg]
  simp only [renL, AV.ren, hg 1 (by omega)]
  rfl
theorem memH_over {t m L c part : Nat} {fs fs' : List (List Int)} (ext : List Blk) : overwrite (memH t m L c part fs ++ ext) [0, 1, 2, 3, 4, 5] (memH t m L c part fs') = memH t m L c part fs' ++ ext := by
  unfold memH
  simp only [List.cons_append, List.nil_append, overwrite, List.set_cons_zero, List.set_cons_succ, List.append_nil]
theorem slice_call {C : Cfg} (hP : C.P = Try.prog) {k : List KI} {Q : Exit → St → Prop} {all : Array Oper} {l : List Oper} {e : Env} {d : Option Tmp} {pass slice lane t L part m c : Nat} {fs : List (List Int)} (ext : List Blk) (hg : GoodL L part fs)
    (h1 : pass ≤ 7) (h2 : slice < 4) (h3 : lane < L) (hL : 1 ≤ L ∧ L ≤ 4) (h5 : t ≤ 8) (h7 : 2 ≤ part ∧ part ≤ 64)
    (hk : opsR C all l k ⟨put e d (.tup []), memH t m L c part (sliceL pass slice lane t L part fs) ++ ext⟩ Q) :
    callC C 63 [.ptr 0 0 0, .agg [.v (.int .i64 pass), .v (.int .i64 slice), .v (.int .i64 lane), .v (.int .i64 0)]] d all l k e (memH t m L c part fs ++ ext) Q := by
  have hid : ∀ b, b < 6 → frameMap [0, 1, 2, 3, 4, 5] (memH t m L c part fs ++ ext).length b = b := by
    intro b hb
    rcases (by omega : b = 0 ∨ b = 1 ∨ b = 2 ∨ b = 3 ∨ b = 4 ∨ b = 5) with rfl | rfl | rfl | rfl | rfl | rfl <;> rfl
  refine callC_fr [0, 1, 2, 3, 4, 5] (hP ▸ slice_at pass slice lane t L part m c fs h1 h2 h3 hL h5 h7 hg.len hg.lane hg.word) rfl ?_ (by decide) ?_
  · have h0 := congrArg (List.map some) (memH_ren (t := t) (m := m) (c := c) (part := part) (fs := fs) hL.2 hid)
    rw [List.map_map] at h0
    refine Eq.trans ?_ h0.symm
    rfl
  · rintro av h' ⟨rfl, rfl⟩
    rw [memH_ren hL.2 hid, memH_over]
    exact hk
end Go.Proofs.Ytfnfmbikooeiaaa

namespace Go.Proofs.Ytfnfmbikooeiaaa
open Go.Ax Go.Kn
noncomputable def b8 (w : Nat) : List Nat := [Nat.mod (Nat.div w 1) 256, Nat.mod (Nat.div w 256) 256, Nat.mod (Nat.div w 65536) 256, Nat.mod (Nat.div w 16777216) 256, Nat.mod (Nat.div w 4294967296) 256, Nat.mod (Nat.div w 1099511627776) 256, Nat.mod (Nat.div w 281474976710656) 256, Nat.mod (Nat.div w 72057594037927936) 256]
noncomputable def bytesN : List Nat → List Nat
  | [] => []
  | w :: l => b8 w ++ bytesN l
theorem bytesW_eq {α : Type} (w : Nat) (t : List Nat) (k : List Nat → α) : bytesW w t k = k (b8 w ++ t) := by
  unfold bytesW
  simp only [fc_eq]
  rfl
theorem bytesC_eq {α : Type} : ∀ (l : List Nat) (k : List Nat → α), bytesC l k = k (bytesN l)
  | [], k => rfl
  | w :: l, k => by
    show bytesC l (fun t => bytesW w t k) = _
    rw [bytesC_eq l _, bytesW_eq]; rfl
theorem b8_len (w : Nat) : (b8 w).length = 8 := rfl
theorem bytesN_len : ∀ l : List Nat, (bytesN l).length = 8 * l.length
  | [] => rfl
  | w :: l => by simp only [bytesN, List.length_append, b8_len, bytesN_len l, List.length_cons]; omega
theorem b8_at (w k : Nat) (h : k < 8) : (b8 w).getD k 0 = w / 2 ^ (8 * k) % 256 := by
  rcases (by omega : k = 0 ∨ k = 1 ∨ k = 2 ∨ k = 3 ∨ k = 4 ∨ k = 5 ∨ k = 6 ∨ k = 7) with rfl | rfl | rfl | rfl | rfl | rfl | rfl | rfl
  · show w / 1 % 256 = _
    simp only [Nat.reduceMul, Nat.reducePow]
  · show w / 256 % 256 = _
    simp only [Nat.reduceMul, Nat.reducePow]
  · show w / 65536 % 256 = _
    simp only [Nat.reduceMul, Nat.reducePow]
  · show w / 16777216 % 256 = _
    simp only [Nat.reduceMul, Nat.reducePow]
  · show w / 4294967296 % 256 = _
    simp only [Nat.reduceMul, Nat.reducePow]
  · show w / 1099511627776 % 256 = _
    simp only [Nat.reduceMul, Nat.reducePow]
  · show w / 281474976710656 % 256 = _
    simp only [Nat.reduceMul, Nat.reducePow]
  · show w / 72057594037927936 % 256 = _
    simp only [Nat.reduceMul, Nat.reducePow]
theorem bytesN_at : ∀ (l : List Nat) (i : Nat), (bytesN l).getD i 0 = l.getD (i / 8) 0 / 2 ^ (8 * (i % 8)) % 256
  | [], i => by simp [bytesN]
  | w :: l, i => by
    simp only [bytesN]
    rw [List.getD_eq_getElem?_getD, List.getElem?_append, b8_len]
    split
    · rename_i h
      rw [← List.getD_eq_getElem?_getD, b8_at w i h, show i / 8 = 0 by omega, show i % 8 = i by omega]; rfl
    · rename_i h
      rw [← List.getD_eq_getElem?_getD, bytesN_at l (i - 8), show i / 8 = (i - 8) / 8 + 1 by omega, show i % 8 = (i - 8) % 8 by omega]; rfl
theorem bytesN_bt (l : List Nat) : BtN (bytesN l) := fun i => by rw [bytesN_at]; exact Nat.mod_lt _ (by decide)
theorem BtN.take {l : List Nat} (h : BtN l) (n : Nat) : BtN (l.take n) := fun i => by
  rw [List.getD_eq_getElem?_getD, List.getElem?_take]
  split
  · rw [← List.getD_eq_getElem?_getD]; exact h i
  · simp
theorem BtN.drop {l : List Nat} (h : BtN l) (n : Nat) : BtN (l.drop n) := fun i => by rw [drop_at]; exact h _
theorem BtN.app {a b : List Nat} (ha : BtN a) (hb : BtN b) : BtN (a ++ b) := fun i => by
  rw [List.getD_eq_getElem?_getD, List.getElem?_append]
  split
  · rw [← List.getD_eq_getElem?_getD]; exact ha i
  · rw [← List.getD_eq_getElem?_getD]; exact hb _
theorem BtN.rep {x : Nat} (n : Nat) (h : x < 256) : BtN (List.replicate n x) := fun i => by
  rw [List.getD_eq_getElem?_getD, List.getElem?_replicate]
  split
  · exact h
  · simp
theorem BtN.pad {l : List Nat} (h : BtN l) (n : Nat) : BtN (padN n l) := (h.take n).app (.rep _ (by decide))
theorem padN_len (n : Nat) (l : List Nat) : (padN n l).length = n := by
  unfold padN; rw [List.length_append, List.length_take, List.length_replicate]; omega
theorem digest_zc {s : List Nat} {n : Nat} (h : n ≤ 8 * s.length) : (List.range n).map (Go.Ax.byteAt (zc s)) = zc ((bytesN s).take n) := by
  refine extD (by rw [List.length_map, List.length_range, zc_len, List.length_take, bytesN_len]; omega) ?_
  intro i hi
  have hi : i < n := by simpa using hi
  have e1 : ((List.range n).map (Go.Ax.byteAt (zc s))).getD i 0 = Go.Ax.byteAt (zc s) i := by simp [List.getD_eq_getElem?_getD, hi]
  rw [e1, zc_getD, List.getD_eq_getElem?_getD (l := (bytesN s).take n), List.getElem?_take, if_pos hi, ← List.getD_eq_getElem?_getD, bytesN_at]
  unfold Go.Ax.byteAt
  rw [zc_getD]
  exact shr_at _ _ (Nat.mod_lt _ (by decide))
theorem bytes_zc {s : List Nat} {n : Nat} (h : n ≤ 8 * s.length) : (List.range n).map (Go.Proofs.Ytfnfmbikooeiaaa.byteAt (zc s)) = zc ((bytesN s).take n) := by
  refine extD (by rw [List.length_map, List.length_range, zc_len, List.length_take, bytesN_len]; omega) ?_
  intro i hi
  have hi : i < n := by simpa using hi
  have e1 : ((List.range n).map (Go.Proofs.Ytfnfmbikooeiaaa.byteAt (zc s))).getD i 0 = Go.Proofs.Ytfnfmbikooeiaaa.byteAt (zc s) i := by simp [List.getD_eq_getElem?_getD, hi]
  rw [e1, zc_getD, List.getD_eq_getElem?_getD (l := (bytesN s).take n), List.getElem?_take, if_pos hi, ← List.getD_eq_getElem?_getD, bytesN_at]
  unfold Go.Proofs.Ytfnfmbikooeiaaa.byteAt
  rw [zc_getD]
  exact shr_at _ _ (Nat.mod_lt _ (by decide))
noncomputable def piecesN (h all : List Nat) : Nat → List Nat
  | 0 => h
  | i + 1 => pieceN (piecesN h all i) ((all.drop (128 * i)).take 128) (128 * i + 128) 0
theorem piecesN_len {h : List Nat} (hh : h.length = 8) (all : List Nat) : ∀ i, (piecesN h all i).length = 8
  | 0 => hh
  | i + 1 => pieceN_len _ _ _ _
theorem pieces_zc {h all : List Nat} (hh : h.length = 8) (hb : BtN all) : ∀ i, pieces (zc h) (zc all) i = zc (piecesN h all i)
  | 0 => rfl
  | i + 1 => by
    simp only [pieces, piecesN]
    rw [pieces_zc hh hb i, zc_drop, zc_take, piece_zc (piecesN_len hh all i) ((hb.drop _).take _)]
    rfl
theorem piecesC_succ {α : Type} (q i : Nat) (h all : List Nat) (k : List Nat → List Nat → α) :
    piecesC (q + 1) i h all k = tkC 128 all fun p all => fc (Nat.add (Nat.mul 128 i) 128) fun t => pieceC h p t 0 fun h => piecesC q (Nat.succ i) h all k := rfl
theorem piecesC_eq {α : Type} {h all : List Nat} (hh : h.length = 8) (k : List Nat → List Nat → α) (q : Nat) : ∀ i, 128 * (i + q) ≤ all.length → piecesC q i (piecesN h all i) (all.drop (128 * i)) k = k (piecesN h all (i + q)) (all.drop (128 * (i + q))) := by
  induction q with
  | zero => intro i _; rfl
  | succ q ih =>
    intro i hl
    rw [piecesC_succ, tkC_full _ (by rw [List.length_drop]; omega), fc_eq, pieceC_eq _ _ _ _ (piecesN_len hh all i)]
    have e : pieceN (piecesN h all i) ((all.drop (128 * i)).take 128) (Nat.add (Nat.mul 128 i) 128) 0 = piecesN h all (i + 1) := rfl
    rw [e, List.drop_drop, show 128 * i + 128 = 128 * (i + 1) by omega, show Nat.succ i = i + 1 from rfl, ih (i + 1) (by omega), show i + 1 + q = i + (q + 1) by omega]
noncomputable def h0N (n : Nat) : List Nat := [xM 7640891576956012808 (xM 16842752 n), 13503953896175478587, 4354685564936845355, 11912009170470909681, 5840696475078001361, 11170449401992604703, 2270897969802886507, 6620516959819538809]
noncomputable def hashN (n len : Nat) (all : List Nat) : List Nat :=
  (bytesN (pieceN (piecesN (h0N n) all ((len - 1) / 128)) (padN 128 (all.drop (128 * ((len - 1) / 128)))) len 18446744073709551615)).take n
theorem hashN_len {n : Nat} (h : n ≤ 64) (len : Nat) (all : List Nat) : (hashN n len all).length = n := by
  unfold hashN; rw [List.length_take, bytesN_len, pieceN_len]; omega
theorem hashN_bt (n len : Nat) (all : List Nat) : BtN (hashN n len all) := (bytesN_bt _).take n
theorem hashC_eq {α : Type} {n len : Nat} {all : List Nat} (k : List Nat → α) (hn : n ≤ 64) (hl : all.length = len) : hashC n len all k = k (hashN n len all) := by
  unfold hashC
  simp only [fc_eq]
  have h := piecesC_eq (h := h0N n) (all := all) rfl (fun h r => tkC 128 r fun p _ => pieceC h p len 18446744073709551615 fun h => bytesC h fun b => tkC n b fun d _ => k d) ((len - 1) / 128) 0 (by omega)
  refine Eq.trans ?_ (h.trans ?_)
  · rfl
  · rw [Nat.zero_add, tkC_eq, pieceC_eq _ _ _ _ (piecesN_len rfl all _), bytesC_eq, tkC_full _ (by rw [bytesN_len, pieceN_len]; omega)]
    rfl
theorem padL_zc {r : List Nat} (h : r.length ≤ 128) : padL (zc r) = zc (padN 128 r) := by
  unfold padL padN
  rw [zc_app, zc_rep, zc_len, List.take_of_length_le h]; rfl
theorem param_zc (n : Nat) : paramL n [] = zc (h0N n) := by
  have h1 : xorU 16842752 (shl IntKind.u64 ((([] : List Int).length : Nat) : Int) 8) = ((16842752 : Nat) : Int) := by decide
  unfold paramL
  rw [h1, xor_cast]
  have h2 := xor_cast 7640891576956012808 (xM 16842752 n)
  simp only [Int.cast_ofNat_Int] at h2
  show ([7640891576956012808, 13503953896175478587, 4354685564936845355, 11912009170470909681, 5840696475078001361, 11170449401992604703, 2270897969802886507, 6620516959819538809] : List Int).set 0 (xorU 7640891576956012808 ((xM 16842752 n : Nat) : Int)) = _
  rw [h2]; rfl
theorem blake_zc {n : Nat} {all : List Nat} (hn : n ≤ 64) (hb : BtN all) : blakeL n [] (zc all) = zc (hashN n all.length all) := by
  unfold blakeL digestL
  have hk : keyB [] ++ zc all = zc all := rfl
  rw [hk, param_zc, zc_len]
  have hq : qOf all.length = (all.length - 1) / 128 := rfl
  rw [hq, pieces_zc rfl hb, zc_drop, padL_zc (by rw [List.length_drop]; omega), piece_zc (piecesN_len rfl all _) ((hb.drop _).pad 128), digest_zc (by rw [pieceN_len]; exact hn)]
  rfl
noncomputable def bN (all : List Nat) : Nat → List Nat
  | 0 => all
  | i + 1 => hashN 64 (bN all i).length (bN all i)
theorem bN_bt {all : List Nat} (h : BtN all) : ∀ i, BtN (bN all i)
  | 0 => h
  | i + 1 => hashN_bt _ _ _
theorem bN_len (all : List Nat) (i : Nat) : (bN all (i + 1)).length = 64 := hashN_len (Nat.le_refl _) _ _
theorem b64_zc {all : List Nat} (h : BtN all) : ∀ i, b64 (zc all) i = zc (bN all i)
  | 0 => rfl
  | i + 1 => by
    simp only [b64, bN]
    rw [b64_zc h i, blake_zc (Nat.le_refl _) (bN_bt h i)]
noncomputable def outN (all : List Nat) : Nat → List Nat
  | 0 => []
  | i + 1 => outN all i ++ (bN all (i + 1)).take 32
theorem out64_zc {all : List Nat} (h : BtN all) : ∀ i, out64 (zc all) i = zc (outN all i)
  | 0 => rfl
  | i + 1 => by
    simp only [out64, outN]
    rw [out64_zc h i, b64_zc h, zc_take, zc_app]
noncomputable def tailN (all : List Nat) : Nat → Nat → List Nat
  | j, 0 => bN all j
  | j, n + 1 => (bN all j).take 32 ++ tailN all (j + 1) n
theorem tailN_out (all : List Nat) : ∀ n j, outN all j ++ tailN all (j + 1) n = outN all (j + n) ++ bN all (j + n + 1)
  | 0, j => rfl
  | n + 1, j => by
    simp only [tailN]
    rw [← List.append_assoc, show outN all j ++ (bN all (j + 1)).take 32 = outN all (j + 1) from rfl, tailN_out all n (j + 1), show j + 1 + n = j + (n + 1) by omega]
theorem tailN_bt {all : List Nat} (h : BtN all) : ∀ n j, BtN (tailN all j n)
  | 0, j => bN_bt h j
  | n + 1, j => ((bN_bt h j).take 32).app (tailN_bt h n (j + 1))
theorem bN_succ (all : List Nat) (i : Nat) : bN all (i + 1) = hashN 64 (bN all i).length (bN all i) := rfl
theorem outN_0 (all : List Nat) : outN all 0 = [] := rfl
theorem tail_long (all : List Nat) : tailN all 1 30 = outN all 30 ++ bN all 31 := by
  have e := tailN_out all 30 0
  rw [outN_0, List.nil_append] at e
  simpa only [Nat.zero_add, Nat.reduceAdd] using e
theorem long_zc {all : List Nat} (h : BtN all) : longL 1024 (zc all) = zc (tailN all 1 30) := by
  have e : (1024 - 33) / 32 = 30 := by decide
  have e2 : 1024 - 32 * 30 = 64 := by decide
  have e3 : ¬ (1024 : Nat) ≤ 64 := by decide
  rw [tail_long]
  unfold longL
  rw [if_neg e3, e, e2, out64_zc h, b64_zc h, blake_zc (Nat.le_refl _) (bN_bt h 30), ← zc_app, ← bN_succ]
theorem longL_zc {n : Nat} {all : List Nat} (hn : n ≤ 64) (h : BtN all) : longL n (zc all) = zc (hashN n all.length all) := by
  unfold longL
  rw [if_pos hn, blake_zc hn h]
noncomputable def longR {α : Type} (n : Nat) (d : List Nat) (k : List Nat → α) : α :=
  Nat.rec (motive := fun _ => List Nat → (List Nat → α) → α) (fun d k => k d) (fun _ ih d k => tkC 32 d fun u _ => hashC 64 64 d fun d => ih d fun t => apC u t k) n d k
theorem longR_succ {α : Type} (n : Nat) (d : List Nat) (k : List Nat → α) : longR (n + 1) d k = tkC 32 d fun u _ => hashC 64 64 d fun d => longR n d fun t => apC u t k := rfl
theorem longR_eq {α : Type} (all : List Nat) (n : Nat) : ∀ (j : Nat) (k : List Nat → α), longR n (bN all (j + 1)) k = k (tailN all (j + 1) n) := by
  induction n with
  | zero => intro j k; rfl
  | succ n ih =>
    intro j k
    have hl := bN_len all j
    rw [longR_succ, tkC_full _ (by omega), hashC_eq _ (Nat.le_refl _) hl]
    have e : hashN 64 64 (bN all (j + 1)) = bN all (j + 1 + 1) := by
      show _ = hashN 64 (bN all (j + 1)).length (bN all (j + 1))
      rw [hl]
    rw [e, ih (j + 1), apC_eq]
    rfl
theorem longC_eq {α : Type} {len : Nat} {all : List Nat} (k : List Nat → α) (hl : all.length = len) : longC len all k = k (tailN all 1 30) := by
  unfold longC
  rw [hashC_eq _ (Nat.le_refl _) hl]
  have e : hashN 64 len all = bN all (0 + 1) := by
    show _ = hashN 64 all.length all
    rw [hl]
  rw [e]
  exact longR_eq all 30 0 k
theorem allC_eq {α : Type} : ∀ (l : List Nat) (k : List Nat → α), allC l k = k l
  | [], k => rfl
  | a :: l, k => by
    show fc a (fun a => allC l fun l => k (a :: l)) = _
    rw [fc_eq, allC_eq l _]
theorem four_zc4 (n : Nat) : le4 (n : Int) = zc (four n) := by
  have hs : ∀ (j : Nat), j ≤ 24 → shr IntKind.i64 (n : Int) (j : Int) = ((n / 2 ^ j : Nat) : Int) := by
    intro j hj
    unfold shr
    have hmm : min (j : Int).toNat IntKind.i64.bits = j := by have : IntKind.i64.bits = 64 := rfl; rw [Int.toNat_natCast, this]; omega
    rw [hmm, Int.fdiv_eq_ediv_of_nonneg _ (Int.pow_nonneg (by omega)), Int.natCast_ediv, Int.natCast_pow]; rfl
  have hw : ∀ x : Nat, IntKind.u8.wrap (x : Int) = ((x % 256 : Nat) : Int) := fun x => by rw [wrap_u8']; omega
  have h1 := hs 8 (by decide)
  have h2 := hs 16 (by decide)
  have h3 := hs 24 (by decide)
  simp only [Int.cast_ofNat_Int, Nat.reducePow] at h1 h2 h3
  unfold le4
  rw [h1, h2, h3, hw, hw, hw, hw]
  rfl
noncomputable def begM (sd : List Nat) (i l : Nat) : List Nat := four 1024 ++ (sd ++ (four i ++ four l))
theorem four_bt (n : Nat) : BtN (four n) := fun i => by
  match i with
  | 0 => exact Nat.mod_lt _ (by decide)
  | 1 => exact Nat.mod_lt _ (by decide)
  | 2 => exact Nat.mod_lt _ (by decide)
  | 3 => exact Nat.mod_lt _ (by decide)
  | i + 4 => show ([] : List Nat).getD i 0 < 256; simp
theorem begM_bt {sd : List Nat} (h : BtN sd) (i l : Nat) : BtN (begM sd i l) := (four_bt _).app (h.app ((four_bt _).app (four_bt _)))
noncomputable def begP (sd : List Nat) (i l : Nat) : List Nat := wordsN 128 (tailN (begM sd i l) 1 30)
theorem begC_eq {α : Type} {sd : List Nat} (hs : sd.length = 64) (i l : Nat) (k : List Nat → α) : begC sd i l k = k (begP sd i l) := by
  unfold begC
  rw [allC_eq, longC_eq _ (by
    show (four 1024 ++ (sd ++ (four i ++ four l))).length = 76
    rw [List.length_append, List.length_append, List.length_append, hs]; rfl), wordsC_eq]
  rfl
theorem beg_zc {sd : List Nat} (h : BtN sd) (i l : Nat) : pageOf (begB (zc sd) i l) = zc (begP sd i l) := by
  have h4 := four_zc4 1024
  simp only [Int.cast_ofNat_Int] at h4
  have e : le4 1024 ++ (zc sd ++ (le4 (i : Int) ++ le4 (l : Int))) = zc (begM sd i l) := by
    unfold begM
    rw [h4, four_zc4, four_zc4, zc_app, zc_app, zc_app]
  rw [pageOf_eq, begB_eq, e, long_zc (begM_bt h i l), page_bytes_zc (tailN_bt (begM_bt h i l) 30 1)]
  rfl
end Go.Proofs.Ytfnfmbikooeiaaa

namespace Go.Proofs.Ytfnfmbikooeiaaa
open Go.Ax
def fsK (pass slice lane t L part : Nat) (fs : List (List Int)) (k : Nat) : List (List Int) := fs.set lane (sliceK pass slice lane t L part (loS pass slice) fs (fs.getD lane []) k)
theorem set_getD_self {fs : List (List Int)} {l : Nat} (h : l < fs.length) : fs.set l (fs.getD l []) = fs := by
  rw [List.getD_eq_getElem?_getD, List.getElem?_eq_getElem h, Option.getD_some, List.set_getElem_self]
theorem getD_set_self {fs : List (List Int)} {l : Nat} {x : List Int} (h : l < fs.length) : (fs.set l x).getD l [] = x := by
  rw [List.getD_eq_getElem?_getD, List.getElem?_set, if_pos rfl, if_pos h]; rfl
theorem fsK_0 {pass slice lane t L part : Nat} {fs : List (List Int)} (h : lane < fs.length) : fsK pass slice lane t L part fs 0 = fs := set_getD_self h
theorem stepF_set (pass slice lane i t L part : Nat) (fs : List (List Int)) (x f : List Int) : stepF pass slice lane i t L part (fs.set lane x) f = stepF pass slice lane i t L part fs f := by
  have e : stepP pass slice lane i t L part (fs.set lane x) f = stepP pass slice lane i t L part fs f := by unfold stepP; rw [List.set_set]
  unfold stepF
  rw [e]
theorem fsK_succ {pass slice lane t L part : Nat} {fs : List (List Int)} (h : lane < fs.length) (k : Nat) :
    (fsK pass slice lane t L part fs k).set lane (stepF pass slice lane (loS pass slice + k) t L part (fsK pass slice lane t L part fs k) ((fsK pass slice lane t L part fs k).getD lane [])) = fsK pass slice lane t L part fs (k + 1) := by
  have e : (fsK pass slice lane t L part fs k).getD lane [] = sliceK pass slice lane t L part (loS pass slice) fs (fs.getD lane []) k := getD_set_self h
  rw [e]
  obtain ⟨X, hX⟩ : ∃ X, sliceK pass slice lane t L part (loS pass slice) fs (fs.getD lane []) k = X := ⟨_, rfl⟩
  unfold fsK
  simp only [sliceK]
  rw [hX, stepF_set, List.set_set]
theorem fsK_good {pass slice lane t L part : Nat} {fs : List (List Int)} (h : GoodL L part fs) (h2 : slice < 4) (h3 : lane < L) (h7 : 2 ≤ part) (k : Nat) (hk : loS pass slice + k ≤ part) : GoodL L part (fsK pass slice lane t L part fs k) := by
  have hm := h.at h3
  refine ⟨by unfold fsK; rw [List.length_set]; exact h.len, ?_, ?_⟩
  · intro g hg
    rcases List.mem_or_eq_of_mem_set hg with hg | rfl
    · exact h.lane g hg
    · exact sliceK_len _ _ _ _ _ _ _ _ (h.lane _ hm) h2 _ hk
  · intro g hg
    rcases List.mem_or_eq_of_mem_set hg with hg | rfl
    · exact h.word g hg
    · exact sliceK_w _ _ _ _ _ _ _ _ (h.lane _ hm) (h.word _ hm) h2 (by omega) _ hk
end Go.Proofs.Ytfnfmbikooeiaaa

namespace Go.Proofs.Ytfnfmbikooeiaaa
open Go.Ax Go.Kn
def zcc (fs : List (List Nat)) : List (List Int) := fs.map zc
theorem zcc_len (fs : List (List Nat)) : (zcc fs).length = fs.length := by simp [zcc]
theorem zcc_getD (fs : List (List Nat)) (i : Nat) : (zcc fs).getD i [] = zc (fs.getD i []) := by
  unfold zcc
  rw [List.getD_eq_getElem?_getD, List.getElem?_map, List.getD_eq_getElem?_getD]
  cases fs[i]? <;> rfl
theorem zcc_set (fs : List (List Nat)) (i : Nat) (f : List Nat) : (zcc fs).set i (zc f) = zcc (fs.set i f) := by unfold zcc; rw [List.map_set]
theorem gl_eq : ∀ (fs : List (List Nat)) (i : Nat), gl fs i = fs.getD i []
  | [], i => rfl
  | a :: l, 0 => rfl
  | a :: l, i + 1 => by
    show gl l i = _
    rw [gl_eq l i]; rfl
theorem sl_eq {α : Type} : ∀ (fs : List (List Nat)) (i : Nat) (x : List Nat) (k : List (List Nat) → α), sl fs i x k = k (fs.set i x)
  | [], i, x, k => rfl
  | a :: l, 0, x, k => rfl
  | a :: l, i + 1, x, k => by
    show sl l i x (fun l' => k (a :: l')) = _
    rw [sl_eq l i x _]; rfl
def qgN (f : List Nat) (j : Nat) : List Nat := (f.drop (j * 128)).take 128
def putN (f : List Nat) (j : Nat) (p : List Nat) : List Nat := f.take (j * 128) ++ p ++ f.drop (j * 128 + 128)
theorem qgN_len {f : List Nat} {n j : Nat} (hf : f.length = n * 128) (hj : j < n) : (qgN f j).length = 128 := by
  unfold qgN; rw [List.length_take, List.length_drop, hf]; omega
theorem putN_len {f p : List Nat} {n j : Nat} (hf : f.length = n * 128) (hj : j < n) (hp : p.length = 128) : (putN f j p).length = n * 128 := by
  unfold putN; rw [List.length_append, List.length_append, List.length_take, List.length_drop, hf, hp]; omega
theorem pgC_eq {α : Type} {f : List Nat} {n j : Nat} (k : List Nat → α) (hf : f.length = n * 128) (hj : j < n) : pgC f j k = k (qgN f j) := by
  unfold pgC
  rw [dr_eq, tkC_full _ (by rw [List.length_drop, hf]; show 128 ≤ n * 128 - j * 128; omega)]
  rfl
theorem ptC_eq {α : Type} {f p : List Nat} {n j : Nat} (k : List Nat → α) (hf : f.length = n * 128) (hj : j < n) : ptC f j p k = k (putN f j p) := by
  unfold ptC putN
  rw [tkC_full _ (by rw [hf]; show j * 128 ≤ n * 128; omega), tkC_full _ (by rw [List.length_drop, hf]; show 128 ≤ n * 128 - j * 128; omega), apC_eq, apC_eq, List.drop_drop, List.append_assoc]
  rfl
theorem page_zcf (f : List Nat) (j : Nat) : pageAt (zc f) j = zc (qgN f j) := by unfold pageAt qgN; rw [zc_drop, zc_take]
theorem put_zcf (f p : List Nat) (j : Nat) : putAt (zc f) j (zc p) = zc (putN f j p) := by unfold putAt putN; rw [zc_take, zc_drop, ← zc_app, ← zc_app]
theorem zc_nn (l : List Nat) : NonNeg (zc l) := fun i => by rw [zc_getD]; omega
theorem pages_zc {x y : List Nat} (hx : x.length = 128) (hy : y.length = 128) : pagesL (zc x) (zc y) = zc (pageN x y) := by
  rw [← pages_law (by rw [zc_len, hx]) (zc_nn x), page_zc hx hy]
noncomputable def adrN (pass slice lane t L part : Nat) : List Nat := pageN zeros (pageN zeros ([pass, lane, slice, Nat.mul (Nat.mul 4 part) L, t, 2, 1] ++ List.replicate 121 0))
theorem adrC_eq {α : Type} (pass slice lane t L part : Nat) (k : List Nat → α) : adrC pass slice lane t L part k = k (adrN pass slice lane t L part) := by
  unfold adrC
  rw [pageC_eq _ rfl rfl, pageC_eq _ rfl (pageN_len rfl rfl)]
  rfl
theorem adr_zc (pass slice lane t L part : Nat) : adrL pass slice lane 0 t L part = zc (adrN pass slice lane t L part) := by
  have h0 : zeroP = zc zeros := by unfold zeroP zeros; rw [zc_rep]; rfl
  have h1 : adrZ pass slice lane 0 t L part = zc ([pass, lane, slice, Nat.mul (Nat.mul 4 part) L, t, 2, 1] ++ List.replicate 121 0) := rfl
  unfold adrL adrN
  rw [h0, h1, pages_zc rfl rfl, pages_zc rfl (pageN_len rfl rfl)]
theorem sel_if {α : Type} (b : Bool) (x y : α) : sel b x y = if b = true then x else y := by cases b <;> rfl
theorem ltb_iff (a b : Nat) : (ltb a b = true) = (a < b) := by
  unfold ltb
  rw [Nat.ble_eq]
  rfl
theorem sel_02 {α : Type} (a b : Nat) (x y : α) : sel (Bool.and (Nat.beq a 0) (ltb b 2)) x y = if a = 0 ∧ b < 2 then x else y := by
  rw [sel_if]
  by_cases h : a = 0 ∧ b < 2
  · have h1 : Nat.beq a 0 = true := Nat.beq_eq.symm ▸ h.1
    have h2 : ltb b 2 = true := by rw [ltb_iff]; exact h.2
    rw [if_pos h, h1, h2]; rfl
  · rw [if_neg h, if_neg]
    intro e
    apply h
    have e : (Nat.beq a 0 && ltb b 2) = true := e
    rw [Bool.and_eq_true, ltb_iff, Nat.beq_eq] at e
    exact e
theorem sel_00 {α : Type} (a b : Nat) (x y : α) : sel (Bool.and (Nat.beq a 0) (Nat.beq b 0)) x y = if a = 0 ∧ b = 0 then x else y := by
  rw [sel_if]
  by_cases h : a = 0 ∧ b = 0
  · have h1 : Nat.beq a 0 = true := Nat.beq_eq.symm ▸ h.1
    have h2 : Nat.beq b 0 = true := Nat.beq_eq.symm ▸ h.2
    rw [if_pos h, h1, h2]; rfl
  · rw [if_neg h, if_neg]
    intro e
    apply h
    have e : (Nat.beq a 0 && Nat.beq b 0) = true := e
    rw [Bool.and_eq_true, Nat.beq_eq, Nat.beq_eq] at e
    exact e
theorem sel_lt {α : Type} (a b : Nat) (x y : α) : sel (ltb a b) x y = if a < b then x else y := by
  rw [sel_if]
  by_cases h : a < b
  · rw [if_pos h, if_pos (by rw [ltb_iff]; exact h)]
  · rw [if_neg h, if_neg (by rw [ltb_iff]; exact h)]
theorem sel_eq {α : Type} (a b : Nat) (x y : α) : sel (Nat.beq a b) x y = if a = b then x else y := by
  rw [sel_if]
  by_cases h : a = b
  · rw [if_pos h, if_pos (by rw [Nat.beq_eq]; exact h)]
  · rw [if_neg h, if_neg (by rw [Nat.beq_eq]; exact h)]
def wN (pass slice i : Nat) (a ah : List Nat) : Nat := if pass = 0 ∧ slice < 2 then a.getD i 0 else ah.getD 0 0
def ahN (slice lane i part : Nat) (fs : List (List Nat)) : List Nat := qgN (fs.getD lane []) ((slice * part + i + 4 * part - 1) % (4 * part))
noncomputable def newN (pass slice lane i L part : Nat) (a : List Nat) (fs : List (List Nat)) : List Nat :=
  pageN (ahN slice lane i part fs) (qgN (fs.getD (oLane pass slice lane L (wN pass slice i a (ahN slice lane i part fs))) []) (oIdx pass slice lane i part L (wN pass slice i a (ahN slice lane i part fs))))
noncomputable def stepN (pass slice lane i L part : Nat) (a : List Nat) (fs : List (List Nat)) : List (List Nat) :=
  fs.set lane (putN (fs.getD lane []) (slice * part + i) (if 0 < pass then List.zipWith xM (newN pass slice lane i L part a fs) (qgN (fs.getD lane []) (slice * part + i)) else newN pass slice lane i L part a fs))
structure GoodN (L part : Nat) (fs : List (List Nat)) : Prop where
  len : fs.length = L
  lane : ∀ g ∈ fs, g.length = 4 * part * 128
theorem GoodN.at {L part : Nat} {fs : List (List Nat)} (h : GoodN L part fs) {j : Nat} (hj : j < L) : (fs.getD j []).length = 4 * part * 128 := by
  refine h.lane _ ?_
  rw [List.getD_eq_getElem?_getD, List.getElem?_eq_getElem (by rw [h.len]; exact hj)]; exact List.getElem_mem _
theorem oLane_lt {pass slice lane L w : Nat} (h : lane < L) : oLane pass slice lane L w < L := by
  unfold oLane; split
  · exact h
  · exact Nat.mod_lt _ (by omega)
theorem oIdx_lt {pass slice lane i part L w : Nat} (h : 0 < part) : oIdx pass slice lane i part L w < 4 * part := by unfold oIdx; exact Nat.mod_lt _ (by omega)
theorem newN_len {pass slice lane i L part : Nat} {a : List Nat} {fs : List (List Nat)} (hg : GoodN L part fs) (hl : lane < L) (hp : 0 < part) : (newN pass slice lane i L part a fs).length = 128 := by
  unfold newN ahN
  exact pageN_len (qgN_len (hg.at hl) (Nat.mod_lt _ (by omega))) (qgN_len (hg.at (oLane_lt hl)) (oIdx_lt hp))
theorem stepN_good {pass slice lane i L part : Nat} {a : List Nat} {fs : List (List Nat)} (hg : GoodN L part fs) (hs : slice < 4) (hl : lane < L) (hi : i < part) : GoodN L part (stepN pass slice lane i L part a fs) := by
  have h1 : slice * part ≤ 3 * part := Nat.mul_le_mul_right _ (by omega)
  have hn := newN_len (pass := pass) (slice := slice) (i := i) (a := a) hg hl (by omega)
  refine ⟨by unfold stepN; rw [List.length_set]; exact hg.len, ?_⟩
  intro g hgg
  rcases List.mem_or_eq_of_mem_set hgg with h | rfl
  · exact hg.lane g h
  · refine putN_len (hg.at hl) (by omega) ?_
    split
    · exact zip_len hn (qgN_len (hg.at hl) (by omega))
    · exact hn
theorem stepC_eq {α : Type} {pass slice lane i L part : Nat} (a : List Nat) {fs : List (List Nat)} (k : List (List Nat) → α) (hg : GoodN L part fs) (hs : slice < 4) (hl : lane < L) (hi : i < part) :
    stepC pass slice lane i L part a fs k = k (stepN pass slice lane i L part a fs) := by
  have h1 : slice * part ≤ 3 * part := Nat.mul_le_mul_right _ (by omega)
  have hn := newN_len (pass := pass) (slice := slice) (i := i) (a := a) hg hl (by omega)
  unfold stepC
  simp only [fc_eq, gl_eq, gt_eq, sel_02, sel_00, sel_lt, sel_eq]
  show pgC (fs.getD lane []) ((slice * part + i + 4 * part - 1) % (4 * part)) (fun ah => pgC (fs.getD (oLane pass slice lane L (wN pass slice i a ah)) []) (oIdx pass slice lane i part L (wN pass slice i a ah)) fun o => pageC ah o fun p =>
    if 0 < pass then (pgC (fs.getD lane []) (slice * part + i) fun old => zx p old fun p => ptC (fs.getD lane []) (slice * part + i) p fun f => sl fs lane f k) else (ptC (fs.getD lane []) (slice * part + i) p fun f => sl fs lane f k)) = _
  rw [pgC_eq _ (hg.at hl) (Nat.mod_lt _ (by omega))]
  rw [pgC_eq _ (hg.at (oLane_lt hl)) (oIdx_lt (by omega)), pageC_eq _ (qgN_len (hg.at hl) (Nat.mod_lt _ (by omega))) (qgN_len (hg.at (oLane_lt hl)) (oIdx_lt (by omega)))]
  have e : pageN (qgN (fs.getD lane []) ((slice * part + i + 4 * part - 1) % (4 * part))) (qgN (fs.getD (oLane pass slice lane L (wN pass slice i a (qgN (fs.getD lane []) ((slice * part + i + 4 * part - 1) % (4 * part))))) []) (oIdx pass slice lane i part L (wN pass slice i a (qgN (fs.getD lane []) ((slice * part + i + 4 * part - 1) % (4 * part)))))) = newN pass slice lane i L part a fs := rfl
  rw [e]
  unfold stepN
  by_cases hp : 0 < pass
  · rw [if_pos hp, if_pos hp, pgC_eq _ (hg.at hl) (by omega), zx_eq _ _ _ (by rw [hn, qgN_len (hg.at hl) (by omega)]; exact Nat.le_refl _), ptC_eq _ (hg.at hl) (by omega), sl_eq]
  · rw [if_neg hp, if_neg hp, ptC_eq _ (hg.at hl) (by omega), sl_eq]
theorem step_zc {pass slice lane i t L part : Nat} {a : List Nat} {fs : List (List Nat)} (hg : GoodN L part fs) (hs : slice < 4) (hl : lane < L) (hi : i < part) (ha : pass = 0 ∧ slice < 2 → a = adrN pass slice lane t L part) :
    (zcc fs).set lane (stepF pass slice lane i t L part (zcc fs) ((zcc fs).getD lane [])) = zcc (stepN pass slice lane i L part a fs) := by
  have h1 : slice * part ≤ 3 * part := Nat.mul_le_mul_right _ (by omega)
  have hn := newN_len (pass := pass) (slice := slice) (i := i) (a := a) hg hl (by omega)
  have hahl : (ahN slice lane i part fs).length = 128 := qgN_len (hg.at hl) (Nat.mod_lt _ (by omega))
  have hah : aheadP slice i part (zc (fs.getD lane [])) = zc (ahN slice lane i part fs) := by unfold aheadP ahN; rw [page_zcf]
  have hw : stepW pass slice lane i t L part (zc (fs.getD lane [])) = ((wN pass slice i a (ahN slice lane i part fs) : Nat) : Int) := by
    unfold stepW wN
    rw [hah]
    by_cases h : pass = 0 ∧ slice < 2
    · rw [if_pos h, if_pos h, adr_zc, ha h, zc_getD]
    · rw [if_neg h, if_neg h, zc_getD]
  have hset : (zcc fs).set lane (zc (fs.getD lane [])) = zcc fs := by
    rw [← zcc_getD]; exact set_getD_self (by rw [zcc_len, hg.len]; exact hl)
  have hp : stepP pass slice lane i t L part (zcc fs) (zc (fs.getD lane [])) = zc (newN pass slice lane i L part a fs) := by
    unfold stepP
    rw [hah, hw, hset, Int.toNat_natCast]
    unfold stepO newN
    rw [zcc_getD, page_zcf, pages_zc hahl (qgN_len (hg.at (oLane_lt hl)) (oIdx_lt (by omega)))]
  rw [zcc_getD]
  unfold stepF stepN
  rw [hp, page_zcf]
  by_cases h : 0 < pass
  · rw [if_pos h, if_pos h, xorK_zc hn (qgN_len (hg.at hl) (by omega)), put_zcf, zcc_set]
  · rw [if_neg h, if_neg h, put_zcf, zcc_set]
end Go.Proofs.Ytfnfmbikooeiaaa

namespace Go.Proofs.Ytfnfmbikooeiaaa
open Go.Ax
theorem key_bad (n t m l : Int) (a b c d : List Int) (h : okS n t m l a b c d = false) :
    ACall Try.prog 44 [.v (.int .i64 n), .agg [.v (.int .i64 t), .v (.int .i64 m), .v (.int .i64 l)], .agg [.roI .u8 a, .roI .u8 b, .roI .u8 c, .roI .u8 d]] [] fun v h' => v = .tup [.v (.slice none 0 0), .v (.int .i64 80)] ∧ h' = [] := by
  refine ACall.weak (C := c26 0) rfl (κ := fun v h' => v = .tup [.v (.slice none 0 0), .v (.int .i64 80)]) ?_ ?_
  · refine bd (good26 0) Try.func44 ?_
    exact go26 h trivial
  · rintro v h' rfl
    exact ⟨_, _, weak_none rfl rfl, rfl, rfl⟩
theorem rowA_noRo (q : Nat → Nat) (n : Nat) : ∀ l : List Nat, noRoL (l.map fun j => AV.sl (q j) 0 128 0 n n) = true
  | [] => rfl
  | a :: l => by simp only [List.map_cons, noRoL, AV.noRo, rowA_noRo q n l, Bool.and_self]
theorem lb_map (g : Nat → Nat) (L N : Nat) (fs : List (List Int)) (j : Nat) : Option.map (renL g) (lb L N fs j) = lb L N fs j := rfl
theorem memH_noRo (t m L c part : Nat) (fs : List (List Int)) : noRoH (memH t m L c part fs) = true := by
  have h := rowA_noRo (fun j => 2 + j) (4 * part) (List.range L)
  unfold memH noRoH rowA
  simp only [List.all_cons, List.all_nil, h, lb, noRoL, AV.noRo, Bool.and_self]
noncomputable def keyT (t L part : Nat) (seed : List Int) : List Int := pageB (sumS (4 * part) (passS t L part (beginL seed L (4 * part)) t) L)
theorem key_a (n t m L part q N : Nat) (a b c d seed : List Int) (hn : 4 ≤ n ∧ n ≤ 128) (hL : 1 ≤ L ∧ L ≤ 4) (ht : 1 ≤ t ∧ t ≤ 8) (hm : m ≤ 256) (hok : okS n t m L a b c d = true) (hokP : okP t m L = true) (hpt : part = m / (4 * L)) (h7 : 2 ≤ part ∧ part ≤ 64) (hq : q = 4 * part) (hN : N = q * 128)
    (hsd : seedL n t m L a b c d = seed) (hsl : seed.length = 64) (fs0 : List (List Int)) (hf0 : fs0 = beginL seed L (4 * part)) (pb : List Int) (hpb : pb = pageB (sumS q (passS t L part fs0 t) L)) (hpl : pb.length = 1024) :
    ACall Try.prog 44 [.v (.int .i64 n), .agg [.v (.int .i64 t), .v (.int .i64 m), .v (.int .i64 L)], .agg [.roI .u8 a, .roI .u8 b, .roI .u8 c, .roI .u8 d]] [] fun v h' => ∃ x0 x1 x2 x3 x4 x5 x6 x7 x8 x9 k, v = .tup [.sl 10 0 1 0 n k, .v (.int .i64 0)] ∧ h' = [x0, x1, x2, x3, x4, x5, x6, x7, x8, x9, some [.arr n .u8 (longL n (le4 n ++ pb))]] := by
  have hseed64 : List.take 64 seed = seed := List.take_of_length_le (by omega)
  have hg0 : GoodL L part fs0 := by rw [hf0]; exact beginL_good seed h7.1
  refine bd (good26 0) Try.func44 ?_
  refine go26 (an hok hsd) ?_
  intro k0 _
  refine go26 nf ?_
  have hm8 : u8Of [some [.v (.int .i64 t), .v (.int .i64 m), .v (.int .i64 L)], some [.roI .u8 a, .roI .u8 b, .roI .u8 c, .roI .u8 d], some [.arr 64 .u8 seed]] (.sl 2 0 1 0 64 k0) = some seed := by
    unfold u8Of
    simp [intsOf, row_def, oguard, isU8, hsl, hseed64, rowDrop]
  have hcall := ACall.ro (h := [some [.v (.int .i64 t), .v (.int .i64 m), .v (.int .i64 L)], some [.roI .u8 a, .roI .u8 b, .roI .u8 c, .roI .u8 d], some [.arr 64 .u8 seed]]) (args := [.agg [.v (.int .i64 t), .v (.int .i64 m), .v (.int .i64 L)], .sl 2 0 1 0 64 k0]) (begin_b t m L part seed hL ht.2 hm hokP hpt h7 hsl) (by rintro _ _ ⟨c, rfl, rfl⟩; exact ⟨rfl, memH_noRo _ _ _ _ _ _⟩) (fun g => rfl) (List.range 3) ⟨Frz.same _, u8Of_frz hm8, trivial⟩
  refine ACall.mono hcall ?_
  · rintro _ _ ⟨v0, h0, ⟨k1, rfl, rfl⟩, rfl, rfl⟩
    rw [← hf0]
    simp only [memH, List.map_cons, List.map_nil, lb_ren, ← hq, ← hN]
    simp only [renB, Option.map_some, rowA_ren', renL, AV.ren, List.length_cons, List.length_nil, Nat.reduceAdd, List.cons_append, List.nil_append]
    have hrw : ∀ len, renL (gcMap [3, 4, 5, 6, 7, 8, 0] len) (rowA (fun j => 2 + j) L q) = rowA (fun j => 3 + (2 + j)) L q := by
      intro len
      refine rowA_ren fun j hj => ?_
      rcases (by omega : j = 0 ∨ j = 1 ∨ j = 2 ∨ j = 3) with rfl | rfl | rfl | rfl <;> rfl
    refine go26 nf ?_
    refine loop_count (good26 0) (fun p => ⟨envL [(0, .v (.int .i64 n)), (4, .ptr 6 0 0), (10, .ptr 0 0 0), (33, .v (.int .i64 t)), (34, .v (.int .i64 p))], [some [.v (.int .i64 t), .v (.int .i64 m), .v (.int .i64 L), .sl 1 0 1 0 L k1, .v (.int .i64 part)], some (rowA (fun j => 2 + j) L q), lb L N (passS t L part fs0 p) 0, lb L N (passS t L part fs0 p) 1, lb L N (passS t L part fs0 p) 2, lb L N (passS t L part fs0 p) 3, some [.v (.int .i64 t), .v (.int .i64 m), .v (.int .i64 L)]]⟩) t (by kernel_rfl) ?_ ?_ ?_
    · (refine weak_gc' [3, 4, 5, 6, 7, 8, 0] (by decide) (by simp) (by rfl) ?_ ?_; (focus (first | with_reducible rfl | (simp only [List.map_cons, List.map_nil, List.cons_append, List.nil_append, List.getElem?_cons_zero, List.getElem?_cons_succ, renB, renL, Option.map_some, Option.map_none, AV.ren, gcMap, List.getD_cons_zero, List.getD_cons_succ, hrw, lb_map, passS, Int.natCast_zero] <;> with_reducible rfl))); simp only [exF, List.map_cons, List.map_nil, List.length_cons, List.length_nil, Nat.reduceAdd, AV.ren, renL, gcMap, Nat.reduceEqDiff, if_true, if_false, reduceIte, Option.some.injEq, reduceCtorEq, Int.cast_ofNat_Int, hrw, lb_map, passS, Int.natCast_zero])
    · intro p hp
      have hgp := passS_good (t := t) hg0 h7.1 p
      have hpt2 : ((p : Int) < (t : Int)) = True := by simp; omega
      have hS : passS t L part fs0 (p + 1) = sliceS p t L part (passS t L part fs0 p) 4 := rfl
      rw [hS]
      refine go26 hpt2 ?_
      refine loop_count (good26 0) (fun s => ⟨envL [(0, .v (.int .i64 n)), (4, .ptr 6 0 0), (10, .ptr 0 0 0), (11, .v (.int .i64 p)), (33, .v (.int .i64 t)), (34, .v (.int .i64 p)), (37, .v (.int .i64 s))], [some [.v (.int .i64 t), .v (.int .i64 m), .v (.int .i64 L), .sl 1 0 1 0 L k1, .v (.int .i64 part)], some (rowA (fun j => 2 + j) L q), lb L N (sliceS p t L part (passS t L part fs0 p) s) 0, lb L N (sliceS p t L part (passS t L part fs0 p) s) 1, lb L N (sliceS p t L part (passS t L part fs0 p) s) 2, lb L N (sliceS p t L part (passS t L part fs0 p) s) 3, some [.v (.int .i64 t), .v (.int .i64 m), .v (.int .i64 L)]]⟩) 4 (by kernel_rfl) ?_ ?_ ?_
      · (refine weak_of ?_ ?_; (focus (first | with_reducible rfl | (simp only [sliceS, Int.natCast_zero, Int.cast_ofNat_Int] <;> with_reducible rfl))); simp only [exF, Nat.reduceEqDiff, if_true, if_false, reduceIte, Option.some.injEq, reduceCtorEq, Int.cast_ofNat_Int, sliceS, Int.natCast_zero, Int.cast_ofNat_Int])
      · intro s hs
        have hgs := sliceS_good (t := t) (pass := p) hgp h7.1 s (by omega)
        have hS2 : sliceS p t L part (passS t L part fs0 p) (s + 1) = laneS p s t L part (sliceS p t L part (passS t L part fs0 p) s) L := rfl
        rw [hS2]
        refine go26 nf ?_
        refine loop_count (good26 0) (fun l => ⟨envL [(0, .v (.int .i64 n)), (4, .ptr 6 0 0), (10, .ptr 0 0 0), (11, .v (.int .i64 p)), (12, .v (.int .i64 s)), (33, .v (.int .i64 t)), (34, .v (.int .i64 p)), (37, .v (.int .i64 s)), (41, .v (.int .i64 L)), (42, .v (.int .i64 l))], [some [.v (.int .i64 t), .v (.int .i64 m), .v (.int .i64 L), .sl 1 0 1 0 L k1, .v (.int .i64 part)], some (rowA (fun j => 2 + j) L q), lb L N (laneS p s t L part (sliceS p t L part (passS t L part fs0 p) s) l) 0, lb L N (laneS p s t L part (sliceS p t L part (passS t L part fs0 p) s) l) 1, lb L N (laneS p s t L part (sliceS p t L part (passS t L part fs0 p) s) l) 2, lb L N (laneS p s t L part (sliceS p t L part (passS t L part fs0 p) s) l) 3, some [.v (.int .i64 t), .v (.int .i64 m), .v (.int .i64 L)]]⟩) L (by kernel_rfl) ?_ ?_ ?_
        · (refine weak_of ?_ ?_; (focus (first | with_reducible rfl | (simp only [laneS, Int.natCast_zero] <;> with_reducible rfl))); simp only [exF, Nat.reduceEqDiff, if_true, if_false, reduceIte, Option.some.injEq, reduceCtorEq, Int.cast_ofNat_Int, laneS, Int.natCast_zero])
        · intro l hl
          have hgl := laneS_good (t := t) (pass := p) (slice := s) hgs hs h7.1 l (by omega)
          have hll : ((l : Int) < (L : Int)) = True := by simp; omega
          have hS3 : laneS p s t L part (sliceS p t L part (passS t L part fs0 p) s) (l + 1) = sliceL p s l t L part (laneS p s t L part (sliceS p t L part (passS t L part fs0 p) s) l) := rfl
          rw [hS3]
          refine go26 hll ?_
          rw [hN, hq]
          refine slice_call (C := c26 0) (fs := (laneS p s t L part (sliceS p t L part (passS t L part fs0 p) s) l)) rfl [some [.v (.int .i64 t), .v (.int .i64 m), .v (.int .i64 L)]] hgl (by omega) hs hl hL ht.2 h7 ?_
          repeat (first | simp only [c26_P, c26_odd, c26_ro, Nat.reduceBEq, reduceIte, Nat.reduceEqDiff, reduceCtorEq, ne_eq, if_true, if_false, exA, exA, tabs, exB, exD, buildA, rowOr, rowSetAt, rowAgg, mkAgg, AV.isAggV, AV.parts, AV.one, AV.solid, headSize, indexAddrA, indexA, fieldAddrA, fieldA, sliceA, boundsA, bndA, lenA, arrayAtA, rowOf, makeSliceA, intsOf, copyA, Nat.reduceAdd, Nat.reduceSub, Nat.reduceMul, Nat.reduceLeDiff, Nat.reduceLT, Nat.reduceGT, Int.reduceToNat, Int.reduceLE, Int.reduceLT, Int.reduceEq, Int.reduceNe, Int.reduceAdd, Int.reduceSub, Int.reduceMul, Int.reduceNeg, ite_true, ite_false, dite_true, xc10, xc11, xc12, xc13, xc14, xc15, xc16, xc17, xc20, xc21, xc22, xc23, xc24, xc25, xc26, run_range, exR, memH] | simp (maxSteps := 1000000) (disch := omega) only [exE, Int.toNat_natCast, Int.reduceToNat])
          exact wk nf
        · refine go26 nf ?_
          exact wk nf
      · refine go26 nf ?_
        exact wk nf
    · obtain ⟨fs, hfs⟩ : ∃ fs, fs = passS t L part fs0 t := ⟨_, rfl⟩
      have hg := passS_good (t := t) hg0 h7.1 t
      rw [← hfs] at hg hpb ⊢
      refine go26 nf ?_
      refine loop_count (good26 0) (fun l => ⟨envL [(0, .v (.int .i64 n)), (14, .ptr 7 0 0), (57, .sl 1 0 1 0 L k1), (58, .v (.int .i64 L)), (59, .v (.int .i64 l))], [some [.v (.int .i64 t), .v (.int .i64 m), .v (.int .i64 L), .sl 1 0 1 0 L k1, .v (.int .i64 part)], some (rowA (fun j => 2 + j) L q), lb L N fs 0, lb L N fs 1, lb L N fs 2, lb L N fs 3, some [.v (.int .i64 t), .v (.int .i64 m), .v (.int .i64 L)], some [.arr 128 .u64 (sumS q fs l)]]⟩) L (by kernel_rfl) ?_ ?_ ?_
      · (refine weak_of ?_ ?_; (focus (first | with_reducible rfl | (simp only [sumS, Int.natCast_zero] <;> with_reducible rfl))); simp only [exF, Nat.reduceEqDiff, if_true, if_false, reduceIte, Option.some.injEq, reduceCtorEq, Int.cast_ofNat_Int, sumS, Int.natCast_zero])
      · intro l hl
        have hll : ((l : Int) < (L : Int)) = True := by simp; omega
        have hS : sumS q fs (l + 1) = xorK (sumS q fs l) (pageAt (fs.getD l []) (q - 1)) 128 := rfl
        rw [hS]
        have hsum := sumS_len q fs l
        have hfl := hg.lane _ (hg.at hl)
        obtain ⟨f, hf⟩ : ∃ f, fs.getD l [] = f := ⟨_, rfl⟩
        obtain ⟨u, hu⟩ : ∃ u, sumS q fs l = u := ⟨_, rfl⟩
        rw [hf] at hfl
        rw [hf, hu]
        rw [hu] at hsum
        have hlb : lb L N fs l = some [.arr N .u64 f] := by unfold lb; rw [if_pos hl, if_pos hl, hf]
        have hcell : rowCell (rowA (fun j => 2 + j) L q) l = some (.sl (2 + l) 0 128 0 q q) := rowA_cell hl
        have wq : IntKind.i64.wrap ((q : Int) - 1) = ((q - 1 : Nat) : Int) := by rw [wrap_i64_id _ (by omega)]; omega
        have hfN : f.length = N := by rw [hfl, hN, hq]
        have hpgl : (pageAt f (q - 1)).length = 128 := pageAt_len (n := q) (by rw [hfN, hN]) (by omega)
        have hpge : List.drop ((q - 1) * 128) f = pageAt f (q - 1) := (List.take_of_length_le (by rw [List.length_drop]; omega)).symm
        rcases Nat.lt_or_ge l 1 with hl0 | hl0
        · obtain rfl : l = 0 := by omega
          refine go26 (an hll (an hcell (an hlb wq))) ?_
          repeat with_reducible refine gd ?_
          rw [hpge]
          obtain ⟨g, hgg⟩ : ∃ g, pageAt f (q - 1) = g := ⟨_, rfl⟩
          rw [hgg] at hpgl ⊢
          refine loop_count (good26 0) (fun i => ⟨envL [(0, .v (.int .i64 n)), (14, .ptr 7 0 0), (57, .sl 1 0 1 0 L k1), (58, .v (.int .i64 L)), (59, .v (.int .i64 0)), (68, .arr 128 .u64 g), (69, .v (.int .i64 i))], [some [.v (.int .i64 t), .v (.int .i64 m), .v (.int .i64 L), .sl 1 0 1 0 L k1, .v (.int .i64 part)], some (rowA (fun j => 2 + j) L q), lb L N fs 0, lb L N fs 1, lb L N fs 2, lb L N fs 3, some [.v (.int .i64 t), .v (.int .i64 m), .v (.int .i64 L)], some [.arr 128 .u64 (xorK u g i)]]⟩) 128 (by kernel_rfl) ?_ ?_ ?_
          · (refine weak_of ?_ ?_; (focus (first | with_reducible rfl | (simp only [xorK, hlb, Int.natCast_zero, Int.cast_ofNat_Int] <;> with_reducible rfl))); simp only [exF, Nat.reduceEqDiff, if_true, if_false, reduceIte, Option.some.injEq, reduceCtorEq, Int.cast_ofNat_Int, xorK, hlb, Int.natCast_zero, Int.cast_ofNat_Int])
          · intro i hi
            have hxl : (xorK u g i).length = 128 := by rw [xorK_len, hsum]
            have hS : xorK u g (i + 1) = (xorK u g i).set i (xorU ((xorK u g i).getD i 0) (g.getD i 0)) := rfl
            rw [hS]
            obtain ⟨x, hx⟩ : ∃ x, xorK u g i = x := ⟨_, rfl⟩
            rw [hx] at hxl ⊢
            refine go26 nf ?_
            repeat with_reducible refine gd ?_
            exact wk nf
          · refine go26 nf ?_
            (refine weak_of ?_ ?_; (focus (first | with_reducible rfl | (simp only [hlb] <;> with_reducible rfl))); simp only [exF, Nat.reduceEqDiff, if_true, if_false, reduceIte, Option.some.injEq, reduceCtorEq, Int.cast_ofNat_Int, hlb])
            rfl
        rcases Nat.lt_or_ge l 2 with hl1 | hl1
        · obtain rfl : l = 1 := by omega
          refine go26 (an hll (an hcell (an hlb wq))) ?_
          repeat with_reducible refine gd ?_
          rw [hpge]
          obtain ⟨g, hgg⟩ : ∃ g, pageAt f (q - 1) = g := ⟨_, rfl⟩
          rw [hgg] at hpgl ⊢
          refine loop_count (good26 0) (fun i => ⟨envL [(0, .v (.int .i64 n)), (14, .ptr 7 0 0), (57, .sl 1 0 1 0 L k1), (58, .v (.int .i64 L)), (59, .v (.int .i64 1)), (68, .arr 128 .u64 g), (69, .v (.int .i64 i))], [some [.v (.int .i64 t), .v (.int .i64 m), .v (.int .i64 L), .sl 1 0 1 0 L k1, .v (.int .i64 part)], some (rowA (fun j => 2 + j) L q), lb L N fs 0, lb L N fs 1, lb L N fs 2, lb L N fs 3, some [.v (.int .i64 t), .v (.int .i64 m), .v (.int .i64 L)], some [.arr 128 .u64 (xorK u g i)]]⟩) 128 (by kernel_rfl) ?_ ?_ ?_
          · (refine weak_of ?_ ?_; (focus (first | with_reducible rfl | (simp only [xorK, hlb, Int.natCast_zero, Int.cast_ofNat_Int] <;> with_reducible rfl))); simp only [exF, Nat.reduceEqDiff, if_true, if_false, reduceIte, Option.some.injEq, reduceCtorEq, Int.cast_ofNat_Int, xorK, hlb, Int.natCast_zero, Int.cast_ofNat_Int])
          · intro i hi
            have hxl : (xorK u g i).length = 128 := by rw [xorK_len, hsum]
            have hS : xorK u g (i + 1) = (xorK u g i).set i (xorU ((xorK u g i).getD i 0) (g.getD i 0)) := rfl
            rw [hS]
            obtain ⟨x, hx⟩ : ∃ x, xorK u g i = x := ⟨_, rfl⟩
            rw [hx] at hxl ⊢
            refine go26 nf ?_
            repeat with_reducible refine gd ?_
            exact wk nf
          · refine go26 nf ?_
            (refine weak_of ?_ ?_; (focus (first | with_reducible rfl | (simp only [hlb] <;> with_reducible rfl))); simp only [exF, Nat.reduceEqDiff, if_true, if_false, reduceIte, Option.some.injEq, reduceCtorEq, Int.cast_ofNat_Int, hlb])
            rfl
        rcases Nat.lt_or_ge l 3 with hl2 | hl2
        · obtain rfl : l = 2 := by omega
          refine go26 (an hll (an hcell (an hlb wq))) ?_
          repeat with_reducible refine gd ?_
          rw [hpge]
          obtain ⟨g, hgg⟩ : ∃ g, pageAt f (q - 1) = g := ⟨_, rfl⟩
          rw [hgg] at hpgl ⊢
          refine loop_count (good26 0) (fun i => ⟨envL [(0, .v (.int .i64 n)), (14, .ptr 7 0 0), (57, .sl 1 0 1 0 L k1), (58, .v (.int .i64 L)), (59, .v (.int .i64 2)), (68, .arr 128 .u64 g), (69, .v (.int .i64 i))], [some [.v (.int .i64 t), .v (.int .i64 m), .v (.int .i64 L), .sl 1 0 1 0 L k1, .v (.int .i64 part)], some (rowA (fun j => 2 + j) L q), lb L N fs 0, lb L N fs 1, lb L N fs 2, lb L N fs 3, some [.v (.int .i64 t), .v (.int .i64 m), .v (.int .i64 L)], some [.arr 128 .u64 (xorK u g i)]]⟩) 128 (by kernel_rfl) ?_ ?_ ?_
          · (refine weak_of ?_ ?_; (focus (first | with_reducible rfl | (simp only [xorK, hlb, Int.natCast_zero, Int.cast_ofNat_Int] <;> with_reducible rfl))); simp only [exF, Nat.reduceEqDiff, if_true, if_false, reduceIte, Option.some.injEq, reduceCtorEq, Int.cast_ofNat_Int, xorK, hlb, Int.natCast_zero, Int.cast_ofNat_Int])
          · intro i hi
            have hxl : (xorK u g i).length = 128 := by rw [xorK_len, hsum]
            have hS : xorK u g (i + 1) = (xorK u g i).set i (xorU ((xorK u g i).getD i 0) (g.getD i 0)) := rfl
            rw [hS]
            obtain ⟨x, hx⟩ : ∃ x, xorK u g i = x := ⟨_, rfl⟩
            rw [hx] at hxl ⊢
            refine go26 nf ?_
            repeat with_reducible refine gd ?_
            exact wk nf
          · refine go26 nf ?_
            (refine weak_of ?_ ?_; (focus (first | with_reducible rfl | (simp only [hlb] <;> with_reducible rfl))); simp only [exF, Nat.reduceEqDiff, if_true, if_false, reduceIte, Option.some.injEq, reduceCtorEq, Int.cast_ofNat_Int, hlb])
            rfl
        rcases Nat.lt_or_ge l 4 with hl3 | hl3
        · obtain rfl : l = 3 := by omega
          refine go26 (an hll (an hcell (an hlb wq))) ?_
          repeat with_reducible refine gd ?_
          rw [hpge]
          obtain ⟨g, hgg⟩ : ∃ g, pageAt f (q - 1) = g := ⟨_, rfl⟩
          rw [hgg] at hpgl ⊢
          refine loop_count (good26 0) (fun i => ⟨envL [(0, .v (.int .i64 n)), (14, .ptr 7 0 0), (57, .sl 1 0 1 0 L k1), (58, .v (.int .i64 L)), (59, .v (.int .i64 3)), (68, .arr 128 .u64 g), (69, .v (.int .i64 i))], [some [.v (.int .i64 t), .v (.int .i64 m), .v (.int .i64 L), .sl 1 0 1 0 L k1, .v (.int .i64 part)], some (rowA (fun j => 2 + j) L q), lb L N fs 0, lb L N fs 1, lb L N fs 2, lb L N fs 3, some [.v (.int .i64 t), .v (.int .i64 m), .v (.int .i64 L)], some [.arr 128 .u64 (xorK u g i)]]⟩) 128 (by kernel_rfl) ?_ ?_ ?_
          · (refine weak_of ?_ ?_; (focus (first | with_reducible rfl | (simp only [xorK, hlb, Int.natCast_zero, Int.cast_ofNat_Int] <;> with_reducible rfl))); simp only [exF, Nat.reduceEqDiff, if_true, if_false, reduceIte, Option.some.injEq, reduceCtorEq, Int.cast_ofNat_Int, xorK, hlb, Int.natCast_zero, Int.cast_ofNat_Int])
          · intro i hi
            have hxl : (xorK u g i).length = 128 := by rw [xorK_len, hsum]
            have hS : xorK u g (i + 1) = (xorK u g i).set i (xorU ((xorK u g i).getD i 0) (g.getD i 0)) := rfl
            rw [hS]
            obtain ⟨x, hx⟩ : ∃ x, xorK u g i = x := ⟨_, rfl⟩
            rw [hx] at hxl ⊢
            refine go26 nf ?_
            repeat with_reducible refine gd ?_
            exact wk nf
          · refine go26 nf ?_
            (refine weak_of ?_ ?_; (focus (first | with_reducible rfl | (simp only [hlb] <;> with_reducible rfl))); simp only [exF, Nat.reduceEqDiff, if_true, if_false, reduceIte, Option.some.injEq, reduceCtorEq, Int.cast_ofNat_Int, hlb])
            rfl
        omega
      · have hsum := sumS_len q fs L
        obtain ⟨u, hu⟩ : ∃ u, sumS q fs L = u := ⟨_, rfl⟩
        rw [hu] at hsum hpb ⊢
        have hut : List.take 128 u = u := List.take_of_length_le (by omega)
        have hpt2 : List.take 1024 pb = pb := List.take_of_length_le (by omega)
        refine go26 (an hsum (an hut (an hpb.symm (an hpl hpt2)))) ?_
        intro c8 _ c9 _
        exact ⟨_, _, _, _, _, _, _, _, _, _, _, rfl, rfl⟩
theorem part_ok {t m L : Nat} (h : okP t m L = true) : 1 ≤ L ∧ L ≤ 4 ∧ 1 ≤ t ∧ t ≤ 8 ∧ m ≤ 256 ∧ 2 ≤ m / (4 * L) ∧ m / (4 * L) ≤ 64 := by
  have h := okP_iff.1 h
  refine ⟨by omega, by omega, by omega, by omega, by omega, ?_, ?_⟩
  · rw [Nat.le_div_iff_mul_le (by omega)]; omega
  · exact Nat.le_trans (Nat.div_le_div_left (show 4 ≤ 4 * L by omega) (by decide)) (by omega)
theorem key_ok (n t m L : Nat) (a b c d : List Int) (hok : okS n t m L a b c d = true) :
    ACall Try.prog 44 [.v (.int .i64 n), .agg [.v (.int .i64 t), .v (.int .i64 m), .v (.int .i64 L)], .agg [.roI .u8 a, .roI .u8 b, .roI .u8 c, .roI .u8 d]] [] fun v h' => ∃ k, v = .tup [.sl 0 0 1 0 n k, .v (.int .i64 0)] ∧ h' = [some [.arr n .u8 (longL n (le4 n ++ keyT t L (m / (4 * L)) (seedL n t m L a b c d)))]] := by
  have h0 := okS_iff.1 hok
  have hp := part_ok h0.2.2.1
  refine ACall.weak (C := c26 0) rfl (key_a n t m L (m / (4 * L)) (4 * (m / (4 * L))) (4 * (m / (4 * L)) * 128) a b c d _ (by omega) ⟨hp.1, hp.2.1⟩ ⟨hp.2.2.1, hp.2.2.2.1⟩ hp.2.2.2.2.1 hok h0.2.2.1 rfl hp.2.2.2.2.2 rfl rfl rfl (by unfold seedL; rw [blakeL_len]) _ rfl (keyT t L (m / (4 * L)) (seedL n t m L a b c d)) rfl (pageB_len _)) ?_
  rintro v h' ⟨x0, x1, x2, x3, x4, x5, x6, x7, x8, x9, k, rfl, rfl⟩
  exact ⟨_, _, weak_gc' [10] (by decide) (by simp) (by rfl) rfl ⟨rfl, trivial⟩, _, rfl, rfl⟩
end Go.Proofs.Ytfnfmbikooeiaaa

namespace Go.Proofs.Ytfnfmbikooeiaaa
open Go.Ax Go.Kn
noncomputable def runC {α : Type} (pass slice lane L part : Nat) (a : List Nat) (k : List (List Nat) → α) (n i : Nat) (fs : List (List Nat)) : α :=
  Nat.rec (motive := fun _ => Nat → List (List Nat) → α) (fun _ fs => k fs) (fun _ ih i fs => stepC pass slice lane i L part a fs fun fs => fc (Nat.succ i) fun i => ih i fs) n i fs
theorem runC_succ {α : Type} (pass slice lane L part : Nat) (a : List Nat) (k : List (List Nat) → α) (n i : Nat) (fs : List (List Nat)) :
    runC pass slice lane L part a k (n + 1) i fs = stepC pass slice lane i L part a fs fun fs => fc (Nat.succ i) fun i => runC pass slice lane L part a k n i fs := rfl
noncomputable def stepsN (pass slice lane L part : Nat) (a : List Nat) (lo : Nat) (fs : List (List Nat)) : Nat → List (List Nat)
  | 0 => fs
  | k + 1 => stepN pass slice lane (lo + k) L part a (stepsN pass slice lane L part a lo fs k)
theorem stepsN_succ (pass slice lane L part : Nat) (a : List Nat) (lo : Nat) (fs : List (List Nat)) (k : Nat) : stepsN pass slice lane L part a lo fs (k + 1) = stepN pass slice lane (lo + k) L part a (stepsN pass slice lane L part a lo fs k) := rfl
theorem stepsN_good {pass slice lane L part lo : Nat} {a : List Nat} {fs : List (List Nat)} (hg : GoodN L part fs) (hs : slice < 4) (hl : lane < L) : ∀ k, lo + k ≤ part → GoodN L part (stepsN pass slice lane L part a lo fs k)
  | 0, _ => hg
  | k + 1, h => stepN_good (stepsN_good hg hs hl k (by omega)) hs hl (by omega)
theorem runC_eq {α : Type} {pass slice lane L part lo : Nat} {a : List Nat} {fs : List (List Nat)} (hg : GoodN L part fs) (hs : slice < 4) (hl : lane < L) (K : List (List Nat) → α) (n : Nat) :
    ∀ k, lo + k + n ≤ part → runC pass slice lane L part a K n (lo + k) (stepsN pass slice lane L part a lo fs k) = K (stepsN pass slice lane L part a lo fs (k + n)) := by
  induction n with
  | zero => intro k _; rfl
  | succ n ih =>
    intro k h
    rw [runC_succ, stepC_eq _ _ (stepsN_good hg hs hl k (by omega)) hs hl (by omega), fc_eq, ← stepsN_succ, show Nat.succ (lo + k) = lo + (k + 1) from rfl, ih (k + 1) (by omega), show k + 1 + n = k + (n + 1) by omega]
theorem steps_zc {pass slice lane t L part : Nat} {a : List Nat} {fs : List (List Nat)} (hg : GoodN L part fs) (hs : slice < 4) (hl : lane < L) (ha : pass = 0 ∧ slice < 2 → a = adrN pass slice lane t L part) :
    ∀ k, loS pass slice + k ≤ part → fsK pass slice lane t L part (zcc fs) k = zcc (stepsN pass slice lane L part a (loS pass slice) fs k)
  | 0, _ => fsK_0 (by rw [zcc_len, hg.len]; exact hl)
  | k + 1, h => by
    rw [← fsK_succ (by rw [zcc_len, hg.len]; exact hl) k, steps_zc hg hs hl ha k (by omega), step_zc (stepsN_good hg hs hl k (by omega)) hs hl (by omega) ha]
    rfl
noncomputable def sliceN (pass slice lane t L part : Nat) (fs : List (List Nat)) : List (List Nat) :=
  stepsN pass slice lane L part (if pass = 0 ∧ slice < 2 then adrN pass slice lane t L part else []) (loS pass slice) fs (part - loS pass slice)
theorem loS_le (pass slice : Nat) : loS pass slice ≤ 2 := by unfold loS; split <;> omega
theorem sliceN_good {pass slice lane t L part : Nat} {fs : List (List Nat)} (hg : GoodN L part fs) (hs : slice < 4) (hl : lane < L) (hp : 2 ≤ part) : GoodN L part (sliceN pass slice lane t L part fs) := by
  have := loS_le pass slice
  exact stepsN_good hg hs hl _ (by omega)
theorem sliceC_eq {α : Type} {pass slice lane t L part : Nat} {fs : List (List Nat)} (k : List (List Nat) → α) (hg : GoodN L part fs) (hs : slice < 4) (hl : lane < L) (hp : 2 ≤ part) :
    sliceC pass slice lane t L part fs k = k (sliceN pass slice lane t L part fs) := by
  have hlo := loS_le pass slice
  unfold sliceC
  rw [fc_eq, sel_00, fc_eq, sel_02, adrC_eq]
  have e : (if pass = 0 ∧ slice = 0 then 2 else 0) = loS pass slice := rfl
  rw [e]
  have key : ∀ a, runC pass slice lane L part a k (part - loS pass slice) (loS pass slice) fs = k (stepsN pass slice lane L part a (loS pass slice) fs (part - loS pass slice)) := by
    intro a
    have h := runC_eq (lo := loS pass slice) (a := a) (pass := pass) hg hs hl k (part - loS pass slice) 0 (by omega)
    rw [Nat.add_zero, Nat.zero_add] at h
    exact h
  unfold sliceN
  by_cases h : pass = 0 ∧ slice < 2
  · rw [if_pos h, if_pos h]; exact key _
  · rw [if_neg h, if_neg h]; exact key _
theorem slice_zc {pass slice lane t L part : Nat} {fs : List (List Nat)} (hg : GoodN L part fs) (hs : slice < 4) (hl : lane < L) (hp : 2 ≤ part) : sliceL pass slice lane t L part (zcc fs) = zcc (sliceN pass slice lane t L part fs) := by
  have hlo := loS_le pass slice
  exact steps_zc (t := t) hg hs hl (fun h => if_pos h) (part - loS pass slice) (by omega)
noncomputable def lanesN (pass slice t L part : Nat) (fs : List (List Nat)) : Nat → List (List Nat)
  | 0 => fs
  | l + 1 => sliceN pass slice l t L part (lanesN pass slice t L part fs l)
noncomputable def slicesN (pass t L part : Nat) (fs : List (List Nat)) : Nat → List (List Nat)
  | 0 => fs
  | s + 1 => lanesN pass s t L part (slicesN pass t L part fs s) L
noncomputable def passesN (t L part : Nat) (fs : List (List Nat)) : Nat → List (List Nat)
  | 0 => fs
  | p + 1 => slicesN p t L part (passesN t L part fs p) 4
theorem lanesN_good {t L part : Nat} (hp : 2 ≤ part) {pass slice : Nat} {fs : List (List Nat)} (hg : GoodN L part fs) (hs : slice < 4) : ∀ l, l ≤ L → GoodN L part (lanesN pass slice t L part fs l)
  | 0, _ => hg
  | l + 1, h => sliceN_good (lanesN_good hp hg hs l (by omega)) hs (by omega) hp
theorem slicesN_good {t L part : Nat} (hp : 2 ≤ part) {pass : Nat} {fs : List (List Nat)} (hg : GoodN L part fs) : ∀ s, s ≤ 4 → GoodN L part (slicesN pass t L part fs s)
  | 0, _ => hg
  | s + 1, h => lanesN_good hp (slicesN_good hp hg s (by omega)) (by omega) L (Nat.le_refl _)
theorem passesN_good {t L part : Nat} (hp : 2 ≤ part) {fs : List (List Nat)} (hg : GoodN L part fs) : ∀ p, GoodN L part (passesN t L part fs p)
  | 0 => hg
  | p + 1 => slicesN_good hp (passesN_good hp hg p) 4 (Nat.le_refl _)
theorem lanes_zc {t L part : Nat} (hp : 2 ≤ part) {pass slice : Nat} {fs : List (List Nat)} (hg : GoodN L part fs) (hs : slice < 4) : ∀ l, l ≤ L → laneS pass slice t L part (zcc fs) l = zcc (lanesN pass slice t L part fs l)
  | 0, _ => rfl
  | l + 1, h => by
    simp only [laneS, lanesN]
    rw [lanes_zc hp hg hs l (by omega), slice_zc (lanesN_good hp hg hs l (by omega)) hs (by omega) hp]
theorem slices_zc {t L part : Nat} (hp : 2 ≤ part) {pass : Nat} {fs : List (List Nat)} (hg : GoodN L part fs) : ∀ s, s ≤ 4 → sliceS pass t L part (zcc fs) s = zcc (slicesN pass t L part fs s)
  | 0, _ => rfl
  | s + 1, h => by
    simp only [sliceS, slicesN]
    rw [slices_zc hp hg s (by omega), lanes_zc hp (slicesN_good hp hg s (by omega)) (by omega) L (Nat.le_refl _)]
theorem passes_zc {t L part : Nat} (hp : 2 ≤ part) {fs : List (List Nat)} (hg : GoodN L part fs) : ∀ p, passS t L part (zcc fs) p = zcc (passesN t L part fs p)
  | 0 => rfl
  | p + 1 => by
    simp only [passS, passesN]
    rw [passes_zc hp hg p, slices_zc hp (passesN_good hp hg p) 4 (Nat.le_refl _)]
theorem lanesC_eq {t L part : Nat} (hp : 2 ≤ part) {α : Type} {pass slice : Nat} {fs : List (List Nat)} (hg : GoodN L part fs) (hs : slice < 4) (K : List (List Nat) → α) (n : Nat) :
    ∀ l, l + n ≤ L → lanesC n l pass slice t L part (lanesN pass slice t L part fs l) K = K (lanesN pass slice t L part fs (l + n)) := by
  induction n with
  | zero => intro l _; rfl
  | succ n ih =>
    intro l h
    have e : lanesC (n + 1) l pass slice t L part (lanesN pass slice t L part fs l) K = sliceC pass slice l t L part (lanesN pass slice t L part fs l) fun fs => fc (Nat.succ l) fun l => lanesC n l pass slice t L part fs K := rfl
    rw [e, sliceC_eq _ (lanesN_good hp hg hs l (by omega)) hs (by omega) hp, fc_eq, show sliceN pass slice l t L part (lanesN pass slice t L part fs l) = lanesN pass slice t L part fs (l + 1) from rfl, show Nat.succ l = l + 1 from rfl, ih (l + 1) (by omega), show l + 1 + n = l + (n + 1) by omega]
theorem slicesC_eq {t L part : Nat} (hp : 2 ≤ part) {α : Type} {pass : Nat} {fs : List (List Nat)} (hg : GoodN L part fs) (K : List (List Nat) → α) (n : Nat) :
    ∀ s, s + n ≤ 4 → slicesC n s pass t L part (slicesN pass t L part fs s) K = K (slicesN pass t L part fs (s + n)) := by
  induction n with
  | zero => intro s _; rfl
  | succ n ih =>
    intro s h
    have e : slicesC (n + 1) s pass t L part (slicesN pass t L part fs s) K = lanesC L 0 pass s t L part (slicesN pass t L part fs s) fun fs => fc (Nat.succ s) fun s => slicesC n s pass t L part fs K := rfl
    have h2 := lanesC_eq (t := t) hp (pass := pass) (slice := s) (slicesN_good (pass := pass) (t := t) hp hg s (by omega)) (by omega) (fun fs => fc (Nat.succ s) fun s => slicesC n s pass t L part fs K) L 0 (by omega)
    rw [e]
    refine Eq.trans h2 ?_
    rw [fc_eq, Nat.zero_add, show lanesN pass s t L part (slicesN pass t L part fs s) L = slicesN pass t L part fs (s + 1) from rfl, show Nat.succ s = s + 1 from rfl, ih (s + 1) (by omega), show s + 1 + n = s + (n + 1) by omega]
theorem passC_eq {t L part : Nat} (hp : 2 ≤ part) {α : Type} {fs : List (List Nat)} (hg : GoodN L part fs) (K : List (List Nat) → α) (n : Nat) :
    ∀ p, passC n p t L part (passesN t L part fs p) K = K (passesN t L part fs (p + n)) := by
  induction n with
  | zero => intro p; rfl
  | succ n ih =>
    intro p
    have e : passC (n + 1) p t L part (passesN t L part fs p) K = slicesC 4 0 p t L part (passesN t L part fs p) fun fs => fc (Nat.succ p) fun p => passC n p t L part fs K := rfl
    have h2 := slicesC_eq (t := t) hp (pass := p) (passesN_good (t := t) hp hg p) (fun fs => fc (Nat.succ p) fun p => passC n p t L part fs K) 4 0 (by omega)
    rw [e]
    refine Eq.trans h2 ?_
    rw [fc_eq, Nat.zero_add, show slicesN p t L part (passesN t L part fs p) 4 = passesN t L part fs (p + 1) from rfl, show Nat.succ p = p + 1 from rfl, ih (p + 1), show p + 1 + n = p + (n + 1) by omega]
noncomputable def laneN (sd z : List Nat) (l : Nat) : List Nat := begP sd 0 l ++ (begP sd 1 l ++ z)
theorem begP_len (sd : List Nat) (i l : Nat) : (begP sd i l).length = 128 := wordsN_len _ _
noncomputable def lanes0 (sd z : List Nat) : Nat → Nat → List (List Nat)
  | _, 0 => []
  | l, n + 1 => laneN sd z l :: lanes0 sd z (l + 1) n
theorem beginC_eq {α : Type} {sd : List Nat} (hs : sd.length = 64) (z : List Nat) (n : Nat) : ∀ (l : Nat) (k : List (List Nat) → α), beginC n l sd z k = k (lanes0 sd z l n) := by
  induction n with
  | zero => intro l k; rfl
  | succ n ih =>
    intro l k
    have e : beginC (n + 1) l sd z k = begC sd 0 l fun a => begC sd 1 l fun b => apC b z fun f => apC a f fun f => fc (Nat.succ l) fun l => beginC n l sd z fun fs => k (f :: fs) := rfl
    rw [e, begC_eq hs, begC_eq hs, apC_eq, apC_eq, fc_eq, ih]
    rfl
theorem beginK_succ (seed : List Int) (l n k : Nat) : beginK seed l n (k + 1) = putAt (beginK seed l n k) k (pageOf (begB seed k l)) := rfl
theorem lane_zc {sd : List Nat} (h : BtN sd) (l : Nat) : beginK (zc sd) l 8 2 = zc (laneN sd (List.replicate 768 0) l) := by
  have e0 : beginK (zc sd) l 8 0 = zc (List.replicate 1024 0) := by
    rw [beginK_0, flat_zeros, zc_rep, Int.natCast_zero]
  have e1 : beginK (zc sd) l 8 2 = putAt (putAt (beginK (zc sd) l 8 0) 0 (pageOf (begB (zc sd) ((0 : Nat) : Int) l))) 1 (pageOf (begB (zc sd) ((1 : Nat) : Int) l)) := by
    rw [show (2 : Nat) = 0 + 1 + 1 from rfl, beginK_succ, beginK_succ]
  rw [e1, e0, beg_zc h, beg_zc h, put_zcf, put_zcf]
  refine congrArg zc ?_
  unfold putN laneN
  have ha := begP_len sd 0 l
  obtain ⟨a, haa⟩ : ∃ a, begP sd 0 l = a := ⟨_, rfl⟩
  obtain ⟨b, hbb⟩ : ∃ b, begP sd 1 l = b := ⟨_, rfl⟩
  rw [haa] at ha
  rw [haa, hbb]
  simp only [Nat.zero_mul, List.take_zero, List.nil_append, Nat.one_mul, Nat.zero_add, List.drop_replicate]
  rw [List.take_append_of_le_length (by omega), List.take_of_length_le (by omega), List.drop_append, List.drop_of_length_le (by omega), ha, List.nil_append, List.drop_replicate, List.append_assoc]
theorem begin_zc {sd : List Nat} (h : BtN sd) : beginL (zc sd) 4 8 = zcc (lanes0 sd (List.replicate 768 0) 0 4) := by
  unfold beginL
  rw [show List.range 4 = [0, 1, 2, 3] from rfl]
  simp only [List.map_cons, List.map_nil, lane_zc h, lanes0, zcc, Nat.zero_add, Nat.reduceAdd]
theorem lanes0_good (sd : List Nat) : GoodN 4 2 (lanes0 sd (List.replicate 768 0) 0 4) := by
  refine ⟨rfl, ?_⟩
  have hl : ∀ l, (laneN sd (List.replicate 768 0) l).length = 4 * 2 * 128 := fun l => by
    unfold laneN
    rw [List.length_append, List.length_append, begP_len, begP_len, List.length_replicate]
  intro g hg
  have e : lanes0 sd (List.replicate 768 0) 0 4 = [laneN sd (List.replicate 768 0) 0, laneN sd (List.replicate 768 0) 1, laneN sd (List.replicate 768 0) 2, laneN sd (List.replicate 768 0) 3] := rfl
  rw [e] at hg
  simp only [List.mem_cons, List.not_mem_nil, or_false] at hg
  rcases hg with rfl | rfl | rfl | rfl <;> exact hl _
noncomputable def sumN (n : Nat) : List (List Nat) → List Nat → List Nat
  | [], u => u
  | f :: fs, u => sumN n fs (List.zipWith xM u (qgN f (n - 1)))
theorem sumC_eq {α : Type} {n : Nat} (hn : 0 < n) : ∀ (fs : List (List Nat)) (u : List Nat) (k : List Nat → α), (∀ f ∈ fs, f.length = n * 128) → u.length = 128 → sumC n fs u k = k (sumN n fs u)
  | [], u, k, _, _ => rfl
  | f :: fs, u, k, h, hu => by
    have hf := h f (List.mem_cons_self ..)
    have hq := qgN_len (j := n - 1) hf (by omega)
    have e : sumC n (f :: fs) u k = pgC f (Nat.sub n 1) fun g => zx u g fun u => sumC n fs u k := rfl
    rw [e, show Nat.sub n 1 = n - 1 from rfl, pgC_eq _ hf (by omega), zx_eq _ _ _ (by omega), sumC_eq hn fs _ k (fun g hg => h g (List.mem_cons_of_mem _ hg)) (zip_len hu hq)]
    rfl
theorem sum_zc {n : Nat} (hn : 0 < n) {fs : List (List Nat)} (h4 : fs.length = 4) (h : ∀ f ∈ fs, f.length = n * 128) : sumS n (zcc fs) 4 = zc (sumN n fs zeros) := by
  match fs, h4 with
  | [f0, f1, f2, f3], _ =>
    have h0 := qgN_len (j := n - 1) (h f0 (by simp)) (by omega)
    have h1 := qgN_len (j := n - 1) (h f1 (by simp)) (by omega)
    have h2 := qgN_len (j := n - 1) (h f2 (by simp)) (by omega)
    have h3 := qgN_len (j := n - 1) (h f3 (by simp)) (by omega)
    have hz : List.replicate 128 (0 : Int) = zc zeros := by unfold zeros; rw [zc_rep]; rfl
    have hzl : zeros.length = 128 := rfl
    simp only [sumS, zcc_getD, page_zcf]
    rw [hz, show [f0, f1, f2, f3].getD 0 [] = f0 from rfl, show [f0, f1, f2, f3].getD 1 [] = f1 from rfl, show [f0, f1, f2, f3].getD 2 [] = f2 from rfl, show [f0, f1, f2, f3].getD 3 [] = f3 from rfl]
    rw [xorK_zc hzl h0, xorK_zc (zip_len hzl h0) h1, xorK_zc (zip_len (zip_len hzl h0) h1) h2, xorK_zc (zip_len (zip_len (zip_len hzl h0) h1) h2) h3]
    rfl
theorem sumN_len {n : Nat} (hn : 0 < n) : ∀ (fs : List (List Nat)) (u : List Nat), (∀ f ∈ fs, f.length = n * 128) → u.length = 128 → (sumN n fs u).length = 128
  | [], u, _, hu => hu
  | f :: fs, u, h, hu => sumN_len hn fs _ (fun g hg => h g (List.mem_cons_of_mem _ hg)) (zip_len hu (qgN_len (h f (List.mem_cons_self ..)) (by omega)))
noncomputable def lastN (sd : List Nat) : List Nat := bytesN (sumN 8 (passesN 3 4 2 (lanes0 sd (List.replicate 768 0) 0 4) 3) zeros)
theorem keyT_zc {sd : List Nat} (h : BtN sd) : keyT 3 4 2 (zc sd) = zc (lastN sd) := by
  have hg := passesN_good (t := 3) (show 2 ≤ 2 by omega) (lanes0_good sd) 3
  have hp := passes_zc (t := 3) (show 2 ≤ 2 by omega) (lanes0_good sd) 3
  have e8 : 4 * 2 = 8 := rfl
  unfold keyT lastN
  rw [pageB_eq, e8, begin_zc h, hp, sum_zc (by decide) hg.len hg.lane]
  have hl := sumN_len (n := 8) (by decide) _ zeros hg.lane rfl
  unfold bytesP
  rw [bytes_zc (by rw [hl]; decide), List.take_of_length_le (by rw [bytesN_len, hl]; decide)]
noncomputable def keyN : List Nat := hashN 32 1028 ([32, 0, 0, 0] ++ lastN (hashN 64 108 textN))
theorem keyC_eq {α : Type} (k : List Nat → α) : keyC textN 108 k = k keyN := by
  have hs : (hashN 64 108 textN).length = 64 := hashN_len (Nat.le_refl _) _ _
  obtain ⟨sd, hsd⟩ : ∃ sd, hashN 64 108 textN = sd := ⟨_, rfl⟩
  rw [hsd] at hs
  have hg := passesN_good (t := 3) (show 2 ≤ 2 by omega) (lanes0_good sd) 3
  unfold keyC keyN
  rw [allC_eq, hashC_eq _ (Nat.le_refl _) (show textN.length = 108 from rfl), hsd, allC_eq, beginC_eq hs]
  have h2 := passC_eq (t := 3) (show 2 ≤ 2 by omega) (lanes0_good sd) (fun fs => allC zeros fun u => sumC 8 fs u fun u => bytesC u fun b => hashC 32 1028 ([32, 0, 0, 0] ++ b) k) 3 0
  refine Eq.trans h2 ?_
  rw [Nat.zero_add, allC_eq, sumC_eq (by decide) _ _ _ hg.lane rfl, bytesC_eq, hashC_eq _ (by decide) ?_]
  · rfl
  · rw [List.length_append, bytesN_len, sumN_len (by decide) _ zeros hg.lane rfl]; rfl
end Go.Proofs.Ytfnfmbikooeiaaa

namespace Go.Proofs.Ytfnfmbikooeiaaa
open Go.Ax Go.Kn
noncomputable def chk (k : List Nat) : Bool := Bool.and (Nat.beq (gt k 0) 13) (Bool.and (Nat.beq (gt k 1) 100) (Bool.and (Nat.beq (gt k 2) 13) (Bool.and (Nat.beq (gt k 30) 230) (Nat.beq (gt k 31) 89))))
theorem key_kernel : keyC textN 108 (fun k => chk k) = true := by decide +kernel
theorem chk_at (k : List Nat) (h : chk k = true) : k.getD 0 0 = 13 ∧ k.getD 1 0 = 100 ∧ k.getD 2 0 = 13 ∧ k.getD 30 0 = 230 ∧ k.getD 31 0 = 89 := by
  have h : (Nat.beq (gt k 0) 13 && (Nat.beq (gt k 1) 100 && (Nat.beq (gt k 2) 13 && (Nat.beq (gt k 30) 230 && Nat.beq (gt k 31) 89)))) = true := h
  simp only [Bool.and_eq_true, Nat.beq_eq, gt_eq] at h
  exact h
theorem keyN_chk : chk keyN = true := (keyC_eq (fun k => chk k)).symm.trans key_kernel
theorem keyN_at : keyN.getD 0 0 = 13 ∧ keyN.getD 1 0 = 100 ∧ keyN.getD 2 0 = 13 ∧ keyN.getD 30 0 = 230 ∧ keyN.getD 31 0 = 89 := chk_at _ keyN_chk
end Go.Proofs.Ytfnfmbikooeiaaa

namespace Go.Proofs.Ytfnfmbikooeiaaa
open Go.Ax
noncomputable def keyV (n t m l : Int) (a b c d : List Int) : List Int := Classical.choose (p := fun x => x = longL n.toNat (le4 n ++ keyT t.toNat l.toNat (m.toNat / (4 * l.toNat)) (seedL n t m l a b c d))) ⟨_, rfl⟩
theorem keyV_eq (n t m l : Int) (a b c d : List Int) : keyV n t m l a b c d = longL n.toNat (le4 n ++ keyT t.toNat l.toNat (m.toNat / (4 * l.toNat)) (seedL n t m l a b c d)) :=
  Classical.choose_spec (p := fun x => x = longL n.toNat (le4 n ++ keyT t.toNat l.toNat (m.toNat / (4 * l.toNat)) (seedL n t m l a b c d))) ⟨_, rfl⟩
theorem longL_len2 (n : Nat) (all : List Int) : (longL n all).length = n := by
  unfold longL
  split
  · rw [blakeL_len]
  · rw [List.length_append, out64_len, blakeL_len]
    try omega
theorem keyV_len (n t m l : Int) (a b c d : List Int) : (keyV n t m l a b c d).length = n.toNat := by rw [keyV_eq, longL_len2]
noncomputable def N44 (h : List Blk) : List AV → Option Out
  | [.v (.int .i64 n), .agg [.v (.int .i64 t), .v (.int .i64 m), .v (.int .i64 l)], .agg [x, y, z, u]] =>
    (u8Of h x).bind fun a => (u8Of h y).bind fun b => (u8Of h z).bind fun c => (u8Of h u).bind fun d =>
      osel (okS n t m l a b c d) (some (.cap 0 fun k => (.tup [.sl h.length 0 1 0 n.toNat k, .v (.int .i64 0)], h ++ [some [.arr n.toNat .u8 (keyV n t m l a b c d)]])))
        (some (.one (.tup [.v (.slice none 0 0), .v (.int .i64 80)]) h))
  | _ => none
theorem N44_eq (h : List Blk) (n t m l : Int) (x y z u : AV) : N44 h [.v (.int .i64 n), .agg [.v (.int .i64 t), .v (.int .i64 m), .v (.int .i64 l)], .agg [x, y, z, u]] =
    (u8Of h x).bind fun a => (u8Of h y).bind fun b => (u8Of h z).bind fun c => (u8Of h u).bind fun d =>
      osel (okS n t m l a b c d) (some (.cap 0 fun k => (.tup [.sl h.length 0 1 0 n.toNat k, .v (.int .i64 0)], h ++ [some [.arr n.toNat .u8 (keyV n t m l a b c d)]])))
        (some (.one (.tup [.v (.slice none 0 0), .v (.int .i64 80)]) h)) := rfl
theorem key_use {f : FuncId} (bad : ∀ (n t m l : Int) (a b c d : List Int), okS n t m l a b c d = false → ACall Try.prog f [.v (.int .i64 n), .agg [.v (.int .i64 t), .v (.int .i64 m), .v (.int .i64 l)], .agg [.roI .u8 a, .roI .u8 b, .roI .u8 c, .roI .u8 d]] [] fun v h' => v = .tup [.v (.slice none 0 0), .v (.int .i64 80)] ∧ h' = [])
    (ok : ∀ (n t m l : Int) (a b c d : List Int), okS n t m l a b c d = true → ACall Try.prog f [.v (.int .i64 n), .agg [.v (.int .i64 t), .v (.int .i64 m), .v (.int .i64 l)], .agg [.roI .u8 a, .roI .u8 b, .roI .u8 c, .roI .u8 d]] [] fun v h' => ∃ c0, v = .tup [.sl 0 0 1 0 n.toNat c0, .v (.int .i64 0)] ∧ h' = [some [.arr n.toNat .u8 (keyV n t m l a b c d)]]) :
    ∀ (h : List Blk) (args : List AV) (out : Out), N44 h args = some out → (out.all fun _ h' => ∃ ext, h' = h ++ ext) ∧ ∀ κ, out.all κ → ACall Try.prog f args h κ := by
  intro h args out hN
  unfold N44 at hN
  split at hN
  · rename_i n t m l x y z u
    obtain ⟨a, ha, hN⟩ := Option.bind_eq_some_iff.1 hN
    obtain ⟨b, hb, hN⟩ := Option.bind_eq_some_iff.1 hN
    obtain ⟨c, hc, hN⟩ := Option.bind_eq_some_iff.1 hN
    obtain ⟨d, hd, hN⟩ := Option.bind_eq_some_iff.1 hN
    cases hk : okS n t m l a b c d with
    | true =>
      rw [osel_pos hk] at hN
      cases hN
      refine ⟨fun c _ => ⟨_, rfl⟩, fun κ hκ => news_ok (args := [.v (.int .i64 n), .agg [.v (.int .i64 t), .v (.int .i64 m), .v (.int .i64 l)], .agg [x, y, z, u]]) (ok n t m l a b c d hk) (by rintro _ _ ⟨c, rfl, rfl⟩; exact ⟨rfl, rfl⟩) (fun g => rfl) ⟨Frz.same _, Frz.same _, sec_frz ha hb hc hd, trivial⟩ ?_ hκ⟩
      rintro _ _ ⟨c0, rfl, rfl⟩
      exact ⟨c0, Nat.zero_le _, rfl⟩
    | false =>
      rw [osel_neg hk] at hN
      cases hN
      refine ⟨⟨[], by simp⟩, fun κ hκ => news_ok (args := [.v (.int .i64 n), .agg [.v (.int .i64 t), .v (.int .i64 m), .v (.int .i64 l)], .agg [x, y, z, u]]) (bad n t m l a b c d hk) (by rintro _ _ ⟨rfl, rfl⟩; exact ⟨rfl, rfl⟩) (fun g => rfl) ⟨Frz.same _, Frz.same _, sec_frz ha hb hc hd, trivial⟩ ?_ hκ⟩
      rintro _ _ ⟨rfl, rfl⟩
      exact ⟨rfl, by simp⟩
  · cases hN
theorem key_int {f : FuncId} (ok : ∀ (n t m L : Nat) (a b c d : List Int), okS n t m L a b c d = true →
    ACall Try.prog f [.v (.int .i64 n), .agg [.v (.int .i64 t), .v (.int .i64 m), .v (.int .i64 L)], .agg [.roI .u8 a, .roI .u8 b, .roI .u8 c, .roI .u8 d]] [] fun v h' => ∃ k, v = .tup [.sl 0 0 1 0 n k, .v (.int .i64 0)] ∧ h' = [some [.arr n .u8 (longL n (le4 n ++ keyT t L (m / (4 * L)) (seedL n t m L a b c d)))]])
    (n t m l : Int) (a b c d : List Int) (h : okS n t m l a b c d = true) :
    ACall Try.prog f [.v (.int .i64 n), .agg [.v (.int .i64 t), .v (.int .i64 m), .v (.int .i64 l)], .agg [.roI .u8 a, .roI .u8 b, .roI .u8 c, .roI .u8 d]] [] fun v h' => ∃ c0, v = .tup [.sl 0 0 1 0 n.toNat c0, .v (.int .i64 0)] ∧ h' = [some [.arr n.toNat .u8 (keyV n t m l a b c d)]] := by
  have hk := okS_iff.1 h
  have hp := okP_iff.1 hk.2.2.1
  obtain ⟨n, rfl⟩ := Int.eq_ofNat_of_zero_le (show 0 ≤ n by omega)
  obtain ⟨t, rfl⟩ := Int.eq_ofNat_of_zero_le (show 0 ≤ t by omega)
  obtain ⟨m, rfl⟩ := Int.eq_ofNat_of_zero_le (show 0 ≤ m by omega)
  obtain ⟨l, rfl⟩ := Int.eq_ofNat_of_zero_le (show 0 ≤ l by omega)
  have h2 := ok n t m l a b c d h
  rw [keyV_eq]
  simp only [Int.toNat_natCast]
  exact h2
noncomputable def n28 : FuncId → Option (List Blk → List AV → Option Out) := addNews n26 44 N44
noncomputable def c28 (k : Nat) : Cfg := ⟨Try.prog, k, p23, [], n28, none, []⟩
theorem c28_odd (k : Nat) : (c28 k).odd = [] := rfl
theorem c28_ro (k : Nat) : (c28 k).ro = [] := rfl
theorem c28_P (k : Nat) : (c28 k).P = Try.prog := rfl
theorem c28_pure (k : Nat) : (c28 k).pure = p23 := rfl
theorem c28_news (k : Nat) : (c28 k).news = n28 := rfl
theorem xc28 :
  (type_of% @Go.Proofs.Ytfnfmbikooeiaaa.c28_pure) ∧
  (type_of% @Go.Proofs.Ytfnfmbikooeiaaa.c28_news) ∧
  (type_of% @n28.eq_1) ∧
  (type_of% @Go.Proofs.Ytfnfmbikooeiaaa.N44_eq) :=
  ⟨@Go.Proofs.Ytfnfmbikooeiaaa.c28_pure, @Go.Proofs.Ytfnfmbikooeiaaa.c28_news, @n28.eq_1, @Go.Proofs.Ytfnfmbikooeiaaa.N44_eq⟩
theorem go28 {F A B : Prop} (f : F) (b : B) (h : F → A = B := by intro f; (repeat (first | simp only [c28_P, c28_odd, c28_ro, Nat.reduceBEq, reduceIte, Nat.reduceEqDiff, reduceCtorEq, ne_eq, if_true, if_false, exA, exA, tabs, exB, exD, buildA, rowOr, rowSetAt, rowAgg, mkAgg, AV.isAggV, AV.parts, AV.one, AV.solid, headSize, indexAddrA, indexA, fieldAddrA, fieldA, sliceA, boundsA, bndA, lenA, arrayAtA, rowOf, makeSliceA, intsOf, copyA, Nat.reduceAdd, Nat.reduceSub, Nat.reduceMul, Nat.reduceLeDiff, Nat.reduceLT, Nat.reduceGT, Int.reduceToNat, Int.reduceLE, Int.reduceLT, Int.reduceEq, Int.reduceNe, Int.reduceAdd, Int.reduceSub, Int.reduceMul, Int.reduceNeg, ite_true, ite_false, dite_true, xc10, xc11, xc12, xc13, xc14, xc15, xc16, xc17, xc20, xc21, xc22, xc23, xc24, xc25, xc26, xc28, run_range, exR, f] | simp (maxSteps := 1000000) (disch := omega) only [exE, Int.toNat_natCast, Int.reduceToNat])); all_goals rfl) : A := Eq.mpr (h f) b
theorem good28 (k : Nat) : (c28 k).Good := Cfg.Good.addN (good26 k) (key_use key_bad (key_int key_ok)) k
end Go.Proofs.Ytfnfmbikooeiaaa

namespace Go.Proofs.Ytfnfmbikooeiaaa
open Go.Ax Go.Kn
theorem text_zc : seedT 32 3 32 4 (List.replicate 32 1) (List.replicate 16 2) (List.replicate 8 3) (List.replicate 12 4) = zc textN := by decide +kernel
theorem text_len : textN.length = 108 := by decide +kernel
theorem text_at : ∀ j, j < 108 → textN.getD j 0 < 256 := by decide +kernel
theorem text_bt : BtN textN := by
  intro i
  rcases Nat.lt_or_ge i 108 with h | h
  · exact text_at i h
  · rw [List.getD_eq_getElem?_getD, List.getElem?_eq_none (by rw [text_len]; exact h)]; decide
theorem seed_zc : seedL 32 3 32 4 (List.replicate 32 1) (List.replicate 16 2) (List.replicate 8 3) (List.replicate 12 4) = zc (hashN 64 108 textN) := by
  unfold seedL
  rw [text_zc, blake_zc (Nat.le_refl _) text_bt, text_len]
theorem last_len (sd : List Nat) : (lastN sd).length = 1024 := by
  have hg := passesN_good (t := 3) (show 2 ≤ 2 by omega) (lanes0_good sd) 3
  unfold lastN
  rw [bytesN_len, sumN_len (by decide) _ zeros hg.lane rfl]
theorem last_bt (sd : List Nat) : BtN (lastN sd) := by unfold lastN; exact bytesN_bt _
theorem pre_bt : BtN [32, 0, 0, 0] := by
  intro i
  match i with
  | 0 => decide
  | 1 => decide
  | 2 => decide
  | 3 => decide
  | i + 4 => show ([] : List Nat).getD i 0 < 256; simp
theorem pre_len (l : List Nat) (h : l.length = 1024) : ([32, 0, 0, 0] ++ l).length = 1028 := by rw [List.length_append, h]; rfl
theorem le4_32 : le4 32 = zc [32, 0, 0, 0] := by decide +kernel
theorem last_key (l : List Nat) (hl : l.length = 1024) (hb : BtN l) : longL 32 (le4 32 ++ zc l) = zc (hashN 32 1028 ([32, 0, 0, 0] ++ l)) := by
  rw [le4_32, ← zc_app, longL_zc (by decide) (pre_bt.app hb), pre_len l hl]
theorem keyV_32 (a b c d : List Int) : keyV 32 3 32 4 a b c d = longL 32 (le4 32 ++ keyT 3 4 2 (seedL 32 3 32 4 a b c d)) := by
  have e := keyV_eq 32 3 32 4 a b c d
  have hd : (32 : Int).toNat / (4 * (4 : Int).toNat) = 2 := by decide
  rw [hd] at e
  exact e
theorem keyV_lives : keyV 32 3 32 4 (List.replicate 32 1) (List.replicate 16 2) (List.replicate 8 3) (List.replicate 12 4) = zc keyN := by
  unfold keyN
  rw [keyV_32, seed_zc, keyT_zc (hashN_bt _ _ _), last_key _ (last_len _) (last_bt _)]
end Go.Proofs.Ytfnfmbikooeiaaa

namespace Go.Proofs.Ytfnfmbikooeiaaa
open Go.Ax Go.Kn
theorem argon_lives : ACall Try.prog 46 [] [] fun v _ => v = .v (.bool true) := by
  have hok : okS 32 3 32 4 (List.replicate 32 1) (List.replicate 16 2) (List.replicate 8 3) (List.replicate 12 4) = true := by decide
  obtain ⟨K, hK⟩ : ∃ K, keyV 32 3 32 4 (List.replicate 32 1) (List.replicate 16 2) (List.replicate 8 3) (List.replicate 12 4) = K := ⟨_, rfl⟩
  have hKe : K = zc keyN := by rw [← hK, keyV_lives]
  have hKl : K.length = 32 := by rw [← hK, keyV_len]; rfl
  have a0 : K.getD 0 0 = 13 := by rw [hKe, zc_getD, keyN_at.1]; rfl
  have a1 : K.getD 1 0 = 100 := by rw [hKe, zc_getD, keyN_at.2.1]; rfl
  have a2 : K.getD 2 0 = 13 := by rw [hKe, zc_getD, keyN_at.2.2.1]; rfl
  have a3 : K.getD 30 0 = 230 := by rw [hKe, zc_getD, keyN_at.2.2.2.1]; rfl
  have a4 : K.getD 31 0 = 89 := by rw [hKe, zc_getD, keyN_at.2.2.2.2]; rfl
  have e80 : errP (okP 0 0 0) = 80 := rfl
  have t1 : List.take 32 (List.replicate 32 (1 : Int)) = List.replicate 32 1 := rfl
  have t2 : List.take 16 (List.replicate 16 (2 : Int)) = List.replicate 16 2 := rfl
  have t3 : List.take 8 (List.replicate 8 (3 : Int)) = List.replicate 8 3 := rfl
  have t4 : List.take 12 (List.replicate 12 (4 : Int)) = List.replicate 12 4 := rfl
  refine bd (good28 0) Try.func46 ?_
  refine go28 (an hok (an t1 (an t2 (an t3 (an t4 (an hK (an hKl (an a0 (an a1 (an a2 (an a3 (an a4 e80)))))))))))) ?_
  intro k _
  exact go28 (an hok (an t1 (an t2 (an t3 (an t4 (an hK (an hKl (an a0 (an a1 (an a2 (an a3 (an a4 e80)))))))))))) trivial
def F46 : List AV → Option AV
  | [] => some (.v (.bool true))
  | _ => none
theorem F46_eq : F46 [] = some (.v (.bool true)) := rfl
noncomputable def p29 : FuncId → Option (List AV → Option AV) := addPure p23 46 F46
noncomputable def c29 (k : Nat) : Cfg := ⟨Try.prog, k, p29, [], n28, none, []⟩
theorem c29_odd (k : Nat) : (c29 k).odd = [] := rfl
theorem c29_ro (k : Nat) : (c29 k).ro = [] := rfl
theorem c29_P (k : Nat) : (c29 k).P = Try.prog := rfl
theorem c29_pure (k : Nat) : (c29 k).pure = p29 := rfl
theorem c29_news (k : Nat) : (c29 k).news = n28 := rfl
theorem xc29 :
  (type_of% @Go.Proofs.Ytfnfmbikooeiaaa.c29_pure) ∧
  (type_of% @Go.Proofs.Ytfnfmbikooeiaaa.c29_news) ∧
  (type_of% @p29.eq_1) ∧
  (type_of% @Go.Proofs.Ytfnfmbikooeiaaa.F46_eq) :=
  ⟨@Go.Proofs.Ytfnfmbikooeiaaa.c29_pure, @Go.Proofs.Ytfnfmbikooeiaaa.c29_news, @p29.eq_1, @Go.Proofs.Ytfnfmbikooeiaaa.F46_eq⟩
theorem go29 {F A B : Prop} (f : F) (b : B) (h : F → A = B := by intro f; (repeat (first | simp only [c29_P, c29_odd, c29_ro, Nat.reduceBEq, reduceIte, Nat.reduceEqDiff, reduceCtorEq, ne_eq, if_true, if_false, exA, exA, tabs, exB, exD, buildA, rowOr, rowSetAt, rowAgg, mkAgg, AV.isAggV, AV.parts, AV.one, AV.solid, headSize, indexAddrA, indexA, fieldAddrA, fieldA, sliceA, boundsA, bndA, lenA, arrayAtA, rowOf, makeSliceA, intsOf, copyA, Nat.reduceAdd, Nat.reduceSub, Nat.reduceMul, Nat.reduceLeDiff, Nat.reduceLT, Nat.reduceGT, Int.reduceToNat, Int.reduceLE, Int.reduceLT, Int.reduceEq, Int.reduceNe, Int.reduceAdd, Int.reduceSub, Int.reduceMul, Int.reduceNeg, ite_true, ite_false, dite_true, xc10, xc11, xc12, xc13, xc14, xc15, xc16, xc17, xc20, xc21, xc22, xc23, xc24, xc25, xc26, xc28, xc29, run_range, exR, f] | simp (maxSteps := 1000000) (disch := omega) only [exE, Int.toNat_natCast, Int.reduceToNat])); all_goals rfl) : A := Eq.mpr (h f) b
theorem good29 (k : Nat) : (c29 k).Good := by
  refine Cfg.Good.add (good28 k) ?_ k
  intro args v hF h κ hκ
  unfold F46 at hF
  split at hF
  · cases hF
    exact pure_call argon_lives (fun g => rfl) (fun g => rfl) h κ hκ
  · cases hF
theorem bytes_dec (l : List Int) (h : l.length = 64) : l.take 64 = l := List.take_of_length_le (by omega)
theorem seedL_len (n t m l : Int) (a b c d : List Int) : (seedL n t m l a b c d).length = 64 := by unfold seedL; rw [blakeL_len]
theorem law_seeds (n t m l : Int) (a b c d : List Int) :
    ACall Try.prog 17 [.v (.int .i64 n), .agg [.v (.int .i64 t), .v (.int .i64 m), .v (.int .i64 l)], .agg [.roI .u8 a, .roI .u8 b, .roI .u8 c, .roI .u8 d]] [] fun v _ => v = .v (.bool true) := by
  obtain ⟨S, hS⟩ : ∃ S, seedL n t m l a b c d = S := ⟨_, rfl⟩
  have hSl : S.length = 64 := by rw [← hS, seedL_len]
  have hSt := bytes_dec S hSl
  cases hk : okS n t m l a b c d with
  | true =>
    refine bd (good29 0) Try.func17 ?_
    refine go29 (an hk hS) ?_
    intro k1 _
    refine go29 (an hk hS) ?_
    intro k2 _
    exact go29 (an hk (an hS (an hSl hSt))) trivial
  | false =>
    refine bd (good29 0) Try.func17 ?_
    exact go29 hk trivial
theorem law_again (n : Int) (a b c d : List Int) :
    ACall Try.prog 18 [.v (.int .i64 n), .agg [.roI .u8 a, .roI .u8 b, .roI .u8 c, .roI .u8 d]] [] fun v _ => v = .v (.bool true) := by
  obtain ⟨S, hS⟩ : ∃ S, keyV n 1 8 1 a b c d = S := ⟨_, rfl⟩
  have hSl : S.length = n.toNat := by rw [← hS, keyV_len]
  have hSt : List.take n.toNat S = S := List.take_of_length_le (by omega)
  cases hk : okS n 1 8 1 a b c d with
  | true =>
    refine bd (good29 0) Try.func18 ?_
    refine go29 (an hk hS) ?_
    intro k1 _
    refine go29 (an hk hS) ?_
    intro k2 _
    exact go29 (an hk (an hS (an hSl hSt))) trivial
  | false =>
    refine bd (good29 0) Try.func18 ?_
    exact go29 hk trivial
theorem law_counts (n t m l : Int) (a b c d : List Int) :
    ACall Try.prog 19 [.v (.int .i64 n), .agg [.v (.int .i64 t), .v (.int .i64 m), .v (.int .i64 l)], .agg [.roI .u8 a, .roI .u8 b, .roI .u8 c, .roI .u8 d]] [] fun v _ => v = .v (.bool true) := by
  have h0 : okS n 0 0 0 a b c d = false := by simp [okS, okP]
  cases hp : okP t m l with
  | false =>
    have he : errP false = 80 := rfl
    have hpg : pgN t m l = 0 := by unfold pgN; rw [if_neg (by rw [hp]; decide)]
    have hk : okS n t m l a b c d = false := by simp [okS, hp]
    refine bd (good29 0) Try.func19 ?_
    exact go29 (an hk (an h0 (an hp (an he hpg)))) trivial
  | true =>
    have he : errP true = 0 := rfl
    have hb := okP_iff.1 hp
    obtain ⟨t, rfl⟩ := Int.eq_ofNat_of_zero_le (show 0 ≤ t by omega)
    obtain ⟨m, rfl⟩ := Int.eq_ofNat_of_zero_le (show 0 ≤ m by omega)
    obtain ⟨l, rfl⟩ := Int.eq_ofNat_of_zero_le (show 0 ≤ l by omega)
    obtain ⟨q, hq⟩ : ∃ q, m / (4 * l) = q := ⟨_, rfl⟩
    obtain ⟨k, hkk⟩ : ∃ k, q * (4 * l) = k := ⟨_, rfl⟩
    have hpg : pgN t m l = (k : Int) := by
      unfold pgN; rw [if_pos hp]; simp only [Int.toNat_natCast]
      rw [hq, ← hkk, Nat.mul_assoc]
    have hm := Nat.div_add_mod m (4 * l)
    have hml : m % (4 * l) < 4 * l := Nat.mod_lt _ (by omega)
    rw [hq, Nat.mul_comm, hkk] at hm
    have hq1 : 1 ≤ q := by rw [← hq, Nat.le_div_iff_mul_le (by omega)]; omega
    have hk1 : 1 * (4 * l) ≤ k := by rw [← hkk]; exact Nat.mul_le_mul_right _ hq1
    have w4 : IntKind.i64.wrap (4 * (l : Int)) = ((4 * l : Nat) : Int) := by rw [wrap_i64_id _ (by omega)]; omega
    have hl0 : (((4 * l : Nat) : Int) = 0) = False := by simp; omega
    have hmd : ((k : Int)).tmod ((4 * l : Nat) : Int) = 0 := by rw [← Int.ofNat_tmod, ← hkk, Nat.mul_mod_left]; rfl
    have wk : IntKind.i64.wrap ((m : Int) - (k : Int)) = (m : Int) - (k : Int) := wrap_i64_id _ (by omega)
    have c1 : ((0 : Int) < (k : Int)) = True := by simp; omega
    have c2 : ((k : Int) ≤ (m : Int)) = True := by simp; omega
    have c3 : (((m : Int) - (k : Int)) < ((4 * l : Nat) : Int)) = True := by simp; omega
    cases hk : okS n t m l a b c d with
    | true =>
      refine bd (good29 0) Try.func19 ?_
      simp only [c29_P, c29_odd, c29_ro, Nat.reduceBEq, reduceIte, Nat.reduceEqDiff, reduceCtorEq, ne_eq, if_true, if_false, exA, exA, tabs, exB, exD, buildA, rowOr, rowSetAt, rowAgg, mkAgg, AV.isAggV, AV.parts, AV.one, AV.solid, headSize, indexAddrA, indexA, fieldAddrA, fieldA, sliceA, boundsA, bndA, lenA, arrayAtA, rowOf, makeSliceA, intsOf, copyA, Nat.reduceAdd, Nat.reduceSub, Nat.reduceMul, Nat.reduceLeDiff, Nat.reduceLT, Nat.reduceGT, Int.reduceToNat, Int.reduceLE, Int.reduceLT, Int.reduceEq, Int.reduceNe, Int.reduceAdd, Int.reduceSub, Int.reduceMul, Int.reduceNeg, ite_true, ite_false, dite_true, xc10, xc11, xc12, xc13, xc14, xc15, xc16, xc17, xc20, xc21, xc22, xc23, xc24, xc25, xc26, xc28, xc29, run_range, exR, hk, h0, hp, he, hpg, w4, hl0, hmd, wk, c1, c2, c3]
      intro k1 _
      simp only [c29_P, c29_odd, c29_ro, Nat.reduceBEq, reduceIte, Nat.reduceEqDiff, reduceCtorEq, ne_eq, if_true, if_false, exA, exA, tabs, exB, exD, buildA, rowOr, rowSetAt, rowAgg, mkAgg, AV.isAggV, AV.parts, AV.one, AV.solid, headSize, indexAddrA, indexA, fieldAddrA, fieldA, sliceA, boundsA, bndA, lenA, arrayAtA, rowOf, makeSliceA, intsOf, copyA, Nat.reduceAdd, Nat.reduceSub, Nat.reduceMul, Nat.reduceLeDiff, Nat.reduceLT, Nat.reduceGT, Int.reduceToNat, Int.reduceLE, Int.reduceLT, Int.reduceEq, Int.reduceNe, Int.reduceAdd, Int.reduceSub, Int.reduceMul, Int.reduceNeg, ite_true, ite_false, dite_true, xc10, xc11, xc12, xc13, xc14, xc15, xc16, xc17, xc20, xc21, xc22, xc23, xc24, xc25, xc26, xc28, xc29, run_range, exR, hk, h0, hp, he, hpg, w4, hl0, hmd, wk, c1, c2, c3]
    | false =>
      refine bd (good29 0) Try.func19 ?_
      simp only [c29_P, c29_odd, c29_ro, Nat.reduceBEq, reduceIte, Nat.reduceEqDiff, reduceCtorEq, ne_eq, if_true, if_false, exA, exA, tabs, exB, exD, buildA, rowOr, rowSetAt, rowAgg, mkAgg, AV.isAggV, AV.parts, AV.one, AV.solid, headSize, indexAddrA, indexA, fieldAddrA, fieldA, sliceA, boundsA, bndA, lenA, arrayAtA, rowOf, makeSliceA, intsOf, copyA, Nat.reduceAdd, Nat.reduceSub, Nat.reduceMul, Nat.reduceLeDiff, Nat.reduceLT, Nat.reduceGT, Int.reduceToNat, Int.reduceLE, Int.reduceLT, Int.reduceEq, Int.reduceNe, Int.reduceAdd, Int.reduceSub, Int.reduceMul, Int.reduceNeg, ite_true, ite_false, dite_true, xc10, xc11, xc12, xc13, xc14, xc15, xc16, xc17, xc20, xc21, xc22, xc23, xc24, xc25, xc26, xc28, xc29, run_range, exR, hk, h0, hp, he, hpg, w4, hl0, hmd, wk, c1, c2, c3]
end Go.Proofs.Ytfnfmbikooeiaaa

namespace Go.Proofs.Ytfnfmbikooeiaaa
open Go.Ax
def rOth (pass slice lane i part L w : Nat) : Nat := 4 * part * oLane pass slice lane L w + oIdx pass slice lane i part L w
theorem oIdx_begin (part b s x : Nat) (h : b = s % 4 * part) (hp : 0 < part) : (b + x) % (4 * part) = (s * part + x) % (4 * part) := by
  have h1 : s * part = s % 4 * part + 4 * part * (s / 4) := by
    have h2 := Nat.mod_add_div s 4
    calc s * part = (s % 4 + 4 * (s / 4)) * part := by rw [h2]
      _ = s % 4 * part + 4 * (s / 4) * part := Nat.add_mul _ _ _
      _ = s % 4 * part + 4 * part * (s / 4) := by rw [Nat.mul_assoc, Nat.mul_comm (s / 4) part, ← Nat.mul_assoc]
  rw [h1, h, Nat.add_right_comm, Nat.add_mul_mod_self_left]
theorem rother_a (pass slice lane i t L part q w sp bp ol D Bg x y : Nat) (m : Int) (hq : q = 4 * part) (hsp : sp = slice * part) (hbp : bp = (slice + 1) % 4 * part)
    (h1 : pass ≤ 7) (h2 : slice < 4) (h3 : lane < L) (h4 : i < part) (hL : 1 ≤ L ∧ L ≤ 4) (h5 : t ≤ 8) (h7 : 2 ≤ part ∧ part ≤ 64) (h8 : pass = 0 → slice = 0 → 2 ≤ i) (hw : w < 18446744073709551616)
    (hol : ol = if pass = 0 ∧ slice = 0 then lane else w / 4294967296 % L)
    (hD : D = if ol = lane then (if 0 < pass then 3 * part else sp) + i - 1 else if i = 0 then (if 0 < pass then 3 * part else sp) - 1 else (if 0 < pass then 3 * part else sp))
    (hB : Bg = if 0 < pass then bp else 0) (hx : x = whichN D (w % 4294967296)) (hy : y = (Bg + x) % q) :
    ACall Try.prog 79 [.rop (.agg [.v (.int .i64 t), .v (.int .i64 m), .v (.int .i64 L), .v (.int .i64 q), .any, .v (.int .i64 pass), .v (.int .i64 slice), .v (.int .i64 lane), .v (.int .i64 i)]), .v (.int .u64 w)] [] fun v _ => v = .v (.int .i64 ((q * ol + y : Nat))) := by
  have hsp1 : sp ≤ 3 * part := by rw [hsp]; exact Nat.mul_le_mul_right _ (by omega)
  have hbp1 : bp ≤ 3 * part := by rw [hbp]; exact Nat.mul_le_mul_right _ (by omega)
  have hs1 : slice ≠ 0 → part ≤ sp := by intro h; rw [hsp]; have := Nat.mul_le_mul_right part (show 1 ≤ slice by omega); omega
  have hlt : w / 4294967296 % L < L := Nat.mod_lt _ (by omega)
  have holt : ol < L := by rw [hol]; split <;> omega
  have hsh : shr .u64 (w : Int) 32 = ((w / 4294967296 : Nat) : Int) := by
    unfold shr
    rw [show (2 : Int) ^ min (32 : Int).toNat IntKind.u64.bits = ((4294967296 : Nat) : Int) from rfl, Int.fdiv_eq_ediv_of_nonneg _ (by omega)]
    omega
  have hdl : w / 4294967296 < 4294967296 := by omega
  have wc : IntKind.i64.wrap ((w / 4294967296 : Nat) : Int) = ((w / 4294967296 : Nat) : Int) := ar_nat _ (by omega)
  have hml : (((w / 4294967296 : Nat) : Int)).tmod (L : Int) = ((w / 4294967296 % L : Nat) : Int) := by rw [← Int.ofNat_tmod]
  have hl0 : ((L : Int) = 0) = False := by simp; omega
  have wpart : ((q : Int)).tdiv 4 = (part : Int) := by rw [show (4 : Int) = ((4 : Nat) : Int) from rfl, ← Int.ofNat_tdiv]; congr 1; omega
  have wsp : IntKind.i64.wrap ((slice : Int) * (part : Int)) = (sp : Int) := by rw [← Int.natCast_mul, ← hsp]; exact wrap_i64_id _ (by omega)
  have wqp : IntKind.i64.wrap ((q : Int) - (part : Int)) = ((3 * part : Nat) : Int) := by rw [wrap_i64_id _ (by omega)]; omega
  have ws1 : IntKind.i64.wrap ((slice : Int) + 1) = ((slice + 1 : Nat) : Int) := by rw [wrap_i64_id _ (by omega)]; omega
  have ws2 : (((slice + 1 : Nat) : Int)).tmod 4 = (((slice + 1) % 4 : Nat) : Int) := by rw [show (4 : Int) = ((4 : Nat) : Int) from rfl, ← Int.ofNat_tmod]
  have ws3 : IntKind.i64.wrap ((((slice + 1) % 4 : Nat) : Int) * (part : Int)) = (bp : Int) := by rw [← Int.natCast_mul, ← hbp]; exact wrap_i64_id _ (by omega)
  have hw32 : IntKind.u32.wrap (w : Int) = ((w % 4294967296 : Nat) : Int) := by
    unfold IntKind.wrap
    simp only [IntKind.bits, IntKind.signed]
    simp
  have hw33 : w % 4294967296 < 4294967296 := Nat.mod_lt _ (by omega)
  have hq0 : ((q : Int) = 0) = False := by simp; omega
  have hqo : q * ol ≤ 256 * 4 := Nat.mul_le_mul (by omega) (by omega)
  have wqo : IntKind.i64.wrap ((q : Int) * (ol : Int)) = ((q * ol : Nat) : Int) := by rw [← Int.natCast_mul]; exact wrap_i64_id _ (by omega)
  have hD1 : 1 ≤ D ∧ D ≤ 4 * part := by
    rw [hD]
    rcases Nat.eq_zero_or_pos pass with hp | hp
    · rcases Nat.eq_zero_or_pos slice with hs | hs
      · have := h8 hp hs
        have hll : ol = lane := by rw [hol, if_pos ⟨hp, hs⟩]
        rw [if_pos hll]; split <;> omega
      · have := hs1 (by omega)
        repeat' split
        all_goals omega
    · repeat' split
      all_goals omega
  have hxD : x < D := by rw [hx]; unfold whichN; omega
  have hB1 : Bg ≤ 3 * part := by rw [hB]; split <;> omega
  have wbx : IntKind.i64.wrap ((Bg : Int) + (x : Int)) = ((Bg + x : Nat) : Int) := by rw [wrap_i64_id _ (by omega)]; omega
  have wby : (((Bg + x : Nat) : Int)).tmod (q : Int) = (y : Int) := by rw [← Int.ofNat_tmod, hy]
  have hyq : y < q := by rw [hy]; exact Nat.mod_lt _ (by omega)
  have wfin : IntKind.i64.wrap (((q * ol : Nat) : Int) + (y : Int)) = ((q * ol + y : Nat) : Int) := by rw [wrap_i64_id _ (by omega)]; omega
  rcases Nat.eq_zero_or_pos pass with hp0 | hp0
  · rcases Nat.eq_zero_or_pos slice with hs0 | hs0
    · have := h8 hp0 hs0
      have hp : ((pass : Int) == 0) = true := by simp; omega
      have hg : ((0 : Int) < (pass : Int)) = False := by simp; omega
      have hs : ((slice : Int) == 0) = true := by simp; omega
      have hole : ol = lane := by rw [hol, if_pos (by omega)]
      have hb : ((lane : Int) == (lane : Int)) = true := by simp
      have hDe : D = sp + i - 1 := by rw [hD, if_pos (by omega), if_neg (by omega)]
      have wa : IntKind.i64.wrap ((sp : Int) + (i : Int)) = ((sp + i : Nat) : Int) := by rw [wrap_i64_id _ (by omega)]; omega
      have wb : IntKind.i64.wrap (((sp + i : Nat) : Int) - 1) = (D : Int) := by rw [wrap_i64_id _ (by omega)]; omega
      have hBe : Bg = 0 := by rw [hB, if_neg (by omega)]
      have hxe : whichN D (w % 4294967296) = x := hx.symm
      rw [hBe] at wbx wby
      simp only [Int.natCast_zero, Nat.zero_add] at wbx wby
      rw [hole] at wqo wfin ⊢
      have hsp0 : sp = 0 := by rw [hsp, hs0, Nat.zero_mul]
      refine bd (good26 0) Try.func79 ?_
      refine go26 (an hsh (an wc (an hml (an hl0 (an wpart (an wsp (an wqp (an ws1 (an ws2 (an ws3 (an hw32 (an hq0 (an wqo (an wbx (an wby (an wfin (an hp (an hg (an hs (an hb (an wa wb))))))))))))))))))))) ?_
      rw [← hsp]
      rw [show whichN (sp + i - 1) (w % 4294967296) = x from by rw [hx, hDe], wbx, wby, wfin]
    · have := hs1 (by omega)
      by_cases hl : ol = lane
      · have hp : ((pass : Int) == 0) = true := by simp; omega
        have hg : ((0 : Int) < (pass : Int)) = False := by simp; omega
        have hs : ((slice : Int) == 0) = false := by simp; omega
        have hole : w / 4294967296 % L = ol := by rw [hol, if_neg (by omega)]
        have hb : ((ol : Int) == (lane : Int)) = true := by simp; omega
        have hDe : D = sp + i - 1 := by rw [hD, if_pos (by omega), if_neg (by omega)]
        have wa : IntKind.i64.wrap ((sp : Int) + (i : Int)) = ((sp + i : Nat) : Int) := by rw [wrap_i64_id _ (by omega)]; omega
        have wb : IntKind.i64.wrap (((sp + i : Nat) : Int) - 1) = (D : Int) := by rw [wrap_i64_id _ (by omega)]; omega
        have hBe : Bg = 0 := by rw [hB, if_neg (by omega)]
        have hxe : whichN D (w % 4294967296) = x := hx.symm
        rw [hBe] at wbx wby
        simp only [Int.natCast_zero, Nat.zero_add] at wbx wby
        refine bd (good26 0) Try.func79 ?_
        refine go26 (an hsh (an wc (an hml (an hl0 (an wpart (an wsp (an wqp (an ws1 (an ws2 (an ws3 (an hw32 (an hq0 (an wqo (an wbx (an wby (an wfin (an hp (an hg (an hs (an hole (an hb (an wa wb)))))))))))))))))))))) ?_
        rw [← hsp]
        rw [show whichN (sp + i - 1) (w % 4294967296) = x from by rw [hx, hDe], wbx, wby, wfin]
      · by_cases hi : i = 0
        · have hp : ((pass : Int) == 0) = true := by simp; omega
          have hg : ((0 : Int) < (pass : Int)) = False := by simp; omega
          have hs : ((slice : Int) == 0) = false := by simp; omega
          have hole : w / 4294967296 % L = ol := by rw [hol, if_neg (by omega)]
          have hb : ((ol : Int) == (lane : Int)) = false := by simp; omega
          have hib : ((i : Int) == 0) = true := by simp; omega
          have hDe : D = sp - 1 := by rw [hD, if_neg (by omega), if_pos (by omega), if_neg (by omega)]
          have wb : IntKind.i64.wrap ((sp : Int) - 1) = (D : Int) := by rw [wrap_i64_id _ (by omega)]; omega
          have hBe : Bg = 0 := by rw [hB, if_neg (by omega)]
          have hxe : whichN D (w % 4294967296) = x := hx.symm
          rw [hBe] at wbx wby
          simp only [Int.natCast_zero, Nat.zero_add] at wbx wby
          refine bd (good26 0) Try.func79 ?_
          refine go26 (an hsh (an wc (an hml (an hl0 (an wpart (an wsp (an wqp (an ws1 (an ws2 (an ws3 (an hw32 (an hq0 (an wqo (an wbx (an wby (an wfin (an hp (an hg (an hs (an hole (an hb (an hib wb)))))))))))))))))))))) ?_
          rw [← hsp]
          rw [show whichN (sp - 1) (w % 4294967296) = x from by rw [hx, hDe], wbx, wby, wfin]
        · have hp : ((pass : Int) == 0) = true := by simp; omega
          have hg : ((0 : Int) < (pass : Int)) = False := by simp; omega
          have hs : ((slice : Int) == 0) = false := by simp; omega
          have hole : w / 4294967296 % L = ol := by rw [hol, if_neg (by omega)]
          have hb : ((ol : Int) == (lane : Int)) = false := by simp; omega
          have hib : ((i : Int) == 0) = false := by simp; omega
          have hDe : D = sp := by rw [hD, if_neg (by omega), if_neg (by omega), if_neg (by omega)]
          have hBe : Bg = 0 := by rw [hB, if_neg (by omega)]
          have hxe : whichN D (w % 4294967296) = x := hx.symm
          rw [hBe] at wbx wby
          simp only [Int.natCast_zero, Nat.zero_add] at wbx wby
          refine bd (good26 0) Try.func79 ?_
          refine go26 (an hsh (an wc (an hml (an hl0 (an wpart (an wsp (an wqp (an ws1 (an ws2 (an ws3 (an hw32 (an hq0 (an wqo (an wbx (an wby (an wfin (an hp (an hg (an hs (an hole (an hb (an hib hDe.symm)))))))))))))))))))))) ?_
          rw [← hsp]
          rw [show whichN (sp) (w % 4294967296) = x from by rw [hx, hDe], wbx, wby, wfin]
  · by_cases hl : ol = lane
    · have hp : ((pass : Int) == 0) = false := by simp; omega
      have hg : ((0 : Int) < (pass : Int)) = True := by simp; omega
      have hole : w / 4294967296 % L = ol := by rw [hol, if_neg (by omega)]
      have hb : ((ol : Int) == (lane : Int)) = true := by simp; omega
      have hDe : D = 3 * part + i - 1 := by rw [hD, if_pos (by omega), if_pos (by omega)]
      have wa : IntKind.i64.wrap (((3 * part : Nat) : Int) + (i : Int)) = ((3 * part + i : Nat) : Int) := by rw [wrap_i64_id _ (by omega)]; omega
      have wb : IntKind.i64.wrap (((3 * part + i : Nat) : Int) - 1) = (D : Int) := by rw [wrap_i64_id _ (by omega)]; omega
      have hBe : Bg = bp := by rw [hB, if_pos (by omega)]
      have hxe : whichN D (w % 4294967296) = x := hx.symm
      rw [hBe] at wbx wby
      refine bd (good26 0) Try.func79 ?_
      refine go26 (an hsh (an wc (an hml (an hl0 (an wpart (an wsp (an wqp (an ws1 (an ws2 (an ws3 (an hw32 (an hq0 (an wqo (an wbx (an wby (an wfin (an hp (an hg (an hole (an hb (an wa wb))))))))))))))))))))) ?_
      rw [← hbp]
      rw [show whichN (q - part + i - 1) (w % 4294967296) = x from by rw [hx, hDe]; congr 1; omega, wbx, wby, wfin]
    · by_cases hi : i = 0
      · have hp : ((pass : Int) == 0) = false := by simp; omega
        have hg : ((0 : Int) < (pass : Int)) = True := by simp; omega
        have hole : w / 4294967296 % L = ol := by rw [hol, if_neg (by omega)]
        have hb : ((ol : Int) == (lane : Int)) = false := by simp; omega
        have hib : ((i : Int) == 0) = true := by simp; omega
        have hDe : D = 3 * part - 1 := by rw [hD, if_neg (by omega), if_pos (by omega), if_pos (by omega)]
        have wb : IntKind.i64.wrap (((3 * part : Nat) : Int) - 1) = (D : Int) := by rw [wrap_i64_id _ (by omega)]; omega
        have hBe : Bg = bp := by rw [hB, if_pos (by omega)]
        have hxe : whichN D (w % 4294967296) = x := hx.symm
        rw [hBe] at wbx wby
        refine bd (good26 0) Try.func79 ?_
        refine go26 (an hsh (an wc (an hml (an hl0 (an wpart (an wsp (an wqp (an ws1 (an ws2 (an ws3 (an hw32 (an hq0 (an wqo (an wbx (an wby (an wfin (an hp (an hg (an hole (an hb (an hib wb))))))))))))))))))))) ?_
        rw [← hbp]
        rw [show whichN (q - part - 1) (w % 4294967296) = x from by rw [hx, hDe]; congr 1; omega, wbx, wby, wfin]
      · have hp : ((pass : Int) == 0) = false := by simp; omega
        have hg : ((0 : Int) < (pass : Int)) = True := by simp; omega
        have hole : w / 4294967296 % L = ol := by rw [hol, if_neg (by omega)]
        have hb : ((ol : Int) == (lane : Int)) = false := by simp; omega
        have hib : ((i : Int) == 0) = false := by simp; omega
        have hDe : D = 3 * part := by rw [hD, if_neg (by omega), if_neg (by omega), if_pos (by omega)]
        have hBe : Bg = bp := by rw [hB, if_pos (by omega)]
        have hxe : whichN D (w % 4294967296) = x := hx.symm
        rw [hBe] at wbx wby
        refine bd (good26 0) Try.func79 ?_
        refine go26 (an hsh (an wc (an hml (an hl0 (an wpart (an wsp (an wqp (an ws1 (an ws2 (an ws3 (an hw32 (an hq0 (an wqo (an wbx (an wby (an wfin (an hp (an hg (an hole (an hb (an hib hDe.symm))))))))))))))))))))) ?_
        rw [← hbp]
        rw [show whichN (q - part) (w % 4294967296) = x from by rw [hx, hDe]; congr 1; omega, wbx, wby, wfin]
end Go.Proofs.Ytfnfmbikooeiaaa

namespace Go.Proofs.Ytfnfmbikooeiaaa
open Go.Ax
theorem rother_spec (pass slice lane i t L part w : Nat) (m : Int) (h1 : pass ≤ 7) (h2 : slice < 4) (h3 : lane < L) (h4 : i < part) (hL : 1 ≤ L ∧ L ≤ 4) (h5 : t ≤ 8) (h7 : 2 ≤ part ∧ part ≤ 64) (h8 : pass = 0 → slice = 0 → 2 ≤ i) (hw : w < 18446744073709551616) :
    ACall Try.prog 79 [.rop (.agg [.v (.int .i64 t), .v (.int .i64 m), .v (.int .i64 L), .v (.int .i64 (4 * part : Nat)), .any, .v (.int .i64 pass), .v (.int .i64 slice), .v (.int .i64 lane), .v (.int .i64 i)]), .v (.int .u64 w)] [] fun v _ => v = .v (.int .i64 (rOth pass slice lane i part L w)) := by
  have h := rother_a pass slice lane i t L part (4 * part) w (slice * part) ((slice + 1) % 4 * part) _ _ _ _ _ m rfl rfl rfl h1 h2 h3 h4 hL h5 h7 h8 hw rfl rfl rfl rfl rfl
  have e : rOth pass slice lane i part L w = 4 * part * (if pass = 0 ∧ slice = 0 then lane else w / 4294967296 % L) + ((if 0 < pass then (slice + 1) % 4 * part else 0) + whichN (oDone pass slice lane i part L w) (w % 4294967296)) % (4 * part) := by
    unfold rOth oIdx oBegin
    congr 1
    split
    · exact (oIdx_begin part _ (slice + 1) _ rfl (by omega)).symm
    · rfl
  rw [e]
  exact h
noncomputable def c26w (k : Nat) : Cfg := (c26 k).withRo [24, 29, 34, 39, 44, 51, 56]
theorem c26w_odd (k : Nat) : (c26w k).odd = [] := rfl
theorem c26w_ro (k : Nat) : (c26w k).ro = [24, 29, 34, 39, 44, 51, 56] := rfl
theorem c26w_P (k : Nat) : (c26w k).P = Try.prog := rfl
theorem c26w_pure (k : Nat) : (c26w k).pure = p23 := rfl
theorem c26w_news (k : Nat) : (c26w k).news = n26 := rfl
theorem xc26w :
  (type_of% @Go.Proofs.Ytfnfmbikooeiaaa.c26w_pure) ∧
  (type_of% @Go.Proofs.Ytfnfmbikooeiaaa.c26w_news) :=
  ⟨@Go.Proofs.Ytfnfmbikooeiaaa.c26w_pure, @Go.Proofs.Ytfnfmbikooeiaaa.c26w_news⟩
theorem go26w {F A B : Prop} (f : F) (b : B) (h : F → A = B := by intro f; (repeat (first | simp only [c26w_P, c26w_odd, c26w_ro, Nat.reduceBEq, reduceIte, Nat.reduceEqDiff, reduceCtorEq, ne_eq, if_true, if_false, exA, exA, tabs, exB, exD, buildA, rowOr, rowSetAt, rowAgg, mkAgg, AV.isAggV, AV.parts, AV.one, AV.solid, headSize, indexAddrA, indexA, fieldAddrA, fieldA, sliceA, boundsA, bndA, lenA, arrayAtA, rowOf, makeSliceA, intsOf, copyA, Nat.reduceAdd, Nat.reduceSub, Nat.reduceMul, Nat.reduceLeDiff, Nat.reduceLT, Nat.reduceGT, Int.reduceToNat, Int.reduceLE, Int.reduceLT, Int.reduceEq, Int.reduceNe, Int.reduceAdd, Int.reduceSub, Int.reduceMul, Int.reduceNeg, ite_true, ite_false, dite_true, xc10, xc11, xc12, xc13, xc14, xc15, xc16, xc17, xc20, xc21, xc22, xc23, xc24, xc25, xc26, xc26w, run_range, exR, f] | simp (maxSteps := 1000000) (disch := omega) only [exE, Int.toNat_natCast, Int.reduceToNat])); all_goals rfl) : A := Eq.mpr (h f) b
theorem good26w (k : Nat) : (c26w k).Good := Cfg.Good.withRo (good26 k) _
def wordN (pass slice lane i t L part : Nat) (ah : List Int) : Int := if pass = 0 ∧ slice < 2 then (adrL pass slice lane 0 t L part).getD i 0 else ah.getD 0 0
theorem zero_nn : NonNeg (List.replicate 128 0) := fun i => (zeros_w 128 i).1
theorem rword_spec (pass slice lane i t L part : Nat) (m : Int) (ah : List Int) (h1 : pass ≤ 7) (h2 : slice < 4) (h3 : lane < L) (h4 : i < part) (hL : 1 ≤ L ∧ L ≤ 4) (h5 : t ≤ 8) (h7 : 2 ≤ part ∧ part ≤ 64) (hah : ah.length = 128) :
    ACall Try.prog 78 [.rop (.agg [.v (.int .i64 t), .v (.int .i64 m), .v (.int .i64 L), .v (.int .i64 (4 * part : Nat)), .any, .v (.int .i64 pass), .v (.int .i64 slice), .v (.int .i64 lane), .v (.int .i64 i)]), .arr 128 .u64 ah] [] fun v _ => v = .v (.int .u64 (wordN pass slice lane i t L part ah)) := by
  have hat : List.take 128 ah = ah := List.take_of_length_le (by omega)
  by_cases hp : 0 < pass
  · have hg : ((0 : Int) < (pass : Int)) = True := by simp; omega
    have hw : wordN pass slice lane i t L part ah = ah.getD 0 0 := by unfold wordN; rw [if_neg (by omega)]
    rw [hw]
    refine bd (good26w 0) Try.func78 ?_
    exact go26w (an hg (an hat hah)) trivial
  · have hg : ((0 : Int) < (pass : Int)) = False := by simp; omega
    by_cases hs : slice < 2
    · have hg2 : ((1 : Int) < (slice : Int)) = False := by simp; omega
      have hp0 : pass = 0 := by omega
      subst hp0
      have hw : wordN 0 slice lane i t L part ah = (adrL 0 slice lane 0 t L part).getD i 0 := by unfold wordN; rw [if_pos ⟨rfl, hs⟩]
      rw [hw]
      have hqL : 4 * part * L ≤ 4 * 64 * 4 := Nat.mul_le_mul (by omega) hL.2
      have w1 : IntKind.u64.wrap (lane : Int) = lane := ar_u64 _ (by omega)
      have w2 : IntKind.u64.wrap (slice : Int) = slice := ar_u64 _ (by omega)
      have w3 : IntKind.i64.wrap (((4 * part : Nat) : Int) * (L : Int)) = ((4 * part * L : Nat) : Int) := by rw [← Int.natCast_mul]; exact wrap_i64_id _ (by omega)
      have w4 : IntKind.u64.wrap ((4 * part * L : Nat) : Int) = ((4 * part * L : Nat) : Int) := ar_u64 _ (by omega)
      have w5 : IntKind.u64.wrap (t : Int) = t := ar_u64 _ (by omega)
      have w6 : ((i : Int)).tdiv 128 = 0 := by rw [show (128 : Int) = ((128 : Nat) : Int) from rfl, ← Int.ofNat_tdiv, Nat.div_eq_of_lt (by omega)]; rfl
      have w7 : ((i : Int)).tmod 128 = (i : Int) := by rw [Int.tmod_eq_of_lt (by omega) (by omega)]
      have w8 : IntKind.i64.wrap (0 + 1) = 1 := rfl
      have w9 : IntKind.u64.wrap 1 = 1 := rfl
      have w0 : IntKind.u64.wrap 0 = 0 := rfl
      have hrp : ∀ x, rpagesL (List.replicate 128 0) x = pagesL (List.replicate 128 0) x := fun x => pages_law (by simp) zero_nn
      have hpl : ∀ x, (pagesL (List.replicate 128 0) x).length = 128 := fun x => by rw [pagesL_len]; simp
      have hpt : ∀ x, List.take 128 (pagesL (List.replicate 128 0) x) = pagesL (List.replicate 128 0) x := fun x => List.take_of_length_le (by rw [hpl]; omega)
      have w00 : IntKind.i64.wrap 0 = 0 := rfl
      have hz0 : List.take 128 (List.replicate 128 (0 : Int)) = List.replicate 128 0 := rfl
      have hz : List.take 128 ((((((((List.replicate 128 (0 : Int)).set 0 0).set 1 ↑lane).set 2 ↑slice).set 3 ↑(4 * part * L)).set 4 ↑t).set 5 2).set 6 1) = adrZ 0 slice lane 0 t L part := rfl
      have ha : pagesL (List.replicate 128 0) (pagesL (List.replicate 128 0) (adrZ 0 slice lane 0 t L part)) = adrL 0 slice lane 0 t L part := rfl
      have hal : (adrZ 0 slice lane 0 t L part).length = 128 := rfl
      refine bd (good26w 0) Try.func78 ?_
      refine go26w (an hg (an hg2 (an w0 (an w00 (an w1 (an w2 (an w3 (an w4 (an w5 (an w6 (an w7 (an w8 (an w9 (an hz0 (an hz (an hal (an hrp (an hpl (an hpt ha))))))))))))))))))) ?_
      repeat with_reducible refine gd ?_
      rfl
    · have hg2 : ((1 : Int) < (slice : Int)) = True := by simp; omega
      have hw : wordN pass slice lane i t L part ah = ah.getD 0 0 := by unfold wordN; rw [if_neg (by omega)]
      rw [hw]
      refine bd (good26w 0) Try.func78 ?_
      exact go26w (an hg (an hg2 (an hat hah))) trivial
end Go.Proofs.Ytfnfmbikooeiaaa

namespace Go.Proofs.Ytfnfmbikooeiaaa
open Go.Ax
def refG (t L q pass slice lane i : Int) : Prop := (0 ≤ t ∧ t ≤ 8) ∧ (1 ≤ L ∧ L ≤ 4) ∧ (8 ≤ q ∧ q ≤ 256 ∧ q % 4 = 0) ∧ (0 ≤ pass ∧ pass ≤ 7) ∧ (0 ≤ slice ∧ slice < 4) ∧ (0 ≤ lane ∧ lane < L) ∧ (0 ≤ i ∧ i < q / 4) ∧ (pass = 0 → slice = 0 → 2 ≤ i)
instance (t L q pass slice lane i : Int) : Decidable (refG t L q pass slice lane i) := by unfold refG; infer_instance
def wordK (ah : List Int) (h : List Blk) : List AV → Option Out
  | [.v (.int .i64 t), .v (.int .i64 _), .v (.int .i64 L), .v (.int .i64 q), .sl _ _ _ _ _ _, .v (.int .i64 pass), .v (.int .i64 slice), .v (.int .i64 lane), .v (.int .i64 i)] =>
    oguard (refG t L q pass slice lane i ∧ ah.length = 128) (some (.one (.v (.int .u64 (wordN pass.toNat slice.toNat lane.toNat i.toNat t.toNat L.toNat (q.toNat / 4) ah))) h))
  | _ => none
def N78 (h : List Blk) : List AV → Option Out
  | [.ptr b 0 0, .arr 128 .u64 ah] => (row h b).bind (wordK ah h)
  | _ => none
theorem N78_eq (h : List Blk) (b : Nat) (ah : List Int) : N78 h [.ptr b 0 0, .arr 128 .u64 ah] = (row h b).bind (wordK ah h) := rfl
def rothK (w : Int) (h : List Blk) : List AV → Option Out
  | [.v (.int .i64 t), .v (.int .i64 _), .v (.int .i64 L), .v (.int .i64 q), .sl _ _ _ _ _ _, .v (.int .i64 pass), .v (.int .i64 slice), .v (.int .i64 lane), .v (.int .i64 i)] =>
    oguard (refG t L q pass slice lane i ∧ (0 ≤ w ∧ w < 18446744073709551616)) (some (.one (.v (.int .i64 (rOth pass.toNat slice.toNat lane.toNat i.toNat (q.toNat / 4) L.toNat w.toNat : Nat))) h))
  | _ => none
def N79 (h : List Blk) : List AV → Option Out
  | [.ptr b 0 0, .v (.int .u64 w)] => (row h b).bind (rothK w h)
  | _ => none
theorem N79_eq (h : List Blk) (b : Nat) (w : Int) : N79 h [.ptr b 0 0, .v (.int .u64 w)] = (row h b).bind (rothK w h) := rfl
theorem wordK_of {t m L q b base sz off len cap pass slice lane i part : Nat} {ah : List Int} (h : List Blk) (hq : q = 4 * part) (h1 : pass ≤ 7) (h2 : slice < 4) (h3 : lane < L) (h4 : i < part) (hL : 1 ≤ L ∧ L ≤ 4) (h5 : t ≤ 8) (h7 : 2 ≤ part ∧ part ≤ 64) (h8 : pass = 0 → slice = 0 → 2 ≤ i) (ha : ah.length = 128) :
    wordK ah h [.v (.int .i64 t), .v (.int .i64 m), .v (.int .i64 L), .v (.int .i64 q), .sl b base sz off len cap, .v (.int .i64 pass), .v (.int .i64 slice), .v (.int .i64 lane), .v (.int .i64 i)] = some (.one (.v (.int .u64 (wordN pass slice lane i t L part ah))) h) := by
  have hp : q / 4 = part := by omega
  unfold wordK oguard
  simp only [Int.toNat_natCast, hp]
  rw [if_pos]
  refine ⟨⟨by omega, by omega, by omega, by omega, by omega, by omega, by omega, fun e1 e2 => ?_⟩, ha⟩
  have := h8 (by omega) (by omega); omega
theorem rothK_of {t m L q b base sz off len cap pass slice lane i part w : Nat} (h : List Blk) (hq : q = 4 * part) (h1 : pass ≤ 7) (h2 : slice < 4) (h3 : lane < L) (h4 : i < part) (hL : 1 ≤ L ∧ L ≤ 4) (h5 : t ≤ 8) (h7 : 2 ≤ part ∧ part ≤ 64) (h8 : pass = 0 → slice = 0 → 2 ≤ i) (hw : w < 18446744073709551616) :
    rothK w h [.v (.int .i64 t), .v (.int .i64 m), .v (.int .i64 L), .v (.int .i64 q), .sl b base sz off len cap, .v (.int .i64 pass), .v (.int .i64 slice), .v (.int .i64 lane), .v (.int .i64 i)] = some (.one (.v (.int .i64 (rOth pass slice lane i part L w : Nat))) h) := by
  have hp : q / 4 = part := by omega
  unfold rothK oguard
  simp only [Int.toNat_natCast, hp]
  rw [if_pos]
  refine ⟨⟨by omega, by omega, by omega, by omega, by omega, by omega, by omega, fun e1 e2 => ?_⟩, by omega, by omega⟩
  have := h8 (by omega) (by omega); omega
theorem N78_use (h : List Blk) (args : List AV) (out : Out) (hN : N78 h args = some out) : (out.all fun _ h' => ∃ ext, h' = h ++ ext) ∧ ∀ κ, out.all κ → ACall Try.prog 78 args h κ := by
  unfold N78 at hN
  split at hN
  · rename_i b ah
    obtain ⟨ps, hrow, hN⟩ := Option.bind_eq_some_iff.1 hN
    unfold wordK at hN
    split at hN
    · rename_i t m L q c1 c2 c3 c4 c5 c6 pass slice lane i
      obtain ⟨⟨⟨h1, h2, h3, h4, h5, h6, h7, h8⟩, ha⟩, hN⟩ := oguard_some hN
      cases hN
      obtain ⟨pass, rfl⟩ := Int.eq_ofNat_of_zero_le h4.1
      obtain ⟨slice, rfl⟩ := Int.eq_ofNat_of_zero_le h5.1
      obtain ⟨lane, rfl⟩ := Int.eq_ofNat_of_zero_le h6.1
      obtain ⟨i, rfl⟩ := Int.eq_ofNat_of_zero_le h7.1
      obtain ⟨t, rfl⟩ := Int.eq_ofNat_of_zero_le h1.1
      obtain ⟨L, rfl⟩ := Int.eq_ofNat_of_zero_le (show 0 ≤ L by omega)
      obtain ⟨q, rfl⟩ := Int.eq_ofNat_of_zero_le (show 0 ≤ q by omega)
      obtain ⟨part, hp⟩ : ∃ part, q = 4 * part := ⟨q / 4, by omega⟩
      subst hp
      have hd : 4 * part / 4 = part := by omega
      simp only [Int.toNat_natCast, hd]
      have hs : ACall Try.prog 78 [.rop (.agg [.v (.int .i64 (t : Nat)), .v (.int .i64 m), .v (.int .i64 (L : Nat)), .v (.int .i64 ((4 * part : Nat) : Int)), .any, .v (.int .i64 (pass : Nat)), .v (.int .i64 (slice : Nat)), .v (.int .i64 (lane : Nat)), .v (.int .i64 (i : Nat))]), .arr 128 .u64 ah] [] fun v h' => v = .v (.int .u64 (wordN pass slice lane i t L part ah)) ∧ h' = [] := by
        refine ACall.weak (C := c26 0) rfl (rword_spec pass slice lane i t L part m ah (by omega) (by omega) (by omega) (by omega) (by omega) (by omega) (by omega) ha) ?_
        rintro v h' rfl
        exact ⟨_, [], weak_none rfl rfl, rfl, rfl⟩
      refine ⟨⟨[], by simp⟩, fun κ hκ => news_ok (args := [.ptr b 0 0, .arr 128 .u64 ah]) hs (by rintro _ _ ⟨rfl, rfl⟩; exact ⟨rfl, rfl⟩) (fun g => rfl)
        ⟨Frz.aggAny (List.mem_range.2 (row_lt hrow)) hrow ⟨.inl rfl, .inl rfl, .inl rfl, .inl rfl, .inr ⟨rfl, rfl⟩, .inl rfl, .inl rfl, .inl rfl, .inl rfl, trivial⟩ (fun f => rfl), Frz.same _, trivial⟩ ?_ hκ⟩
      rintro _ _ ⟨rfl, rfl⟩
      exact ⟨rfl, by simp⟩
    · cases hN
  · cases hN
theorem N79_use (h : List Blk) (args : List AV) (out : Out) (hN : N79 h args = some out) : (out.all fun _ h' => ∃ ext, h' = h ++ ext) ∧ ∀ κ, out.all κ → ACall Try.prog 79 args h κ := by
  unfold N79 at hN
  split at hN
  · rename_i b w
    obtain ⟨ps, hrow, hN⟩ := Option.bind_eq_some_iff.1 hN
    unfold rothK at hN
    split at hN
    · rename_i t m L q c1 c2 c3 c4 c5 c6 pass slice lane i
      obtain ⟨⟨⟨h1, h2, h3, h4, h5, h6, h7, h8⟩, ha⟩, hN⟩ := oguard_some hN
      cases hN
      obtain ⟨pass, rfl⟩ := Int.eq_ofNat_of_zero_le h4.1
      obtain ⟨slice, rfl⟩ := Int.eq_ofNat_of_zero_le h5.1
      obtain ⟨lane, rfl⟩ := Int.eq_ofNat_of_zero_le h6.1
      obtain ⟨i, rfl⟩ := Int.eq_ofNat_of_zero_le h7.1
      obtain ⟨t, rfl⟩ := Int.eq_ofNat_of_zero_le h1.1
      obtain ⟨L, rfl⟩ := Int.eq_ofNat_of_zero_le (show 0 ≤ L by omega)
      obtain ⟨q, rfl⟩ := Int.eq_ofNat_of_zero_le (show 0 ≤ q by omega)
      obtain ⟨w, rfl⟩ := Int.eq_ofNat_of_zero_le ha.1
      obtain ⟨part, hp⟩ : ∃ part, q = 4 * part := ⟨q / 4, by omega⟩
      subst hp
      have hd : 4 * part / 4 = part := by omega
      simp only [Int.toNat_natCast, hd]
      have hs : ACall Try.prog 79 [.rop (.agg [.v (.int .i64 (t : Nat)), .v (.int .i64 m), .v (.int .i64 (L : Nat)), .v (.int .i64 ((4 * part : Nat) : Int)), .any, .v (.int .i64 (pass : Nat)), .v (.int .i64 (slice : Nat)), .v (.int .i64 (lane : Nat)), .v (.int .i64 (i : Nat))]), .v (.int .u64 (w : Nat))] [] fun v h' => v = .v (.int .i64 (rOth pass slice lane i part L w : Nat)) ∧ h' = [] := by
        refine ACall.weak (C := c26 0) rfl (rother_spec pass slice lane i t L part w m (by omega) (by omega) (by omega) (by omega) (by omega) (by omega) (by omega) (fun e1 e2 => by have := h8 (by omega) (by omega); omega) (by omega)) ?_
        rintro v h' rfl
        exact ⟨_, [], weak_none rfl rfl, rfl, rfl⟩
      refine ⟨⟨[], by simp⟩, fun κ hκ => news_ok (args := [.ptr b 0 0, .v (.int .u64 (w : Nat))]) hs (by rintro _ _ ⟨rfl, rfl⟩; exact ⟨rfl, rfl⟩) (fun g => rfl)
        ⟨Frz.aggAny (List.mem_range.2 (row_lt hrow)) hrow ⟨.inl rfl, .inl rfl, .inl rfl, .inl rfl, .inr ⟨rfl, rfl⟩, .inl rfl, .inl rfl, .inl rfl, .inl rfl, trivial⟩ (fun f => rfl), Frz.same _, trivial⟩ ?_ hκ⟩
      rintro _ _ ⟨rfl, rfl⟩
      exact ⟨rfl, by simp⟩
    · cases hN
  · cases hN
noncomputable def n27 : FuncId → Option (List Blk → List AV → Option Out) := addNews (addNews n26 78 N78) 79 N79
noncomputable def c27 (k : Nat) : Cfg := ⟨Try.prog, k, p23, [], n27, none, []⟩
theorem c27_odd (k : Nat) : (c27 k).odd = [] := rfl
theorem c27_ro (k : Nat) : (c27 k).ro = [] := rfl
theorem c27_P (k : Nat) : (c27 k).P = Try.prog := rfl
theorem c27_pure (k : Nat) : (c27 k).pure = p23 := rfl
theorem c27_news (k : Nat) : (c27 k).news = n27 := rfl
theorem xc27 :
  (type_of% @Go.Proofs.Ytfnfmbikooeiaaa.c27_pure) ∧
  (type_of% @Go.Proofs.Ytfnfmbikooeiaaa.c27_news) ∧
  (type_of% @n27.eq_1) ∧
  (type_of% @Go.Proofs.Ytfnfmbikooeiaaa.N78_eq) ∧
  (type_of% @Go.Proofs.Ytfnfmbikooeiaaa.N79_eq) :=
  ⟨@Go.Proofs.Ytfnfmbikooeiaaa.c27_pure, @Go.Proofs.Ytfnfmbikooeiaaa.c27_news, @n27.eq_1, @Go.Proofs.Ytfnfmbikooeiaaa.N78_eq, @Go.Proofs.Ytfnfmbikooeiaaa.N79_eq⟩
theorem go27 {F A B : Prop} (f : F) (b : B) (h : F → A = B := by intro f; (repeat (first | simp only [c27_P, c27_odd, c27_ro, Nat.reduceBEq, reduceIte, Nat.reduceEqDiff, reduceCtorEq, ne_eq, if_true, if_false, exA, exA, tabs, exB, exD, buildA, rowOr, rowSetAt, rowAgg, mkAgg, AV.isAggV, AV.parts, AV.one, AV.solid, headSize, indexAddrA, indexA, fieldAddrA, fieldA, sliceA, boundsA, bndA, lenA, arrayAtA, rowOf, makeSliceA, intsOf, copyA, Nat.reduceAdd, Nat.reduceSub, Nat.reduceMul, Nat.reduceLeDiff, Nat.reduceLT, Nat.reduceGT, Int.reduceToNat, Int.reduceLE, Int.reduceLT, Int.reduceEq, Int.reduceNe, Int.reduceAdd, Int.reduceSub, Int.reduceMul, Int.reduceNeg, ite_true, ite_false, dite_true, xc10, xc11, xc12, xc13, xc14, xc15, xc16, xc17, xc20, xc21, xc22, xc23, xc24, xc25, xc26, xc27, run_range, exR, f] | simp (maxSteps := 1000000) (disch := omega) only [exE, Int.toNat_natCast, Int.reduceToNat])); all_goals rfl) : A := Eq.mpr (h f) b
theorem good27 (k : Nat) : (c27 k).Good := Cfg.Good.addN (Cfg.Good.addN (good26 k) N78_use k) N79_use k
noncomputable def c27o (k : Nat) : Cfg := ⟨Try.prog, k, p23, [3], n27, none, []⟩
theorem c27o_odd (k : Nat) : (c27o k).odd = [3] := rfl
theorem c27o_ro (k : Nat) : (c27o k).ro = [] := rfl
theorem c27o_P (k : Nat) : (c27o k).P = Try.prog := rfl
theorem c27o_pure (k : Nat) : (c27o k).pure = p23 := rfl
theorem c27o_news (k : Nat) : (c27o k).news = n27 := rfl
theorem xc27o :
  (type_of% @Go.Proofs.Ytfnfmbikooeiaaa.c27o_pure) ∧
  (type_of% @Go.Proofs.Ytfnfmbikooeiaaa.c27o_news) :=
  ⟨@Go.Proofs.Ytfnfmbikooeiaaa.c27o_pure, @Go.Proofs.Ytfnfmbikooeiaaa.c27o_news⟩
theorem go27o {F A B : Prop} (f : F) (b : B) (h : F → A = B := by intro f; (repeat (first | simp only [c27o_P, c27o_odd, c27o_ro, Nat.reduceBEq, reduceIte, Nat.reduceEqDiff, reduceCtorEq, ne_eq, if_true, if_false, exA, exA, tabs, exB, exD, buildA, rowOr, rowSetAt, rowAgg, mkAgg, AV.isAggV, AV.parts, AV.one, AV.solid, headSize, indexAddrA, indexA, fieldAddrA, fieldA, sliceA, boundsA, bndA, lenA, arrayAtA, rowOf, makeSliceA, intsOf, copyA, Nat.reduceAdd, Nat.reduceSub, Nat.reduceMul, Nat.reduceLeDiff, Nat.reduceLT, Nat.reduceGT, Int.reduceToNat, Int.reduceLE, Int.reduceLT, Int.reduceEq, Int.reduceNe, Int.reduceAdd, Int.reduceSub, Int.reduceMul, Int.reduceNeg, ite_true, ite_false, dite_true, xc10, xc11, xc12, xc13, xc14, xc15, xc16, xc17, xc20, xc21, xc22, xc23, xc24, xc25, xc26, xc27, xc27o, run_range, exR, f] | simp (maxSteps := 1000000) (disch := omega) only [exE, Int.toNat_natCast, Int.reduceToNat])); all_goals rfl) : A := Eq.mpr (h f) b
theorem good27o (k : Nat) : (c27o k).Good := good27 k
theorem flat_len {N : Nat} : ∀ {fs : List (List Int)}, (∀ g ∈ fs, g.length = N) → fs.flatten.length = fs.length * N
  | [], _ => by simp
  | f :: fs, h => by
    have := flat_len (N := N) (fs := fs) fun g hg => h g (List.mem_cons_of_mem _ hg)
    rw [List.flatten_cons, List.length_append, this, h f (List.mem_cons_self ..), List.length_cons, Nat.add_mul, Nat.one_mul, Nat.add_comm]
theorem flat_at {N : Nat} : ∀ {fs : List (List Int)} {l : Nat}, (∀ g ∈ fs, g.length = N) → l < fs.length → fs.flatten = (fs.take l).flatten ++ fs.getD l [] ++ (fs.drop (l + 1)).flatten
  | [], _, _, h => by simp at h
  | f :: fs, 0, _, _ => by simp
  | f :: fs, l + 1, h, hl => by
    have := flat_at (N := N) (fs := fs) (l := l) (fun g hg => h g (List.mem_cons_of_mem _ hg)) (by simpa using hl)
    rw [List.flatten_cons, this]
    simp only [List.take_succ_cons, List.flatten_cons, List.getD_cons_succ, List.drop_succ_cons, List.append_assoc]
theorem page_flat {n L l k : Nat} {fs : List (List Int)} (hl : fs.length = L) (hf : ∀ g ∈ fs, g.length = n * 128) (h1 : l < L) (h2 : k < n) : pageAt fs.flatten (n * l + k) = pageAt (fs.getD l []) k := by
  have hm : fs.getD l [] ∈ fs := by rw [List.getD_eq_getElem?_getD, List.getElem?_eq_getElem (by omega)]; exact List.getElem_mem _
  have ha : ((fs.take l).flatten).length = n * l * 128 := by
    rw [flat_len (N := n * 128) fun g hg => hf g (List.mem_of_mem_take hg), List.length_take, Nat.min_eq_left (by omega), Nat.mul_comm n l, Nat.mul_assoc]
  unfold pageAt
  rw [flat_at hf (by omega : l < fs.length), List.append_assoc, Nat.add_mul, ← ha, ← List.drop_drop, List.drop_left, List.drop_append_of_le_length (by rw [hf _ hm]; omega), List.take_append_of_le_length (by rw [List.length_drop, hf _ hm]; omega)]
theorem put_flat {n L l k : Nat} {fs : List (List Int)} {p : List Int} (hl : fs.length = L) (hf : ∀ g ∈ fs, g.length = n * 128) (h1 : l < L) (h2 : k < n) : putAt fs.flatten (n * l + k) p = (fs.set l (putAt (fs.getD l []) k p)).flatten := by
  have hm : fs.getD l [] ∈ fs := by rw [List.getD_eq_getElem?_getD, List.getElem?_eq_getElem (by omega)]; exact List.getElem_mem _
  have ha : ((fs.take l).flatten).length = n * l * 128 := by
    rw [flat_len (N := n * 128) fun g hg => hf g (List.mem_of_mem_take hg), List.length_take, Nat.min_eq_left (by omega), Nat.mul_comm n l, Nat.mul_assoc]
  have hs : fs.set l (putAt (fs.getD l []) k p) = fs.take l ++ putAt (fs.getD l []) k p :: fs.drop (l + 1) := by rw [List.set_eq_take_append_cons_drop, if_pos (by omega)]
  rw [hs, List.flatten_append, List.flatten_cons]
  unfold putAt
  rw [flat_at hf (by omega : l < fs.length), Nat.add_mul, Nat.add_assoc, ← ha]
  have hd : ∀ x y, x ≤ n * 128 → List.drop (((fs.take l).flatten).length + x) ((fs.take l).flatten ++ fs.getD l [] ++ y) = List.drop x (fs.getD l []) ++ y := by
    intro x y hx
    rw [List.append_assoc, ← List.drop_drop, List.drop_left, List.drop_append_of_le_length (by rw [hf _ hm]; exact hx)]
  have ht : ∀ x y, x ≤ n * 128 → List.take (((fs.take l).flatten).length + x) ((fs.take l).flatten ++ fs.getD l [] ++ y) = (fs.take l).flatten ++ List.take x (fs.getD l []) := by
    intro x y hx
    rw [List.append_assoc, List.take_length_add_append, List.take_append_of_le_length (by rw [hf _ hm]; exact hx)]
  rw [hd _ _ (by omega), ht _ _ (by omega)]
  simp only [List.append_assoc]
end Go.Proofs.Ytfnfmbikooeiaaa

namespace Go.Proofs.Ytfnfmbikooeiaaa
open Go.Ax
theorem rpage_a (pass slice lane i t L part m q Q N sp ql : Nat) (fs : List (List Int)) (F : List Int) (hg : GoodL L part fs) (hF : F = fs.flatten) (hq : q = 4 * part) (hQ : Q = q * L) (hN : N = Q * 128) (hsp : sp = slice * part) (hqe : ql = q * lane)
    (h1 : pass ≤ 7) (h2 : slice < 4) (h3 : lane < L) (h4 : i < part) (hL : 1 ≤ L ∧ L ≤ 4) (h5 : t ≤ 8) (h7 : 2 ≤ part ∧ part ≤ 64) (h8 : pass = 0 → slice = 0 → 2 ≤ i) :
    ACall Try.prog 64 [.ptr 0 0 0] [some [.v (.int .i64 t), .v (.int .i64 m), .v (.int .i64 L), .v (.int .i64 q), .sl 1 0 128 0 Q Q, .v (.int .i64 pass), .v (.int .i64 slice), .v (.int .i64 lane), .v (.int .i64 i)], some [.arr N .u64 F]]
      fun v h' => v = .tup [] ∧ ∃ ext, h' = [some [.v (.int .i64 t), .v (.int .i64 m), .v (.int .i64 L), .v (.int .i64 q), .sl 1 0 128 0 Q Q, .v (.int .i64 pass), .v (.int .i64 slice), .v (.int .i64 lane), .v (.int .i64 i)], some [.arr N .u64 (putAt F (ql + (sp + i)) (if 0 < pass then xorK (stepP pass slice lane i t L part fs (fs.getD lane [])) (pageAt (fs.getD lane []) (sp + i)) 128 else stepP pass slice lane i t L part fs (fs.getD lane [])))]] ++ ext := by
  have hsp1 : sp + part ≤ q := by rw [hsp, hq]; have := Nat.mul_le_mul_right part (show slice ≤ 3 by omega); omega
  have hqL : ql + q ≤ Q := by rw [hqe, hQ, ← Nat.mul_succ]; exact Nat.mul_le_mul_left q h3
  have hQm : Q ≤ 256 * 4 := by rw [hQ]; exact Nat.mul_le_mul (by omega) hL.2
  have hlen : ∀ g ∈ fs, g.length = q * 128 := fun g hg' => by rw [hq]; exact hg.lane g hg'
  have hFl : F.length = N := by rw [hF, flat_len hlen, hg.len, hN, hQ, Nat.mul_comm L, Nat.mul_right_comm]
  obtain ⟨f, hf⟩ : ∃ f, fs.getD lane [] = f := ⟨_, rfl⟩
  have hm := hg.at h3
  have hpage : ∀ k, k < q → pageAt F (ql + k) = pageAt f k := fun k hk => by rw [hF, hqe, page_flat hg.len hlen h3 hk, hf]
  have hset : fs.set lane f = fs := by
    rw [← hf, List.getD_eq_getElem?_getD, List.getElem?_eq_getElem (by rw [hg.len]; exact h3), Option.getD_some, List.set_getElem_self]
  rw [hf] at hm ⊢
  have hfl := hg.lane f hm
  have hfw := hg.word f hm
  have wsq : IntKind.i64.wrap ((slice : Int) * (q : Int)) = ((4 * sp : Nat) : Int) := by
    rw [← Int.natCast_mul, show slice * q = 4 * sp by rw [hq, hsp, ← Nat.mul_assoc, Nat.mul_comm slice 4, Nat.mul_assoc]]; exact wrap_i64_id _ (by omega)
  have wq4 : (((4 * sp : Nat) : Int)).tdiv 4 = (sp : Int) := by rw [show (4 : Int) = ((4 : Nat) : Int) from rfl, ← Int.ofNat_tdiv]; congr 1; omega
  have wh : IntKind.i64.wrap ((sp : Int) + (i : Int)) = ((sp + i : Nat) : Int) := by rw [wrap_i64_id _ (by omega)]; omega
  have wql : IntKind.i64.wrap ((q : Int) * (lane : Int)) = (ql : Int) := by rw [← Int.natCast_mul, ← hqe]; exact wrap_i64_id _ (by omega)
  obtain ⟨j, hj⟩ : ∃ j, j = (sp + i + q - 1) % q := ⟨_, rfl⟩
  have hjl : j < q := by rw [hj]; exact Nat.mod_lt _ (by omega)
  have wl : IntKind.i64.wrap (((sp + i : Nat) : Int) + (q : Int)) = ((sp + i + q : Nat) : Int) := by rw [wrap_i64_id _ (by omega)]; omega
  have wl1 : IntKind.i64.wrap (((sp + i + q : Nat) : Int) - 1) = ((sp + i + q - 1 : Nat) : Int) := by rw [wrap_i64_id _ (by omega)]; omega
  have wm : ((sp + i + q - 1 : Nat) : Int).tmod (q : Int) = (j : Int) := by rw [← Int.ofNat_tmod, hj]
  have hjm : (sp + i + q - 1) % q = j := hj.symm
  have wqj : IntKind.i64.wrap ((ql : Int) + (j : Int)) = ((ql + j : Nat) : Int) := by rw [wrap_i64_id _ (by omega)]; omega
  have wqh : IntKind.i64.wrap ((ql : Int) + ((sp + i : Nat) : Int)) = ((ql + (sp + i) : Nat) : Int) := by rw [wrap_i64_id _ (by omega)]; omega
  have hn0 : ((q : Int) = 0) = False := by simp; omega
  have hN1 : (N = 128) = False := by simp; omega
  have hahl : (pageAt f j).length = 128 := pageAt_len (n := q) (by rw [hfl, hq]) hjl
  have hW := hfw.page j 0
  have hnn : NonNeg (pageAt f j) := fun k => (hfw.page j k).1
  obtain ⟨ah, hah⟩ : ∃ ah, pageAt f j = ah := ⟨_, rfl⟩
  have hah2 : aheadP slice i part f = ah := by unfold aheadP; rw [← hq, ← hsp, ← hj, hah]
  have hpj : List.take 128 (List.drop ((ql + j) * 128) F) = ah := by rw [show List.take 128 (List.drop ((ql + j) * 128) F) = pageAt F (ql + j) from rfl, hpage j hjl, hah]
  rw [hah] at hW hahl hnn
  have hat : List.take 128 ah = ah := List.take_of_length_le (by omega)
  have hwr : 0 ≤ wordN pass slice lane i t L part ah ∧ wordN pass slice lane i t L part ah < 18446744073709551616 := by
    unfold wordN
    split
    · exact pagesL_w (by decide) i
    · exact hW
  obtain ⟨w, hw⟩ := Int.eq_ofNat_of_zero_le hwr.1
  have hw2 : w < 18446744073709551616 := by omega
  have hwk : ∀ h, wordK ah h [.v (.int .i64 t), .v (.int .i64 m), .v (.int .i64 L), .v (.int .i64 q), .sl 1 0 128 0 Q Q, .v (.int .i64 pass), .v (.int .i64 slice), .v (.int .i64 lane), .v (.int .i64 i)] = some (.one (.v (.int .u64 w)) h) := by
    intro h
    rw [wordK_of h hq h1 h2 h3 h4 hL h5 h7 h8 hahl, hw]
  obtain ⟨ol, hol⟩ : ∃ ol, oLane pass slice lane L w = ol := ⟨_, rfl⟩
  obtain ⟨ox, hox⟩ : ∃ ox, oIdx pass slice lane i part L w = ox := ⟨_, rfl⟩
  have holt : ol < L := by
    rw [← hol]; unfold oLane; split
    · exact h3
    · exact Nat.mod_lt _ (by omega)
  have hoxt : ox < q := by rw [← hox, hq]; unfold oIdx; exact Nat.mod_lt _ (by omega)
  obtain ⟨r, hr0⟩ : ∃ r, q * ol + ox = r := ⟨_, rfl⟩
  have hrq : r < Q := by
    have h := Nat.mul_le_mul_left q (show ol + 1 ≤ L from holt)
    rw [Nat.mul_succ, ← hQ] at h; omega
  have hok : ∀ h, rothK w h [.v (.int .i64 t), .v (.int .i64 m), .v (.int .i64 L), .v (.int .i64 q), .sl 1 0 128 0 Q Q, .v (.int .i64 pass), .v (.int .i64 slice), .v (.int .i64 lane), .v (.int .i64 i)] = some (.one (.v (.int .i64 r)) h) := by
    intro h
    rw [rothK_of h hq h1 h2 h3 h4 hL h5 h7 h8 hw2]
    unfold rOth
    rw [hol, hox, ← hq, hr0]
  obtain ⟨o, ho⟩ : ∃ o, pageAt F r = o := ⟨_, rfl⟩
  have ho2 : o = stepO pass slice lane i L part fs w := by
    unfold stepO
    rw [hol, hox, ← ho, ← hr0, hF, page_flat hg.len hlen holt hoxt]
  have hol2 : o.length = 128 := by rw [ho2]; exact stepO_len hq (by omega) hg.len h3 hlen
  have hpo : List.take 128 (List.drop (r * 128) F) = o := ho
  have hrp : rpagesL ah o = pagesL ah o := pages_law hahl hnn
  have hpl : (pagesL ah o).length = 128 := by rw [pagesL_len, hahl]
  have hpt : List.take 128 (pagesL ah o) = pagesL ah o := List.take_of_length_le (by omega)
  have hot : List.take 128 o = o := List.take_of_length_le (by omega)
  have hp : stepP pass slice lane i t L part fs f = pagesL ah o := by
    have hsw : stepW pass slice lane i t L part f = w := by rw [← hw]; unfold stepW wordN; rw [hah2]
    unfold stepP
    rw [hsw, hah2, hset, Int.toNat_natCast, ← ho2]
  have hoo : (pageAt f (sp + i)).length = 128 := pageAt_len (n := q) (by rw [hfl, hq]) (by omega)
  obtain ⟨od, hod⟩ : ∃ od, pageAt f (sp + i) = od := ⟨_, rfl⟩
  have hpd : List.take 128 (List.drop ((ql + (sp + i)) * 128) F) = od := by rw [show List.take 128 (List.drop ((ql + (sp + i)) * 128) F) = pageAt F (ql + (sp + i)) from rfl, hpage _ (by omega), hod]
  rw [hod] at hoo ⊢
  rw [hp]
  have hdt : List.take 128 od = od := List.take_of_length_le (by omega)
  refine bd (good27o 2) Try.func64 ?_
  refine go27o (an wsq (an wq4 (an wh (an wql (an wl (an wl1 (an wm (an wqj (an hn0 (an hjm (an hpj (an hat (an hwk hahl))))))))))))) ?_
  repeat with_reducible refine gd ?_
  refine odd_merge (good27o 2) (.first 0 (.first 1 (.first 2 (.first 3 (.first 4 (.first 5 (.first 6 (.fork 7 (.first 8 (.first 9 (.first 10 (.fork 11 (.fork 12 .done .stop) .stop)))) (.fork 11 (.fork 7 (.first 8 (.first 9 (.first 10 (.fork 12 .done .stop)))) .stop) .stop)))))))))
    ⟨envL [(0, .ptr 0 0 0), (2, .v (.int .i64 ((sp + i : Nat)))), (5, .ptr 3 0 0)],
    [some [.v (.int .i64 t), .v (.int .i64 m), .v (.int .i64 L), .v (.int .i64 q), .sl 1 0 128 0 Q Q, .v (.int .i64 pass), .v (.int .i64 slice), .v (.int .i64 lane), .v (.int .i64 i)], some [.arr N .u64 F], some [.arr 128 .u64 ah], some [.arr 128 .u64 (pagesL ah o)]]⟩ (by kernel_rfl) ?_ ?_
  · refine go27o (an hok (an hat (an hahl (an hpo (an hol2 (an hot (an hrp (an hpl hpt)))))))) ?_
    repeat' (first | exact trivial | rfl | omega | refine And.intro ?_ ?_)
    all_goals exact wk nf
  · rcases Nat.eq_zero_or_pos pass with hp0 | hp0
    · have hpg : ((0 : Int) < (pass : Int)) = False := by simp; omega
      rw [if_neg (by omega)]
      refine go27o (an hpg (an wql (an wqh (an hN1 (an @and_false hpt))))) ?_
      repeat with_reducible refine gd ?_
      exact ⟨_, rfl⟩
    · have hpg : ((0 : Int) < (pass : Int)) = True := by simp; omega
      rw [if_pos hp0]
      refine go27o (an hpg (an wql (an wqh (an hpd hdt)))) ?_
      repeat with_reducible refine gd ?_
      refine loop_count (good27o 2) (fun k => ⟨envL [(0, .ptr 0 0 0), (2, .v (.int .i64 ((sp + i : Nat)))), (5, .ptr 3 0 0), (6, .ptr 4 0 0), (7, .v (.int .i64 k))],
        [some [.v (.int .i64 t), .v (.int .i64 m), .v (.int .i64 L), .v (.int .i64 q), .sl 1 0 128 0 Q Q, .v (.int .i64 pass), .v (.int .i64 slice), .v (.int .i64 lane), .v (.int .i64 i)], some [.arr N .u64 F], some [.arr 128 .u64 ah], some [.arr 128 .u64 (xorK (pagesL ah o) od k)], some [.arr 128 .u64 od]]⟩) 128 (by kernel_rfl) ?_ ?_ ?_
      · (refine weak_of ?_ ?_; (focus (first | with_reducible rfl | (simp only [xorK, Int.natCast_zero] <;> with_reducible rfl))); simp only [exF, Nat.reduceEqDiff, if_true, if_false, reduceIte, Option.some.injEq, reduceCtorEq, Int.cast_ofNat_Int, xorK, Int.natCast_zero])
      · intro k hk
        have hxl : (xorK (pagesL ah o) od k).length = 128 := by rw [xorK_len, hpl]
        have hS : xorK (pagesL ah o) od (k + 1) = (xorK (pagesL ah o) od k).set k (xorU ((xorK (pagesL ah o) od k).getD k 0) (od.getD k 0)) := rfl
        rw [hS]
        obtain ⟨x, hx⟩ : ∃ x, xorK (pagesL ah o) od k = x := ⟨_, rfl⟩
        rw [hx] at hxl ⊢
        refine go27o nf ?_
        repeat with_reducible refine gd ?_
        exact wk nf
      · have hxt : List.take 128 (xorK (pagesL ah o) od 128) = xorK (pagesL ah o) od 128 := List.take_of_length_le (by rw [xorK_len, hpl]; omega)
        refine go27o (an wql (an wqh (an hN1 (an @and_false hxt)))) ?_
        repeat with_reducible refine gd ?_
        exact ⟨_, rfl⟩
theorem rmpage_spec (pass slice lane i t L part m : Nat) (fs : List (List Int)) (hg : GoodL L part fs)
    (h1 : pass ≤ 7) (h2 : slice < 4) (h3 : lane < L) (h4 : i < part) (hL : 1 ≤ L ∧ L ≤ 4) (h5 : t ≤ 8) (h7 : 2 ≤ part ∧ part ≤ 64) (h8 : pass = 0 → slice = 0 → 2 ≤ i) :
    ACall Try.prog 64 [.ptr 0 0 0] [some [.v (.int .i64 t), .v (.int .i64 m), .v (.int .i64 L), .v (.int .i64 (4 * part : Nat)), .sl 1 0 128 0 (4 * part * L) (4 * part * L), .v (.int .i64 pass), .v (.int .i64 slice), .v (.int .i64 lane), .v (.int .i64 i)], some [.arr (4 * part * L * 128) .u64 fs.flatten]]
      fun v h' => v = .tup [] ∧ h' = [some [.v (.int .i64 t), .v (.int .i64 m), .v (.int .i64 L), .v (.int .i64 (4 * part : Nat)), .sl 1 0 128 0 (4 * part * L) (4 * part * L), .v (.int .i64 pass), .v (.int .i64 slice), .v (.int .i64 lane), .v (.int .i64 i)], some [.arr (4 * part * L * 128) .u64 (fs.set lane (stepF pass slice lane i t L part fs (fs.getD lane []))).flatten]] := by
  refine ACall.weak (C := c27o 2) rfl (rpage_a pass slice lane i t L part m (4 * part) (4 * part * L) (4 * part * L * 128) (slice * part) (4 * part * lane) fs fs.flatten hg rfl rfl rfl rfl rfl rfl h1 h2 h3 h4 hL h5 h7 h8) ?_
  rintro v h' ⟨rfl, ext, rfl⟩
  have hsp1 : slice * part + part ≤ 4 * part := by have := Nat.mul_le_mul_right part (show slice ≤ 3 by omega); omega
  have e := put_flat (p := if 0 < pass then xorK (stepP pass slice lane i t L part fs (fs.getD lane [])) (pageAt (fs.getD lane []) (slice * part + i)) 128 else stepP pass slice lane i t L part fs (fs.getD lane [])) hg.len hg.lane h3 (show slice * part + i < 4 * part by omega)
  rw [e]
  exact ⟨_, _, weak_gc' [0, 1] (by decide) (by simp) (by rfl) rfl ⟨rfl, trivial⟩, rfl, rfl⟩
end Go.Proofs.Ytfnfmbikooeiaaa

namespace Go.Proofs.Ytfnfmbikooeiaaa
open Go.Ax
noncomputable def fsB (seed : List Int) (L q : Nat) : Nat → List (List Int)
  | 0 => List.replicate L (beginK seed 0 q 0)
  | l + 1 => (fsB seed L q l).set l (beginK seed l q 2)
theorem fsB_len (seed : List Int) (L q : Nat) : ∀ l, (fsB seed L q l).length = L
  | 0 => by simp [fsB]
  | l + 1 => by simp only [fsB, List.length_set]; exact fsB_len seed L q l
theorem fsB_at (seed : List Int) (L q : Nat) : ∀ l j, j < L → (fsB seed L q l).getD j [] = if j < l then beginK seed j q 2 else beginK seed 0 q 0
  | 0, j, hj => by simp [fsB, List.getD_eq_getElem?_getD, hj]
  | l + 1, j, hj => by
    simp only [fsB]
    rw [List.getD_eq_getElem?_getD, List.getElem?_set]
    split
    · rename_i h
      subst h
      rw [if_pos (by rw [fsB_len]; exact hj), if_pos (by omega)]; rfl
    · rw [← List.getD_eq_getElem?_getD, fsB_at seed L q l j hj]
      split
      · rw [if_pos (by omega)]
      · rw [if_neg (by omega)]
theorem fsB_lens {seed : List Int} {L q : Nat} (hq : 2 ≤ q) (l : Nat) : ∀ g ∈ fsB seed L q l, g.length = q * 128 := by
  intro g hg
  obtain ⟨j, hj, rfl⟩ := List.mem_iff_getElem.1 hg
  have h := fsB_at seed L q l j (by rw [fsB_len] at hj; exact hj)
  rw [List.getD_eq_getElem?_getD, List.getElem?_eq_getElem hj, Option.getD_some] at h
  rw [h]
  split
  · exact beginK_len seed j q hq 2 (Nat.le_refl _)
  · exact beginK_len seed 0 q hq 0 (by omega)
theorem fsB_all (seed : List Int) (L q : Nat) : fsB seed L q L = beginL seed L q := by
  apply List.ext_getElem
  · rw [fsB_len]; simp [beginL]
  · intro j h1 h2
    have hj : j < L := by rw [fsB_len] at h1; exact h1
    have h := fsB_at seed L q L j hj
    rw [List.getD_eq_getElem?_getD, List.getElem?_eq_getElem h1, Option.getD_some, if_pos hj] at h
    rw [h]; simp [beginL]
theorem fsB_first (seed : List Int) (L q : Nat) : (List.replicate (q * L) (List.replicate 128 (0 : Int))).flatten = (fsB seed L q 0).flatten := by
  show _ = (List.replicate L (beginK seed 0 q 0)).flatten
  rw [beginK_0, flat_zeros, flat_zeros, flat_zeros]
  congr 1
  rw [Nat.mul_comm q L, Nat.mul_assoc]
theorem rkey_bad (n t m l : Int) (a b c d : List Int) (h : okS n t m l a b c d = false) :
    ACall Try.prog 45 [.v (.int .i64 n), .agg [.v (.int .i64 t), .v (.int .i64 m), .v (.int .i64 l)], .agg [.roI .u8 a, .roI .u8 b, .roI .u8 c, .roI .u8 d]] [] fun v h' => v = .tup [.v (.slice none 0 0), .v (.int .i64 80)] ∧ h' = [] := by
  refine ACall.weak (C := c27 0) rfl (κ := fun v h' => v = .tup [.v (.slice none 0 0), .v (.int .i64 80)]) ?_ ?_
  · refine bd (good27 0) Try.func45 ?_
    exact go27 h trivial
  · rintro v h' rfl
    exact ⟨_, _, weak_none rfl rfl, rfl, rfl⟩
theorem rkey_a (n t m L part q Q N : Nat) (a b c d seed : List Int) (hn : 4 ≤ n ∧ n ≤ 128) (hL : 1 ≤ L ∧ L ≤ 4) (ht : 1 ≤ t ∧ t ≤ 8) (hm : m ≤ 256) (hok : okS n t m L a b c d = true) (hokP : okP t m L = true) (hpt : part = m / (4 * L)) (h7 : 2 ≤ part ∧ part ≤ 64) (hq : q = 4 * part) (hQ : Q = q * L) (hN : N = Q * 128)
    (hsd : seedL n t m L a b c d = seed) (hsl : seed.length = 64) (fs0 : List (List Int)) (hf0 : fs0 = beginL seed L q) (pb : List Int) (hpb : pb = pageB (sumS q (passS t L part fs0 t) L)) (hpl : pb.length = 1024) :
    ACall Try.prog 45 [.v (.int .i64 n), .agg [.v (.int .i64 t), .v (.int .i64 m), .v (.int .i64 L)], .agg [.roI .u8 a, .roI .u8 b, .roI .u8 c, .roI .u8 d]] [] fun v h' => ∃ x0 x1 x2 x3 x4 k, v = .tup [.sl 5 0 1 0 n k, .v (.int .i64 0)] ∧ h' = [x0, x1, x2, x3, x4, some [.arr n .u8 (longL n (le4 n ++ pb))]] := by
  have hseed64 : List.take 64 seed = seed := List.take_of_length_le (by omega)
  have hg0 : GoodL L part fs0 := by rw [hf0, hq]; exact beginL_good seed h7.1
  have hQ0 : q * 1 ≤ Q := by rw [hQ]; exact Nat.mul_le_mul_left q hL.1
  have hQm : Q ≤ 256 * 4 := by rw [hQ]; exact Nat.mul_le_mul (by omega) hL.2
  have hpg : pgN t m L = ((q * L : Nat) : Int) := by
    unfold pgN; rw [if_pos hokP]; simp only [Int.toNat_natCast]; rw [← hpt, hq, Nat.mul_comm part 4]
  have hdv : (((q * L : Nat) : Int)).tdiv (L : Int) = (q : Int) := by rw [← Int.ofNat_tdiv, Nat.mul_div_cancel _ (by omega)]
  have hdl : q * L / L = q := Nat.mul_div_cancel _ (by omega)
  have hL0 : ((L : Int) = 0) = False := by simp; omega
  have wQ : IntKind.i64.wrap ((q : Int) * (L : Int)) = (Q : Int) := by rw [← Int.natCast_mul, ← hQ]; exact wrap_i64_id _ (by omega)
  have hN1 : (N = 128) = False := by simp; omega
  have h4 : ∀ x, (le4 x).length = 4 := fun _ => rfl
  have h4t : ∀ x, List.take 4 (le4 x) = le4 x := fun _ => rfl
  have wq4 : ((q : Int)).tdiv 4 = (part : Int) := by rw [show (4 : Int) = ((4 : Nat) : Int) from rfl, ← Int.ofNat_tdiv]; congr 1; omega
  have hrep : (List.replicate Q (List.replicate 128 (0 : Int))).flatten = (fsB seed L q 0).flatten := by rw [hQ]; exact fsB_first seed L q
  refine bd (good27 0) Try.func45 ?_
  refine go27 (an hok hsd) ?_
  intro k0 _
  refine go27 (an hpg (an hdv (an hdl (an hL0 wQ)))) ?_
  repeat with_reducible refine gd ?_
  rw [hrep, ← hN]
  refine loop_count (good27 0) (fun l => ⟨envL [(0, .v (.int .i64 n)), (4, .ptr 0 0 0), (8, .sl 2 0 1 0 64 k0), (10, .ptr 3 0 0), (11, .v (.int .i64 l))], [some [.v (.int .i64 t), .v (.int .i64 m), .v (.int .i64 L)], some [.roI .u8 a, .roI .u8 b, .roI .u8 c, .roI .u8 d], some [.arr 64 .u8 seed], some [.v (.int .i64 t), .v (.int .i64 m), .v (.int .i64 L), .v (.int .i64 q), .sl 4 0 128 0 Q Q, .v (.int .i64 0), .v (.int .i64 0), .v (.int .i64 0), .v (.int .i64 0)], some [.arr N .u64 (fsB seed L q l).flatten]]⟩) L (by kernel_rfl) ?_ ?_ ?_
  · exact wk nf
  · intro l hl
    have hll : ((l : Int) < (L : Int)) = True := by simp; omega
    obtain ⟨ql, hqe⟩ : ∃ ql, ql = q * l := ⟨_, rfl⟩
    have hqe2 : q * l = ql := hqe.symm
    have hqL : ql + q ≤ Q := by rw [hqe, hQ, ← Nat.mul_succ]; exact Nat.mul_le_mul_left q hl
    have wql : IntKind.i64.wrap ((q : Int) * (l : Int)) = (ql : Int) := by rw [← Int.natCast_mul, ← hqe]; exact wrap_i64_id _ (by omega)
    have hSB : fsB seed L q (l + 1) = (fsB seed L q l).set l (beginK seed l q 2) := rfl
    rw [hSB]
    have hz0 : (fsB seed L q l).set l (beginK seed l q 0) = fsB seed L q l := by
      have h := fsB_at seed L q l l hl
      rw [if_neg (Nat.lt_irrefl _)] at h
      have h2 : beginK seed l q 0 = beginK seed 0 q 0 := rfl
      rw [h2, ← h, set_getD_self (by rw [fsB_len]; exact hl)]
    refine go27 hll ?_
    refine loop_count (good27 0) (fun i => ⟨envL [(0, .v (.int .i64 n)), (4, .ptr 0 0 0), (8, .sl 2 0 1 0 64 k0), (10, .ptr 3 0 0), (11, .v (.int .i64 l)), (12, .v (.int .i64 i))], [some [.v (.int .i64 t), .v (.int .i64 m), .v (.int .i64 L)], some [.roI .u8 a, .roI .u8 b, .roI .u8 c, .roI .u8 d], some [.arr 64 .u8 seed], some [.v (.int .i64 t), .v (.int .i64 m), .v (.int .i64 L), .v (.int .i64 q), .sl 4 0 128 0 Q Q, .v (.int .i64 0), .v (.int .i64 0), .v (.int .i64 0), .v (.int .i64 0)], some [.arr N .u64 ((fsB seed L q l).set l (beginK seed l q i)).flatten]]⟩) 2 (by kernel_rfl) ?_ ?_ ?_
    · rw [hz0]
      exact wk nf
    · intro i hi
      have hbl := begB_len seed i l
      have hbt : List.take 1024 (begB seed i l) = begB seed i l := List.take_of_length_le (by omega)
      have hlg : longL 1024 (le4 1024 ++ (seed ++ (le4 i ++ le4 l))) = begB seed i l := (begB_eq _ _ _).symm
      have wqi : IntKind.i64.wrap ((ql : Int) + (i : Int)) = ((ql + i : Nat) : Int) := by rw [wrap_i64_id _ (by omega)]; omega
      have hput := put_flat (fs := (fsB seed L q l).set l (beginK seed l q i)) (p := pageOf (begB seed i l)) (by rw [List.length_set, fsB_len]) (mem_set_len (fsB_lens (by omega) l) (beginK_len seed l q (by omega) i (by omega))) hl (show i < q by omega)
      rw [getD_set_self (by rw [fsB_len]; exact hl), List.set_set, ← hqe, show putAt (beginK seed l q i) i (pageOf (begB seed i l)) = beginK seed l q (i + 1) from rfl] at hput
      have hfl : (((fsB seed L q l).set l (beginK seed l q i)).flatten).length = N := by
        rw [flat_len (mem_set_len (fsB_lens (by omega) l) (beginK_len seed l q (by omega) i (by omega))), List.length_set, fsB_len, hN, hQ, Nat.mul_comm L, Nat.mul_right_comm]
      obtain ⟨F, hF⟩ : ∃ F, ((fsB seed L q l).set l (beginK seed l q i)).flatten = F := ⟨_, rfl⟩
      rw [hF] at hput hfl ⊢
      rw [← hput]
      unfold putAt
      refine go27 (an h4 (an h4t (an @hseed64 hsl))) ?_
      intro c1 _
      refine go27 (an h4 (an h4t (an @hseed64 hsl))) ?_
      intro c2 _
      refine go27 (an h4 (an h4t (an @hseed64 hsl))) ?_
      intro c3 _
      have e68 : List.take 68 (seed ++ le4 i) = seed ++ le4 i := List.take_of_length_le (by rw [List.length_append, hsl, h4]; decide)
      have e72 : List.take 72 (seed ++ le4 i ++ le4 l) = seed ++ (le4 i ++ le4 l) := by rw [List.take_of_length_le (by rw [List.length_append, List.length_append, hsl, h4, h4]; decide), List.append_assoc]
      refine go27 (an h4 (an h4t (an @hseed64 (an hsl (an e68 (an e72 hlg)))))) ?_
      intro c4 _
      refine go27 (an hbl (an hbt (an @pageOf_len (an @pageOf_take (an hN1 (an @and_false (an wql (an wqi hqe2)))))))) ?_
      repeat with_reducible refine gd ?_
      exact wgc [0, 1, 2, 3, 4] nf
    · refine go27 nf ?_
      exact wk nf
  · rw [fsB_all, ← hf0]
    refine go27 nf ?_
    refine loop_countE (good27 0) (fun p (x : Int × Int × Int) => ⟨envL [(0, .v (.int .i64 n)), (4, .ptr 2 0 0), (10, .ptr 0 0 0)], [some [.v (.int .i64 t), .v (.int .i64 m), .v (.int .i64 L), .v (.int .i64 q), .sl 1 0 128 0 Q Q, .v (.int .i64 p), .v (.int .i64 x.1), .v (.int .i64 x.2.1), .v (.int .i64 x.2.2)], some [.arr N .u64 (passS t L part fs0 p).flatten], some [.v (.int .i64 t), .v (.int .i64 m), .v (.int .i64 L)]]⟩) t (by kernel_rfl) ⟨(0, 0, 0), ?_⟩ ?_ ?_
    · (refine weak_gc' [3, 4, 0] (by decide) (by simp) (by rfl) ?_ ?_; (focus (first | with_reducible rfl | (simp only [List.map_cons, List.map_nil, List.cons_append, List.nil_append, List.getElem?_cons_zero, List.getElem?_cons_succ, renB, renL, Option.map_some, Option.map_none, AV.ren, gcMap, List.getD_cons_zero, List.getD_cons_succ, passS, Int.natCast_zero] <;> with_reducible rfl))); simp only [exF, List.map_cons, List.map_nil, List.length_cons, List.length_nil, Nat.reduceAdd, AV.ren, renL, gcMap, Nat.reduceEqDiff, if_true, if_false, reduceIte, Option.some.injEq, reduceCtorEq, Int.cast_ofNat_Int, passS, Int.natCast_zero])
    · rintro p ⟨s0, l0, a0⟩ hp
      have hgp := passS_good (t := t) hg0 h7.1 p
      have hpt2 : ((p : Int) < (t : Int)) = True := by simp; omega
      have hS : passS t L part fs0 (p + 1) = sliceS p t L part (passS t L part fs0 p) 4 := rfl
      rw [hS]
      obtain ⟨fp, hfp⟩ : ∃ fp, passS t L part fs0 p = fp := ⟨_, rfl⟩
      rw [hfp] at hgp ⊢
      refine go27 hpt2 ?_
      refine loop_countE (good27 0) (fun s (x : Int × Int) => ⟨envL [(0, .v (.int .i64 n)), (4, .ptr 2 0 0), (10, .ptr 0 0 0)], [some [.v (.int .i64 t), .v (.int .i64 m), .v (.int .i64 L), .v (.int .i64 q), .sl 1 0 128 0 Q Q, .v (.int .i64 p), .v (.int .i64 s), .v (.int .i64 x.1), .v (.int .i64 x.2)], some [.arr N .u64 (sliceS p t L part fp s).flatten], some [.v (.int .i64 t), .v (.int .i64 m), .v (.int .i64 L)]]⟩) 4 (by kernel_rfl) ⟨(l0, a0), ?_⟩ ?_ ?_
      · (refine weak_of ?_ ?_; (focus (first | with_reducible rfl | (simp only [sliceS, Int.natCast_zero] <;> with_reducible rfl))); simp only [exF, Nat.reduceEqDiff, if_true, if_false, reduceIte, Option.some.injEq, reduceCtorEq, Int.cast_ofNat_Int, sliceS, Int.natCast_zero])
      · rintro s ⟨l0, a0⟩ hs
        have hgs := sliceS_good (t := t) (pass := p) hgp h7.1 s (by omega)
        have hS2 : sliceS p t L part fp (s + 1) = laneS p s t L part (sliceS p t L part fp s) L := rfl
        rw [hS2]
        obtain ⟨fs, hfs⟩ : ∃ fs, sliceS p t L part fp s = fs := ⟨_, rfl⟩
        rw [hfs] at hgs ⊢
        refine go27 nf ?_
        refine loop_countE (good27 0) (fun l (x : Int) => ⟨envL [(0, .v (.int .i64 n)), (4, .ptr 2 0 0), (10, .ptr 0 0 0)], [some [.v (.int .i64 t), .v (.int .i64 m), .v (.int .i64 L), .v (.int .i64 q), .sl 1 0 128 0 Q Q, .v (.int .i64 p), .v (.int .i64 s), .v (.int .i64 l), .v (.int .i64 x)], some [.arr N .u64 (laneS p s t L part fs l).flatten], some [.v (.int .i64 t), .v (.int .i64 m), .v (.int .i64 L)]]⟩) L (by kernel_rfl) ⟨a0, ?_⟩ ?_ ?_
        · (refine weak_of ?_ ?_; (focus (first | with_reducible rfl | (simp only [laneS, Int.natCast_zero] <;> with_reducible rfl))); simp only [exF, Nat.reduceEqDiff, if_true, if_false, reduceIte, Option.some.injEq, reduceCtorEq, Int.cast_ofNat_Int, laneS, Int.natCast_zero])
        · intro l a0 hl
          have hgl := laneS_good (t := t) (pass := p) (slice := s) hgs hs h7.1 l (by omega)
          have hll : ((l : Int) < (L : Int)) = True := by simp; omega
          have hS3 : laneS p s t L part fs (l + 1) = sliceL p s l t L part (laneS p s t L part fs l) := rfl
          rw [hS3]
          obtain ⟨fl, hfl⟩ : ∃ fl, laneS p s t L part fs l = fl := ⟨_, rfl⟩
          rw [hfl] at hgl ⊢
          have hend : fsK p s l t L part fl (part - loS p s) = sliceL p s l t L part fl := rfl
          have h00 : fsK p s l t L part fl 0 = fl := fsK_0 (by rw [hgl.len]; exact hl)
          have hlo2 : loS p s ≤ 2 := by unfold loS; split <;> omega
          rw [← hend]
          have hcase : (((p : Int) == 0) = false ∧ loS p s = 0) ∨ (((p : Int) == 0) = true ∧ ((s : Int) == 0) = false ∧ loS p s = 0) ∨ (((p : Int) == 0) = true ∧ ((s : Int) == 0) = true ∧ loS p s = 2) := by
            unfold loS
            rcases Nat.eq_zero_or_pos p with h | h
            · rcases Nat.eq_zero_or_pos s with h' | h'
              · right; right; rw [if_pos ⟨h, h'⟩]; simp [h, h']
              · right; left; rw [if_neg (by omega)]; refine ⟨by simp; omega, by simp; omega, rfl⟩
            · left; rw [if_neg (by omega)]; refine ⟨by simp; omega, rfl⟩
          rcases hcase with ⟨hp0, hlo⟩ | ⟨hp0, hs0, hlo⟩ | ⟨hp0, hs0, hlo⟩
          · refine go27 (an hll hp0) ?_
            refine loop_count (good27 0) (fun k => ⟨envL [(0, .v (.int .i64 n)), (4, .ptr 2 0 0), (10, .ptr 0 0 0)], [some [.v (.int .i64 t), .v (.int .i64 m), .v (.int .i64 L), .v (.int .i64 q), .sl 1 0 128 0 Q Q, .v (.int .i64 p), .v (.int .i64 s), .v (.int .i64 l), .v (.int .i64 (loS p s + k : Nat))], some [.arr N .u64 (fsK p s l t L part fl k).flatten], some [.v (.int .i64 t), .v (.int .i64 m), .v (.int .i64 L)]]⟩) (part - loS p s) (by kernel_rfl) ?_ ?_ ?_
            · rw [h00, hlo]
              exact wk nf
            · intro k hk
              have hlt : (((loS p s + k : Nat) : Int) < (part : Int)) = True := by simp; omega
              have h8 : p = 0 → s = 0 → 2 ≤ loS p s + k := by intro e1 e2; unfold loS; rw [if_pos ⟨e1, e2⟩]; omega
              have hspec := rmpage_spec p s l (loS p s + k) t L part m (fsK p s l t L part fl k) (fsK_good hgl hs hl h7.1 k (by omega)) (by omega) hs hl (by omega) hL ht.2 h7 h8
              rw [fsK_succ (by rw [hgl.len]; exact hl) k, ← hq, ← hQ, ← hN] at hspec
              refine go27 (an wq4 hlt) ?_
              refine callC_fr [0, 1] hspec rfl rfl (by decide) ?_
              rintro _ _ ⟨rfl, rfl⟩
              refine go27 exG ?_
              exact wk @Nat.add_assoc
            · have hlast : loS p s + (part - loS p s) = part := by omega
              rw [hlast]
              refine go27 wq4 ?_
              refine ⟨(part : Int), ?_⟩
              exact wk nf
          · refine go27 (an hll (an hp0 hs0)) ?_
            refine loop_count (good27 0) (fun k => ⟨envL [(0, .v (.int .i64 n)), (4, .ptr 2 0 0), (10, .ptr 0 0 0)], [some [.v (.int .i64 t), .v (.int .i64 m), .v (.int .i64 L), .v (.int .i64 q), .sl 1 0 128 0 Q Q, .v (.int .i64 p), .v (.int .i64 s), .v (.int .i64 l), .v (.int .i64 (loS p s + k : Nat))], some [.arr N .u64 (fsK p s l t L part fl k).flatten], some [.v (.int .i64 t), .v (.int .i64 m), .v (.int .i64 L)]]⟩) (part - loS p s) (by kernel_rfl) ?_ ?_ ?_
            · rw [h00, hlo]
              exact wk nf
            · intro k hk
              have hlt : (((loS p s + k : Nat) : Int) < (part : Int)) = True := by simp; omega
              have h8 : p = 0 → s = 0 → 2 ≤ loS p s + k := by intro e1 e2; unfold loS; rw [if_pos ⟨e1, e2⟩]; omega
              have hspec := rmpage_spec p s l (loS p s + k) t L part m (fsK p s l t L part fl k) (fsK_good hgl hs hl h7.1 k (by omega)) (by omega) hs hl (by omega) hL ht.2 h7 h8
              rw [fsK_succ (by rw [hgl.len]; exact hl) k, ← hq, ← hQ, ← hN] at hspec
              refine go27 (an wq4 hlt) ?_
              refine callC_fr [0, 1] hspec rfl rfl (by decide) ?_
              rintro _ _ ⟨rfl, rfl⟩
              refine go27 exG ?_
              exact wk @Nat.add_assoc
            · have hlast : loS p s + (part - loS p s) = part := by omega
              rw [hlast]
              refine go27 wq4 ?_
              refine ⟨(part : Int), ?_⟩
              exact wk nf
          · refine go27 (an hll (an hp0 hs0)) ?_
            refine loop_count (good27 0) (fun k => ⟨envL [(0, .v (.int .i64 n)), (4, .ptr 2 0 0), (10, .ptr 0 0 0)], [some [.v (.int .i64 t), .v (.int .i64 m), .v (.int .i64 L), .v (.int .i64 q), .sl 1 0 128 0 Q Q, .v (.int .i64 p), .v (.int .i64 s), .v (.int .i64 l), .v (.int .i64 (loS p s + k : Nat))], some [.arr N .u64 (fsK p s l t L part fl k).flatten], some [.v (.int .i64 t), .v (.int .i64 m), .v (.int .i64 L)]]⟩) (part - loS p s) (by kernel_rfl) ?_ ?_ ?_
            · rw [h00, hlo]
              exact wk nf
            · intro k hk
              have hlt : (((loS p s + k : Nat) : Int) < (part : Int)) = True := by simp; omega
              have h8 : p = 0 → s = 0 → 2 ≤ loS p s + k := by intro e1 e2; unfold loS; rw [if_pos ⟨e1, e2⟩]; omega
              have hspec := rmpage_spec p s l (loS p s + k) t L part m (fsK p s l t L part fl k) (fsK_good hgl hs hl h7.1 k (by omega)) (by omega) hs hl (by omega) hL ht.2 h7 h8
              rw [fsK_succ (by rw [hgl.len]; exact hl) k, ← hq, ← hQ, ← hN] at hspec
              refine go27 (an wq4 hlt) ?_
              refine callC_fr [0, 1] hspec rfl rfl (by decide) ?_
              rintro _ _ ⟨rfl, rfl⟩
              refine go27 exG ?_
              exact wk @Nat.add_assoc
            · have hlast : loS p s + (part - loS p s) = part := by omega
              rw [hlast]
              refine go27 wq4 ?_
              refine ⟨(part : Int), ?_⟩
              exact wk nf
        · intro a0
          refine go27 nf ?_
          refine ⟨((L : Int), a0), ?_⟩
          exact wk nf
      · rintro ⟨l0, a0⟩
        refine go27 nf ?_
        refine ⟨(4, l0, a0), ?_⟩
        exact wk nf
    · rintro ⟨s0, l0, a0⟩
      obtain ⟨fs, hfs⟩ : ∃ fs, fs = passS t L part fs0 t := ⟨_, rfl⟩
      have hg := passS_good (t := t) hg0 h7.1 t
      rw [← hfs] at hg hpb ⊢
      have hlen : ∀ g ∈ fs, g.length = q * 128 := fun g hg' => by rw [hq]; exact hg.lane g hg'
      have hFl : (fs.flatten).length = N := by rw [flat_len hlen, hg.len, hN, hQ, Nat.mul_comm L, Nat.mul_right_comm]
      refine go27 nf ?_
      refine loop_count (good27 0) (fun l => ⟨envL [(0, .v (.int .i64 n)), (4, .ptr 2 0 0), (10, .ptr 0 0 0), (15, .ptr 3 0 0), (16, .v (.int .i64 l))], [some [.v (.int .i64 t), .v (.int .i64 m), .v (.int .i64 L), .v (.int .i64 q), .sl 1 0 128 0 Q Q, .v (.int .i64 t), .v (.int .i64 s0), .v (.int .i64 l0), .v (.int .i64 a0)], some [.arr N .u64 (fs).flatten], some [.v (.int .i64 t), .v (.int .i64 m), .v (.int .i64 L)], some [.arr 128 .u64 (sumS q fs l)]]⟩) L (by kernel_rfl) ?_ ?_ ?_
      · (refine weak_of ?_ ?_; (focus (first | with_reducible rfl | (simp only [sumS, Int.natCast_zero] <;> with_reducible rfl))); simp only [exF, Nat.reduceEqDiff, if_true, if_false, reduceIte, Option.some.injEq, reduceCtorEq, Int.cast_ofNat_Int, sumS, Int.natCast_zero])
      · intro l hl
        have hll : ((l : Int) < (L : Int)) = True := by simp; omega
        have hS : sumS q fs (l + 1) = xorK (sumS q fs l) (pageAt (fs.getD l []) (q - 1)) 128 := rfl
        rw [hS]
        have hsum := sumS_len q fs l
        obtain ⟨ql, hqe⟩ : ∃ ql, ql = q * l := ⟨_, rfl⟩
        have hqe2 : q * l = ql := hqe.symm
        have hqL : ql + q ≤ Q := by rw [hqe, hQ, ← Nat.mul_succ]; exact Nat.mul_le_mul_left q hl
        have wql : IntKind.i64.wrap ((q : Int) * (l : Int)) = (ql : Int) := by rw [← Int.natCast_mul, ← hqe]; exact wrap_i64_id _ (by omega)
        have hpage : pageAt fs.flatten (ql + q - 1) = pageAt (fs.getD l []) (q - 1) := by
          rw [show ql + q - 1 = q * l + (q - 1) by omega]; exact page_flat hg.len hlen hl (by omega)
        have hpgl : (pageAt (fs.getD l []) (q - 1)).length = 128 := pageAt_len (n := q) (hlen _ (hg.at hl)) (by omega)
        obtain ⟨F, hF⟩ : ∃ F, fs.flatten = F := ⟨_, rfl⟩
        obtain ⟨u, hu⟩ : ∃ u, sumS q fs l = u := ⟨_, rfl⟩
        obtain ⟨g, hgg⟩ : ∃ g, pageAt (fs.getD l []) (q - 1) = g := ⟨_, rfl⟩
        rw [hF] at hFl
        rw [hF, hgg] at hpage
        rw [hgg] at hpgl
        rw [hF, hu, hgg]
        rw [hu] at hsum
        have wq2 : IntKind.i64.wrap ((ql : Int) + (q : Int)) = ((ql + q : Nat) : Int) := by rw [wrap_i64_id _ (by omega)]; omega
        have wq3 : IntKind.i64.wrap (((ql + q : Nat) : Int) - 1) = ((ql + q - 1 : Nat) : Int) := by rw [wrap_i64_id _ (by omega)]; omega
        have hpj : List.take 128 (List.drop ((ql + q - 1) * 128) F) = g := hpage
        have hpj2 : List.drop ((ql + q - 1) * 128) F = g ∨ True := .inr trivial
        have hgt : List.take 128 g = g := List.take_of_length_le (by omega)
        refine go27 (an hll (an hqe2 (an wql (an wq2 (an wq3 (an hpj hgt)))))) ?_
        repeat with_reducible refine gd ?_
        refine loop_count (good27 0) (fun i => ⟨envL [(0, .v (.int .i64 n)), (4, .ptr 2 0 0), (10, .ptr 0 0 0), (15, .ptr 3 0 0), (16, .v (.int .i64 l)), (17, .ptr 4 0 0), (18, .v (.int .i64 i))], [some [.v (.int .i64 t), .v (.int .i64 m), .v (.int .i64 L), .v (.int .i64 q), .sl 1 0 128 0 Q Q, .v (.int .i64 t), .v (.int .i64 s0), .v (.int .i64 l0), .v (.int .i64 a0)], some [.arr N .u64 F], some [.v (.int .i64 t), .v (.int .i64 m), .v (.int .i64 L)], some [.arr 128 .u64 (xorK u g i)], some [.arr 128 .u64 g]]⟩) 128 (by kernel_rfl) ?_ ?_ ?_
        · (refine weak_of ?_ ?_; (focus (first | with_reducible rfl | (simp only [xorK, Int.natCast_zero] <;> with_reducible rfl))); simp only [exF, Nat.reduceEqDiff, if_true, if_false, reduceIte, Option.some.injEq, reduceCtorEq, Int.cast_ofNat_Int, xorK, Int.natCast_zero])
        · intro i hi
          have hxl : (xorK u g i).length = 128 := by rw [xorK_len, hsum]
          have hS : xorK u g (i + 1) = (xorK u g i).set i (xorU ((xorK u g i).getD i 0) (g.getD i 0)) := rfl
          rw [hS]
          obtain ⟨x, hx⟩ : ∃ x, xorK u g i = x := ⟨_, rfl⟩
          rw [hx] at hxl ⊢
          refine go27 nf ?_
          repeat with_reducible refine gd ?_
          exact wk nf
        · refine go27 nf ?_
          exact wgc [0, 1, 2, 3] nf
      · have hsum := sumS_len q fs L
        obtain ⟨u, hu⟩ : ∃ u, sumS q fs L = u := ⟨_, rfl⟩
        rw [hu] at hsum hpb ⊢
        have hut : List.take 128 u = u := List.take_of_length_le (by omega)
        have hpt2 : List.take 1024 pb = pb := List.take_of_length_le (by omega)
        refine go27 (an hsum (an hut (an hpb.symm (an hpl hpt2)))) ?_
        intro c8 _ c9 _
        exact ⟨_, _, _, _, _, _, rfl, rfl⟩
theorem rkey_ok (n t m L : Nat) (a b c d : List Int) (hok : okS n t m L a b c d = true) :
    ACall Try.prog 45 [.v (.int .i64 n), .agg [.v (.int .i64 t), .v (.int .i64 m), .v (.int .i64 L)], .agg [.roI .u8 a, .roI .u8 b, .roI .u8 c, .roI .u8 d]] [] fun v h' => ∃ k, v = .tup [.sl 0 0 1 0 n k, .v (.int .i64 0)] ∧ h' = [some [.arr n .u8 (longL n (le4 n ++ keyT t L (m / (4 * L)) (seedL n t m L a b c d)))]] := by
  have h0 := okS_iff.1 hok
  have hp := part_ok h0.2.2.1
  refine ACall.weak (C := c27 0) rfl (rkey_a n t m L (m / (4 * L)) (4 * (m / (4 * L))) (4 * (m / (4 * L)) * L) (4 * (m / (4 * L)) * L * 128) a b c d _ (by omega) ⟨hp.1, hp.2.1⟩ ⟨hp.2.2.1, hp.2.2.2.1⟩ hp.2.2.2.2.1 hok h0.2.2.1 rfl hp.2.2.2.2.2 rfl rfl rfl rfl (by unfold seedL; rw [blakeL_len]) _ rfl (keyT t L (m / (4 * L)) (seedL n t m L a b c d)) rfl (pageB_len _)) ?_
  rintro v h' ⟨x0, x1, x2, x3, x4, k, rfl, rfl⟩
  exact ⟨_, _, weak_gc' [5] (by decide) (by simp) (by rfl) rfl ⟨rfl, trivial⟩, _, rfl, rfl⟩
end Go.Proofs.Ytfnfmbikooeiaaa

namespace Go.Proofs.Ytfnfmbikooeiaaa
open Go.Ax
noncomputable def n30 : FuncId → Option (List Blk → List AV → Option Out) := addNews n28 45 N44
noncomputable def c30 (k : Nat) : Cfg := ⟨Try.prog, k, p29, [1], n30, none, []⟩
theorem c30_odd (k : Nat) : (c30 k).odd = [1] := rfl
theorem c30_ro (k : Nat) : (c30 k).ro = [] := rfl
theorem c30_P (k : Nat) : (c30 k).P = Try.prog := rfl
theorem c30_pure (k : Nat) : (c30 k).pure = p29 := rfl
theorem c30_news (k : Nat) : (c30 k).news = n30 := rfl
theorem xc30 :
  (type_of% @c30_pure) ∧
  (type_of% @c30_news) ∧
  (type_of% @n30.eq_1) :=
  ⟨@c30_pure, @c30_news, @n30.eq_1⟩
theorem go30 {F A B : Prop} (f : F) (b : B) (h : F → A = B := by intro f; (repeat (first | simp only [c30_P, c30_odd, c30_ro, Nat.reduceBEq, reduceIte, Nat.reduceEqDiff, reduceCtorEq, ne_eq, if_true, if_false, exA, exA, tabs, exB, exD, buildA, rowOr, rowSetAt, rowAgg, mkAgg, AV.isAggV, AV.parts, AV.one, AV.solid, headSize, indexAddrA, indexA, fieldAddrA, fieldA, sliceA, boundsA, bndA, lenA, arrayAtA, rowOf, makeSliceA, intsOf, copyA, Nat.reduceAdd, Nat.reduceSub, Nat.reduceMul, Nat.reduceLeDiff, Nat.reduceLT, Nat.reduceGT, Int.reduceToNat, Int.reduceLE, Int.reduceLT, Int.reduceEq, Int.reduceNe, Int.reduceAdd, Int.reduceSub, Int.reduceMul, Int.reduceNeg, ite_true, ite_false, dite_true, xc10, xc11, xc12, xc13, xc14, xc15, xc16, xc17, xc20, xc21, xc22, xc23, xc24, xc25, xc26, xc28, xc29, xc30, run_range, exR, f] | simp (maxSteps := 1000000) (disch := omega) only [exE, Int.toNat_natCast, Int.reduceToNat])); all_goals rfl) : A := Eq.mpr (h f) b
theorem good30 (k : Nat) : (c30 k).Good := Cfg.Good.addN (good29 k) (key_use rkey_bad (key_int rkey_ok)) k
theorem cond_ren (c : Bool) (x y : AV) (g : Nat → Nat) : (cond c x y).ren g = cond c (x.ren g) (y.ren g) := by cases c <;> rfl
theorem cond_map (c : Bool) (x y : Blk) (g : List AV → List AV) : Option.map g (cond c x y) = cond c (Option.map g x) (Option.map g y) := by cases c <;> rfl
theorem weak_pads {C : Cfg} {e : Env} : ∀ (n : Nat) (h : List Blk), Weak C ⟨e, h⟩ ⟨e, h ++ List.replicate n (some [.arr 0 .u8 []])⟩
  | 0, h => by simpa using Weak.refl C _
  | n + 1, h => by
    have := weak_pads (C := C) (e := e) n (h ++ [some [.arr 0 .u8 []]])
    rw [List.append_assoc] at this
    exact (weak_pad .u8).trans this
theorem cvt (x y : AV) : cond true x y = x := rfl
theorem cvf (x y : AV) : cond false x y = y := rfl
theorem cbt (x y : Blk) : cond true x y = x := rfl
theorem cbf (x y : Blk) : cond false x y = y := rfl
def keyS (n t m l : Int) (a b c d : List Int) (D : Nat → Bool) (q : Nat × Nat × Nat × Nat) : St :=
  ⟨envL [(0, .v (.int .i64 n)), (4, .ptr 0 0 0), (5, .ptr 1 0 0), (6, .v (.bool false)),
    (12, cond (D 0) (.sl 2 0 1 0 0 0) .any), (13, cond (D 1) (.ptr 1 0 0) .any), (14, cond (D 2) (.roI .u8 a) .any), (15, cond (D 3) (.sl 7 0 1 0 a.length q.1) .any),
    (16, cond (D 4) (.sl 3 0 1 0 0 0) .any), (17, cond (D 5) (.ptr 1 1 0) .any), (18, cond (D 6) (.roI .u8 b) .any), (19, cond (D 7) (.sl 8 0 1 0 b.length q.2.1) .any),
    (20, cond (D 8) (.sl 4 0 1 0 0 0) .any), (21, cond (D 9) (.ptr 1 2 0) .any), (22, cond (D 10) (.roI .u8 c) .any), (23, cond (D 11) (.sl 9 0 1 0 c.length q.2.2.1) .any),
    (24, cond (D 12) (.sl 5 0 1 0 0 0) .any), (25, cond (D 13) (.ptr 1 3 0) .any), (26, cond (D 14) (.roI .u8 d) .any), (27, cond (D 15) (.sl 10 0 1 0 d.length q.2.2.2) .any),
    (28, cond (D 16) (.agg [.sl 7 0 1 0 a.length q.1, .sl 8 0 1 0 b.length q.2.1, .sl 9 0 1 0 c.length q.2.2.1, .sl 10 0 1 0 d.length q.2.2.2]) .any), (7, cond (D 17) (.ptr 6 0 0) .any)],
   [some [.v (.int .i64 t), .v (.int .i64 m), .v (.int .i64 l)], some [.roI .u8 a, .roI .u8 b, .roI .u8 c, .roI .u8 d],
    cond (D 3) none (some [.arr 0 .u8 []]), cond (D 7) none (some [.arr 0 .u8 []]), cond (D 11) none (some [.arr 0 .u8 []]), cond (D 15) none (some [.arr 0 .u8 []]),
    cond (D 18) (some [.sl 7 0 1 0 a.length q.1, .sl 8 0 1 0 b.length q.2.1, .sl 9 0 1 0 c.length q.2.2.1, .sl 10 0 1 0 d.length q.2.2.2]) (cond (D 17) (some [.v (.slice none 0 0), .v (.slice none 0 0), .v (.slice none 0 0), .v (.slice none 0 0)]) (some [.arr 0 .u8 []])),
    cond (D 3) (some [.arr a.length .u8 a]) (some [.arr 0 .u8 []]), cond (D 7) (some [.arr b.length .u8 b]) (some [.arr 0 .u8 []]), cond (D 11) (some [.arr c.length .u8 c]) (some [.arr 0 .u8 []]), cond (D 15) (some [.arr d.length .u8 d]) (some [.arr 0 .u8 []])]⟩
theorem law_keys (n t m l : Int) (a b c d : List Int) (ha : a.length ≤ 1048576) (hb : b.length ≤ 1048576) (hc : c.length ≤ 1048576) (hd : d.length ≤ 1048576) :
    ACall Try.prog 16 [.v (.int .i64 n), .agg [.v (.int .i64 t), .v (.int .i64 m), .v (.int .i64 l)], .agg [.roI .u8 a, .roI .u8 b, .roI .u8 c, .roI .u8 d]] [] fun v _ => v = .v (.bool true) := by
  have hat : a.take a.length = a := List.take_length
  have hbt : b.take b.length = b := List.take_length
  have hct : c.take c.length = c := List.take_length
  have hdt : d.take d.length = d := List.take_length
  have hz0 : List.replicate 0 (0 : Int) = [] := rfl
  refine bd (good30 0) Try.func16 ?_
  refine go30 nf ?_
  refine oddT_of (good30 0) (keyS n t m l a b c d) (by kernel_rfl) ⟨(0, 0, 0, 0), ?_⟩ ?_ ?_
  · refine Weak.trans (weak_pads 9 _) ?_
    unfold keyS
    simp only [cond_true, cond_false, List.replicate_succ, List.replicate_zero, List.cons_append, List.nil_append]
    (refine weak_of ?_ ?_; (focus (first | with_reducible rfl | (simp only [List.getD_nil] <;> with_reducible rfl))); simp only [exF, Nat.reduceEqDiff, if_true, if_false, reduceIte, Option.some.injEq, reduceCtorEq, Int.cast_ofNat_Int, List.getD_nil])
  · simp only [stepsR]
    refine ⟨?_, ?_, ?_, ?_, ?_, ?_, ?_, ?_, ?_, ?_, ?_, ?_, ?_, ?_, ?_, ?_, ?_, ?_, ?_, trivial⟩
    · intro D q hi hD hcl
      have u3 : D 3 = false := undone hi hcl (j := 3) rfl (by kernel_rfl)
      clear hcl
      clear hD
      unfold keyS
      refine go30 (an hi (an u3 (an @cvt (an @cvf (an @cbt (an @cbf (an hat (an hbt (an hct (an hdt hz0)))))))))) ?_
      refine ⟨q, ?_⟩
      simp only [upd_eq, Nat.reduceEqDiff, if_true, if_false, reduceIte, hi, u3, cond_true, cond_false]
      (refine weak_gc' [0, 1, 11, 3, 4, 5, 6, 7, 8, 9, 10] (by decide) (by simp) (by rfl) ?_ ?_; (focus (first | with_reducible rfl | (simp only [List.map_cons, List.map_nil, List.cons_append, List.nil_append, List.getElem?_cons_zero, List.getElem?_cons_succ, renB, renL, Option.map_some, Option.map_none, AV.ren, gcMap, List.getD_cons_zero, List.getD_cons_succ, cond_ren, cond_map, cvt, cvf, cbt, cbf, hz0] <;> with_reducible rfl))); simp only [exF, List.map_cons, List.map_nil, List.length_cons, List.length_nil, Nat.reduceAdd, AV.ren, renL, gcMap, Nat.reduceEqDiff, if_true, if_false, reduceIte, Option.some.injEq, reduceCtorEq, Int.cast_ofNat_Int, cond_ren, cond_map, cvt, cvf, cbt, cbf, hz0])
    · intro D q hi hD hcl
      clear hcl
      clear hD
      unfold keyS
      refine go30 (an hi (an @cvt (an @cvf (an @cbt (an @cbf (an hat (an hbt (an hct (an hdt hz0))))))))) ?_
      refine ⟨q, ?_⟩
      simp only [upd_eq, Nat.reduceEqDiff, if_true, if_false, reduceIte, hi, cond_true, cond_false]
      (refine weak_of ?_ ?_; (focus (first | with_reducible rfl | (simp only [] <;> with_reducible rfl))); simp only [exF, Nat.reduceEqDiff, if_true, if_false, reduceIte, Option.some.injEq, reduceCtorEq, Int.cast_ofNat_Int])
    · intro D q hi hD hcl
      clear hcl
      have d1 : D 1 = true := List.all_eq_true.1 hD 1 (by decide)
      clear hD
      unfold keyS
      refine go30 (an hi (an d1 (an @cvt (an @cvf (an @cbt (an @cbf (an hat (an hbt (an hct (an hdt hz0)))))))))) ?_
      refine ⟨q, ?_⟩
      simp only [upd_eq, Nat.reduceEqDiff, if_true, if_false, reduceIte, hi, d1, cond_true, cond_false]
      (refine weak_of ?_ ?_; (focus (first | with_reducible rfl | (simp only [] <;> with_reducible rfl))); simp only [exF, Nat.reduceEqDiff, if_true, if_false, reduceIte, Option.some.injEq, reduceCtorEq, Int.cast_ofNat_Int])
    · intro D q hi hD hcl
      have u16 : D 16 = false := undone hi hcl (j := 16) rfl (by kernel_rfl)
      have u18 : D 18 = false := undone hi hcl (j := 18) rfl (by kernel_rfl)
      clear hcl
      have d0 : D 0 = true := List.all_eq_true.1 hD 0 (by decide)
      have d2 : D 2 = true := List.all_eq_true.1 hD 2 (by decide)
      clear hD
      unfold keyS
      refine go30 (an hi (an u16 (an u18 (an d0 (an d2 (an @cvt (an @cvf (an @cbt (an @cbf (an hat (an hbt (an hct (an hdt hz0))))))))))))) ?_
      intro k _
      refine ⟨(k, q.2), ?_⟩
      simp only [upd_eq, Nat.reduceEqDiff, if_true, if_false, reduceIte, hi, u16, u18, d0, d2, cond_true, cond_false]
      (refine weak_gc' [0, 1, 2, 3, 4, 5, 6, 11, 8, 9, 10] (by decide) (by simp) (by rfl) ?_ ?_; (focus (first | with_reducible rfl | (simp only [List.map_cons, List.map_nil, List.cons_append, List.nil_append, List.getElem?_cons_zero, List.getElem?_cons_succ, renB, renL, Option.map_some, Option.map_none, AV.ren, gcMap, List.getD_cons_zero, List.getD_cons_succ, cond_ren, cond_map, cvt, cvf, cbt, cbf, hz0] <;> with_reducible rfl))); simp only [exF, List.map_cons, List.map_nil, List.length_cons, List.length_nil, Nat.reduceAdd, AV.ren, renL, gcMap, Nat.reduceEqDiff, if_true, if_false, reduceIte, Option.some.injEq, reduceCtorEq, Int.cast_ofNat_Int, cond_ren, cond_map, cvt, cvf, cbt, cbf, hz0])
    · intro D q hi hD hcl
      have u7 : D 7 = false := undone hi hcl (j := 7) rfl (by kernel_rfl)
      clear hcl
      clear hD
      unfold keyS
      refine go30 (an hi (an u7 (an @cvt (an @cvf (an @cbt (an @cbf (an hat (an hbt (an hct (an hdt hz0)))))))))) ?_
      refine ⟨q, ?_⟩
      simp only [upd_eq, Nat.reduceEqDiff, if_true, if_false, reduceIte, hi, u7, cond_true, cond_false]
      (refine weak_gc' [0, 1, 2, 11, 4, 5, 6, 7, 8, 9, 10] (by decide) (by simp) (by rfl) ?_ ?_; (focus (first | with_reducible rfl | (simp only [List.map_cons, List.map_nil, List.cons_append, List.nil_append, List.getElem?_cons_zero, List.getElem?_cons_succ, renB, renL, Option.map_some, Option.map_none, AV.ren, gcMap, List.getD_cons_zero, List.getD_cons_succ, cond_ren, cond_map, cvt, cvf, cbt, cbf, hz0] <;> with_reducible rfl))); simp only [exF, List.map_cons, List.map_nil, List.length_cons, List.length_nil, Nat.reduceAdd, AV.ren, renL, gcMap, Nat.reduceEqDiff, if_true, if_false, reduceIte, Option.some.injEq, reduceCtorEq, Int.cast_ofNat_Int, cond_ren, cond_map, cvt, cvf, cbt, cbf, hz0])
    · intro D q hi hD hcl
      clear hcl
      clear hD
      unfold keyS
      refine go30 (an hi (an @cvt (an @cvf (an @cbt (an @cbf (an hat (an hbt (an hct (an hdt hz0))))))))) ?_
      refine ⟨q, ?_⟩
      simp only [upd_eq, Nat.reduceEqDiff, if_true, if_false, reduceIte, hi, cond_true, cond_false]
      (refine weak_of ?_ ?_; (focus (first | with_reducible rfl | (simp only [] <;> with_reducible rfl))); simp only [exF, Nat.reduceEqDiff, if_true, if_false, reduceIte, Option.some.injEq, reduceCtorEq, Int.cast_ofNat_Int])
    · intro D q hi hD hcl
      clear hcl
      have d5 : D 5 = true := List.all_eq_true.1 hD 5 (by decide)
      clear hD
      unfold keyS
      refine go30 (an hi (an d5 (an @cvt (an @cvf (an @cbt (an @cbf (an hat (an hbt (an hct (an hdt hz0)))))))))) ?_
      refine ⟨q, ?_⟩
      simp only [upd_eq, Nat.reduceEqDiff, if_true, if_false, reduceIte, hi, d5, cond_true, cond_false]
      (refine weak_of ?_ ?_; (focus (first | with_reducible rfl | (simp only [] <;> with_reducible rfl))); simp only [exF, Nat.reduceEqDiff, if_true, if_false, reduceIte, Option.some.injEq, reduceCtorEq, Int.cast_ofNat_Int])
    · intro D q hi hD hcl
      have u16 : D 16 = false := undone hi hcl (j := 16) rfl (by kernel_rfl)
      have u18 : D 18 = false := undone hi hcl (j := 18) rfl (by kernel_rfl)
      clear hcl
      have d4 : D 4 = true := List.all_eq_true.1 hD 4 (by decide)
      have d6 : D 6 = true := List.all_eq_true.1 hD 6 (by decide)
      have d3 : D 3 = true := List.all_eq_true.1 hD 3 (by decide)
      clear hD
      unfold keyS
      refine go30 (an hi (an u16 (an u18 (an d4 (an d6 (an d3 (an @cvt (an @cvf (an @cbt (an @cbf (an hat (an hbt (an hct (an hdt hz0)))))))))))))) ?_
      intro k _
      refine ⟨(q.1, k, q.2.2), ?_⟩
      simp only [upd_eq, Nat.reduceEqDiff, if_true, if_false, reduceIte, hi, u16, u18, d4, d6, d3, cond_true, cond_false]
      (refine weak_gc' [0, 1, 2, 3, 4, 5, 6, 7, 11, 9, 10] (by decide) (by simp) (by rfl) ?_ ?_; (focus (first | with_reducible rfl | (simp only [List.map_cons, List.map_nil, List.cons_append, List.nil_append, List.getElem?_cons_zero, List.getElem?_cons_succ, renB, renL, Option.map_some, Option.map_none, AV.ren, gcMap, List.getD_cons_zero, List.getD_cons_succ, cond_ren, cond_map, cvt, cvf, cbt, cbf, hz0] <;> with_reducible rfl))); simp only [exF, List.map_cons, List.map_nil, List.length_cons, List.length_nil, Nat.reduceAdd, AV.ren, renL, gcMap, Nat.reduceEqDiff, if_true, if_false, reduceIte, Option.some.injEq, reduceCtorEq, Int.cast_ofNat_Int, cond_ren, cond_map, cvt, cvf, cbt, cbf, hz0])
    · intro D q hi hD hcl
      have u11 : D 11 = false := undone hi hcl (j := 11) rfl (by kernel_rfl)
      clear hcl
      clear hD
      unfold keyS
      refine go30 (an hi (an u11 (an @cvt (an @cvf (an @cbt (an @cbf (an hat (an hbt (an hct (an hdt hz0)))))))))) ?_
      refine ⟨q, ?_⟩
      simp only [upd_eq, Nat.reduceEqDiff, if_true, if_false, reduceIte, hi, u11, cond_true, cond_false]
      (refine weak_gc' [0, 1, 2, 3, 11, 5, 6, 7, 8, 9, 10] (by decide) (by simp) (by rfl) ?_ ?_; (focus (first | with_reducible rfl | (simp only [List.map_cons, List.map_nil, List.cons_append, List.nil_append, List.getElem?_cons_zero, List.getElem?_cons_succ, renB, renL, Option.map_some, Option.map_none, AV.ren, gcMap, List.getD_cons_zero, List.getD_cons_succ, cond_ren, cond_map, cvt, cvf, cbt, cbf, hz0] <;> with_reducible rfl))); simp only [exF, List.map_cons, List.map_nil, List.length_cons, List.length_nil, Nat.reduceAdd, AV.ren, renL, gcMap, Nat.reduceEqDiff, if_true, if_false, reduceIte, Option.some.injEq, reduceCtorEq, Int.cast_ofNat_Int, cond_ren, cond_map, cvt, cvf, cbt, cbf, hz0])
    · intro D q hi hD hcl
      clear hcl
      clear hD
      unfold keyS
      refine go30 (an hi (an @cvt (an @cvf (an @cbt (an @cbf (an hat (an hbt (an hct (an hdt hz0))))))))) ?_
      refine ⟨q, ?_⟩
      simp only [upd_eq, Nat.reduceEqDiff, if_true, if_false, reduceIte, hi, cond_true, cond_false]
      (refine weak_of ?_ ?_; (focus (first | with_reducible rfl | (simp only [] <;> with_reducible rfl))); simp only [exF, Nat.reduceEqDiff, if_true, if_false, reduceIte, Option.some.injEq, reduceCtorEq, Int.cast_ofNat_Int])
    · intro D q hi hD hcl
      clear hcl
      have d9 : D 9 = true := List.all_eq_true.1 hD 9 (by decide)
      clear hD
      unfold keyS
      refine go30 (an hi (an d9 (an @cvt (an @cvf (an @cbt (an @cbf (an hat (an hbt (an hct (an hdt hz0)))))))))) ?_
      refine ⟨q, ?_⟩
      simp only [upd_eq, Nat.reduceEqDiff, if_true, if_false, reduceIte, hi, d9, cond_true, cond_false]
      (refine weak_of ?_ ?_; (focus (first | with_reducible rfl | (simp only [] <;> with_reducible rfl))); simp only [exF, Nat.reduceEqDiff, if_true, if_false, reduceIte, Option.some.injEq, reduceCtorEq, Int.cast_ofNat_Int])
    · intro D q hi hD hcl
      have u16 : D 16 = false := undone hi hcl (j := 16) rfl (by kernel_rfl)
      have u18 : D 18 = false := undone hi hcl (j := 18) rfl (by kernel_rfl)
      clear hcl
      have d8 : D 8 = true := List.all_eq_true.1 hD 8 (by decide)
      have d10 : D 10 = true := List.all_eq_true.1 hD 10 (by decide)
      have d7 : D 7 = true := List.all_eq_true.1 hD 7 (by decide)
      clear hD
      unfold keyS
      refine go30 (an hi (an u16 (an u18 (an d8 (an d10 (an d7 (an @cvt (an @cvf (an @cbt (an @cbf (an hat (an hbt (an hct (an hdt hz0)))))))))))))) ?_
      intro k _
      refine ⟨(q.1, q.2.1, k, q.2.2.2), ?_⟩
      simp only [upd_eq, Nat.reduceEqDiff, if_true, if_false, reduceIte, hi, u16, u18, d8, d10, d7, cond_true, cond_false]
      (refine weak_gc' [0, 1, 2, 3, 4, 5, 6, 7, 8, 11, 10] (by decide) (by simp) (by rfl) ?_ ?_; (focus (first | with_reducible rfl | (simp only [List.map_cons, List.map_nil, List.cons_append, List.nil_append, List.getElem?_cons_zero, List.getElem?_cons_succ, renB, renL, Option.map_some, Option.map_none, AV.ren, gcMap, List.getD_cons_zero, List.getD_cons_succ, cond_ren, cond_map, cvt, cvf, cbt, cbf, hz0] <;> with_reducible rfl))); simp only [exF, List.map_cons, List.map_nil, List.length_cons, List.length_nil, Nat.reduceAdd, AV.ren, renL, gcMap, Nat.reduceEqDiff, if_true, if_false, reduceIte, Option.some.injEq, reduceCtorEq, Int.cast_ofNat_Int, cond_ren, cond_map, cvt, cvf, cbt, cbf, hz0])
    · intro D q hi hD hcl
      have u15 : D 15 = false := undone hi hcl (j := 15) rfl (by kernel_rfl)
      clear hcl
      clear hD
      unfold keyS
      refine go30 (an hi (an u15 (an @cvt (an @cvf (an @cbt (an @cbf (an hat (an hbt (an hct (an hdt hz0)))))))))) ?_
      refine ⟨q, ?_⟩
      simp only [upd_eq, Nat.reduceEqDiff, if_true, if_false, reduceIte, hi, u15, cond_true, cond_false]
      (refine weak_gc' [0, 1, 2, 3, 4, 11, 6, 7, 8, 9, 10] (by decide) (by simp) (by rfl) ?_ ?_; (focus (first | with_reducible rfl | (simp only [List.map_cons, List.map_nil, List.cons_append, List.nil_append, List.getElem?_cons_zero, List.getElem?_cons_succ, renB, renL, Option.map_some, Option.map_none, AV.ren, gcMap, List.getD_cons_zero, List.getD_cons_succ, cond_ren, cond_map, cvt, cvf, cbt, cbf, hz0] <;> with_reducible rfl))); simp only [exF, List.map_cons, List.map_nil, List.length_cons, List.length_nil, Nat.reduceAdd, AV.ren, renL, gcMap, Nat.reduceEqDiff, if_true, if_false, reduceIte, Option.some.injEq, reduceCtorEq, Int.cast_ofNat_Int, cond_ren, cond_map, cvt, cvf, cbt, cbf, hz0])
    · intro D q hi hD hcl
      clear hcl
      clear hD
      unfold keyS
      refine go30 (an hi (an @cvt (an @cvf (an @cbt (an @cbf (an hat (an hbt (an hct (an hdt hz0))))))))) ?_
      refine ⟨q, ?_⟩
      simp only [upd_eq, Nat.reduceEqDiff, if_true, if_false, reduceIte, hi, cond_true, cond_false]
      (refine weak_of ?_ ?_; (focus (first | with_reducible rfl | (simp only [] <;> with_reducible rfl))); simp only [exF, Nat.reduceEqDiff, if_true, if_false, reduceIte, Option.some.injEq, reduceCtorEq, Int.cast_ofNat_Int])
    · intro D q hi hD hcl
      clear hcl
      have d13 : D 13 = true := List.all_eq_true.1 hD 13 (by decide)
      clear hD
      unfold keyS
      refine go30 (an hi (an d13 (an @cvt (an @cvf (an @cbt (an @cbf (an hat (an hbt (an hct (an hdt hz0)))))))))) ?_
      refine ⟨q, ?_⟩
      simp only [upd_eq, Nat.reduceEqDiff, if_true, if_false, reduceIte, hi, d13, cond_true, cond_false]
      (refine weak_of ?_ ?_; (focus (first | with_reducible rfl | (simp only [] <;> with_reducible rfl))); simp only [exF, Nat.reduceEqDiff, if_true, if_false, reduceIte, Option.some.injEq, reduceCtorEq, Int.cast_ofNat_Int])
    · intro D q hi hD hcl
      have u16 : D 16 = false := undone hi hcl (j := 16) rfl (by kernel_rfl)
      have u18 : D 18 = false := undone hi hcl (j := 18) rfl (by kernel_rfl)
      clear hcl
      have d12 : D 12 = true := List.all_eq_true.1 hD 12 (by decide)
      have d14 : D 14 = true := List.all_eq_true.1 hD 14 (by decide)
      have d11 : D 11 = true := List.all_eq_true.1 hD 11 (by decide)
      clear hD
      unfold keyS
      refine go30 (an hi (an u16 (an u18 (an d12 (an d14 (an d11 (an @cvt (an @cvf (an @cbt (an @cbf (an hat (an hbt (an hct (an hdt hz0)))))))))))))) ?_
      intro k _
      refine ⟨(q.1, q.2.1, q.2.2.1, k), ?_⟩
      simp only [upd_eq, Nat.reduceEqDiff, if_true, if_false, reduceIte, hi, u16, u18, d12, d14, d11, cond_true, cond_false]
      (refine weak_gc' [0, 1, 2, 3, 4, 5, 6, 7, 8, 9, 11] (by decide) (by simp) (by rfl) ?_ ?_; (focus (first | with_reducible rfl | (simp only [List.map_cons, List.map_nil, List.cons_append, List.nil_append, List.getElem?_cons_zero, List.getElem?_cons_succ, renB, renL, Option.map_some, Option.map_none, AV.ren, gcMap, List.getD_cons_zero, List.getD_cons_succ, cond_ren, cond_map, cvt, cvf, cbt, cbf, hz0] <;> with_reducible rfl))); simp only [exF, List.map_cons, List.map_nil, List.length_cons, List.length_nil, Nat.reduceAdd, AV.ren, renL, gcMap, Nat.reduceEqDiff, if_true, if_false, reduceIte, Option.some.injEq, reduceCtorEq, Int.cast_ofNat_Int, cond_ren, cond_map, cvt, cvf, cbt, cbf, hz0])
    · intro D q hi hD hcl
      clear hcl
      have d3 : D 3 = true := List.all_eq_true.1 hD 3 (by decide)
      have d7 : D 7 = true := List.all_eq_true.1 hD 7 (by decide)
      have d11 : D 11 = true := List.all_eq_true.1 hD 11 (by decide)
      have d15 : D 15 = true := List.all_eq_true.1 hD 15 (by decide)
      clear hD
      unfold keyS
      refine go30 (an hi (an d3 (an d7 (an d11 (an d15 (an @cvt (an @cvf (an @cbt (an @cbf (an hat (an hbt (an hct (an hdt hz0))))))))))))) ?_
      refine ⟨q, ?_⟩
      simp only [upd_eq, Nat.reduceEqDiff, if_true, if_false, reduceIte, hi, d3, d7, d11, d15, cond_true, cond_false]
      (refine weak_of ?_ ?_; (focus (first | with_reducible rfl | (simp only [] <;> with_reducible rfl))); simp only [exF, Nat.reduceEqDiff, if_true, if_false, reduceIte, Option.some.injEq, reduceCtorEq, Int.cast_ofNat_Int])
    · intro D q hi hD hcl
      have u18 : D 18 = false := undone hi hcl (j := 18) rfl (by kernel_rfl)
      clear hcl
      clear hD
      unfold keyS
      refine go30 (an hi (an u18 (an @cvt (an @cvf (an @cbt (an @cbf (an hat (an hbt (an hct (an hdt hz0)))))))))) ?_
      refine ⟨q, ?_⟩
      simp only [upd_eq, Nat.reduceEqDiff, if_true, if_false, reduceIte, hi, u18, cond_true, cond_false]
      (refine weak_gc' [0, 1, 2, 3, 4, 5, 11, 7, 8, 9, 10] (by decide) (by simp) (by rfl) ?_ ?_; (focus (first | with_reducible rfl | (simp only [List.map_cons, List.map_nil, List.cons_append, List.nil_append, List.getElem?_cons_zero, List.getElem?_cons_succ, renB, renL, Option.map_some, Option.map_none, AV.ren, gcMap, List.getD_cons_zero, List.getD_cons_succ, cond_ren, cond_map, cvt, cvf, cbt, cbf, hz0] <;> with_reducible rfl))); simp only [exF, List.map_cons, List.map_nil, List.length_cons, List.length_nil, Nat.reduceAdd, AV.ren, renL, gcMap, Nat.reduceEqDiff, if_true, if_false, reduceIte, Option.some.injEq, reduceCtorEq, Int.cast_ofNat_Int, cond_ren, cond_map, cvt, cvf, cbt, cbf, hz0])
    · intro D q hi hD hcl
      clear hcl
      have d16 : D 16 = true := List.all_eq_true.1 hD 16 (by decide)
      have d17 : D 17 = true := List.all_eq_true.1 hD 17 (by decide)
      have d3 : D 3 = true := List.all_eq_true.1 hD 3 (by decide)
      have d7 : D 7 = true := List.all_eq_true.1 hD 7 (by decide)
      have d11 : D 11 = true := List.all_eq_true.1 hD 11 (by decide)
      have d15 : D 15 = true := List.all_eq_true.1 hD 15 (by decide)
      clear hD
      unfold keyS
      refine go30 (an hi (an d16 (an d17 (an d3 (an d7 (an d11 (an d15 (an @cvt (an @cvf (an @cbt (an @cbf (an hat (an hbt (an hct (an hdt hz0))))))))))))))) ?_
      refine ⟨q, ?_⟩
      simp only [upd_eq, Nat.reduceEqDiff, if_true, if_false, reduceIte, hi, d16, d17, d3, d7, d11, d15, cond_true, cond_false]
      (refine weak_of ?_ ?_; (focus (first | with_reducible rfl | (simp only [] <;> with_reducible rfl))); simp only [exF, Nat.reduceEqDiff, if_true, if_false, reduceIte, Option.some.injEq, reduceCtorEq, Int.cast_ofNat_Int])
  · intro D q hD
    have hA : ∀ j, j < 19 → D j = true := fun j hj => List.all_eq_true.1 hD j (List.mem_range.2 hj)
    unfold keyS
    simp only [hA 0 (by decide), hA 1 (by decide), hA 2 (by decide), hA 3 (by decide), hA 4 (by decide), hA 5 (by decide), hA 6 (by decide), hA 7 (by decide), hA 8 (by decide), hA 9 (by decide), hA 10 (by decide), hA 11 (by decide), hA 12 (by decide), hA 13 (by decide), hA 14 (by decide), hA 15 (by decide), hA 16 (by decide), hA 17 (by decide), hA 18 (by decide), cond_true]
    have hr16 : Try.f16.results.toList = [.tmp 6] := rfl
    have hbe : ∀ s : ByteArray, (s.toList == s.toList) = true := fun s => by simp
    have hee : ∀ x : Int, (x == x) = true := fun x => by simp
    obtain ⟨S, hS⟩ : ∃ S, keyV n t m l a b c d = S := ⟨_, rfl⟩
    have hSl : S.length = n.toNat := by rw [← hS, keyV_len]
    have hSt : List.take n.toNat S = S := List.take_of_length_le (by omega)
    cases hk : okS n t m l a b c d with
    | true =>
      refine go30 (an hk (an hS (an hat (an hbt (an hct hdt))))) ?_
      intro k1 _
      refine go30 (an hk (an hS (an hat (an hbt (an hct hdt))))) ?_
      intro k2 _
      exact go30 (an hk (an hS (an hSl (an hSt (an hat (an hbt (an hct (an hdt (an hbe (an hee hr16)))))))))) trivial
    | false =>
      exact go30 (an hk (an hat (an hbt (an hct (an hdt (an hbe (an hee hr16))))))) trivial
end Go.Proofs.Ytfnfmbikooeiaaa
