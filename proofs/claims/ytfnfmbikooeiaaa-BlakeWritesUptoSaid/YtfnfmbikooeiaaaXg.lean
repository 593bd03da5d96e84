/- Part of the proof. -/
import Derived.Test.YtfnfmbikooeiaaaXf
set_option linter.unusedSimpArgs false
set_option linter.unusedVariables false
namespace Go.Ax
open Go.RowKit Go.WideShapes Go.ChangeShapes
set_option linter.unusedVariables false
section
variable {H : Type} {enc : TypeId × Value → H} {P : Program} {W : World} {X : Nat → Prop}
/-- values of a slice that came in, by their cells -/
theorem cells_roV {a : Addr} {zs : List Value} {len cap : Nat} (hlen : len ≤ cap) (hz : zs.length = cap) (hX : ∀ r, ¬ X r)
    (hc : ∀ i v, zs[i]? = some v → W.cell? (a.add i) = some v) : roAt X W len (zs.take len) [.slice (some a) len cap] := by
  rcases Nat.eq_zero_or_pos cap with h0 | h0
  · subst h0
    obtain rfl : len = 0 := by omega
    exact .inr ⟨rfl, some a, rfl⟩
  · left
    have hc' : ∀ i (hi : i < zs.length), W.cell? (a.add i) = some zs[i] := fun i hi => hc i _ (List.getElem?_eq_getElem hi)
    have hsp0 : a.spot = none := by
      have h1 := hc' 0 (by omega)
      have h2 : a.add 0 = a := by unfold Addr.add; rfl
      rw [h2] at h1
      unfold World.cell? at h1
      split at h1
      · by_cases hs : a.spot.isSome = true
        · rw [if_pos hs] at h1; cases h1
        · simpa using hs
      · cases h1
    have hget : ∀ i (hi : i < zs.length), a.spot = none ∧ ∃ c e fz, W.heap[a.block]? = some (.cells c e fz) ∧ c[a.off + i]? = some zs[i] := by
      intro i hi
      have h1 := hc' i hi
      obtain ⟨r, o, s⟩ := a
      simp only at hsp0
      subst hsp0
      rw [addr_add] at h1
      unfold World.cell? at h1
      simp only [Option.isSome_none, Bool.false_eq_true, if_false] at h1
      split at h1
      · rename_i c e fz hh
        exact ⟨rfl, c, e, fz, hh, h1⟩
      · cases h1
    obtain ⟨hsp, c, e, fz, hh, _⟩ := hget 0 (by omega)
    refine ⟨a, cap, rfl, hsp, hX _, ⟨c, e, fz, hh, c.toList.take a.off, c.toList.drop (a.off + len), ?_, ?_⟩, hlen⟩
    · have hv : (c.toList.drop a.off).take len = zs.take len := by
        apply List.ext_getElem?
        intro i
        rw [List.getElem?_take, List.getElem?_take]
        split
        · rename_i hi
          obtain ⟨_, c', e', fz', hh', h2⟩ := hget i (by omega)
          rw [hh] at hh'
          cases hh'
          rw [List.getElem?_drop, Array.getElem?_toList, h2, List.getElem?_eq_getElem (by omega)]
        · rfl
      rw [← hv, List.append_assoc, ← List.drop_drop, List.take_append_drop, List.take_append_drop]
    · obtain ⟨_, c', e', fz', hh', h2⟩ := hget 0 (by omega)
      rw [hh] at hh'
      cases hh'
      have := (Array.getElem?_eq_some_iff.1 h2).1
      simp; omega

/-- what a slice of integers reads as -/
def ShapeI (k : IntKind) (l : List Int) (d : DataW H) : Prop := (l = [] ∧ d = .nil) ∨ ∃ sp, d = .slice (lits k l) sp
inductive Each2 {α β : Type} (R : α → β → Prop) : List α → List β → Prop
  | nil : Each2 R [] []
  | cons {a : α} {b : β} {x : List α} {y : List β} : R a b → Each2 R x y → Each2 R (a :: x) (b :: y)

theorem rows_of {k : IntKind} {a : Addr} : ∀ (ys : List (DataW H × List MemPlace)) (o : Nat),
    (∀ i y, ys[i]? = some y → ∃ c l, W.cell? (a.add (o + i)) = some c ∧ AV.rel X W [] (.roI k l) [c] ∧ ShapeI k l y.1) →
    ∃ (cs : List Value) (ls : List (List Int)), cs.length = ys.length ∧ (∀ i v, cs[i]? = some v → W.cell? (a.add (o + i)) = some v) ∧
      relAll X W [] (ls.map (.roI k)) cs ∧ ls.length = ys.length ∧ Each2 (ShapeI k) ls (ys.map (·.1))
  | [], o, h => ⟨[], [], rfl, by simp, by simp only [List.map_nil, relAll], rfl, .nil⟩
  | y :: ys, o, h => by
    obtain ⟨c, l, h1, h2, h3⟩ := h 0 y rfl
    obtain ⟨cs, ls, i1, i2, i3, i4, i5⟩ := rows_of (k := k) (a := a) ys (o + 1) (fun i y hy => by
      have := h (i + 1) y (by simpa using hy)
      rwa [show o + (i + 1) = o + 1 + i by omega] at this)
    refine ⟨c :: cs, l :: ls, by simp [i1], ?_, ?_, by simp [i4], .cons h3 i5⟩
    · intro i v hv
      cases i with
      | zero => simp only [List.getElem?_cons_zero, Option.some.injEq] at hv; subst hv; exact h1
      | succ i =>
        have := i2 i v (by simpa using hv)
        rwa [show o + 1 + i = o + (i + 1) by omega] at this
    · simp only [List.map_cons, relAll]
      exact ⟨[c], cs, rfl, h2, i3⟩

theorem sizes_roI {k : IntKind} : ∀ ls : List (List Int), sizes (ls.map (AV.roI k)) 1
  | ls => by
    intro e he
    obtain ⟨l, _, rfl⟩ := List.mem_map.1 he
    exact ⟨by simp only [AV.size], fun _ => by simp only [AV.one]⟩

/-- a slice of slices of integers that came in -/
theorem open_rows {t u e : TypeId} {k : IntKind} {v : Value} {d : DataW H} {ps : List MemPlace} (ht : P.underlying t = some (.slice u)) (hu : P.underlying u = some (.slice e)) (he : P.underlying e = some (.int k)) (hc : P.cellsOf e = 1) (hcu : P.cellsOf u = 1)
    (hX : ∀ r, ¬ X r) (hval : Value.okWide P W .any 0 t v) (hd : DataW.Trod enc P W 0 (fun _ => true) true t v d ps) :
    ∃ ls : List (List Int), AV.relV X W [] (.roL 1 (ls.map (AV.roI k))) v ∧ ((ls = [] ∧ d = .nil) ∨ ∃ ds sp, d = .slice ds sp ∧ Each2 (ShapeI k) ls ds) := by
  obtain ⟨fuel, hd⟩ := hd
  obtain ⟨a0, n0, c0, rfl⟩ := okWide_slice ht hval
  simp only [AV.relV]
  rcases DataW.trod_slice ht hd with ⟨h1, h2⟩ | ⟨a, len, cap, elems, rest, n, _, h1, h2, _, hlen, _, hel, hE, hR, _⟩
  · refine ⟨[], ?_, .inl ⟨rfl, by rw [Prod.mk.injEq] at h2; exact h2.1⟩⟩
    change [Value.slice a0 n0 c0] = _ at h1
    simp only [AV.rel, roAt, List.map_nil, relAll, h1]
    exact ⟨[], rfl, .inr ⟨rfl, none, rfl⟩, sizes_roI (k := k) []⟩
  · have each : ∀ i y, (elems ++ rest)[i]? = some y → ∃ c l, W.cell? (a.add i) = some c ∧ AV.rel X W [] (.roI k l) [c] ∧ ShapeI k l y.1 := by
      intro i y hy
      have hb : (W.cells? 0 (a.add (i * P.cellsOf u)) (P.cellsOf u)).bind (DataW.trod enc P W 0 (fun _ => true) true n u) = some y := by
        by_cases hi : i < len
        · rw [hE i hi, ← hy, List.getElem?_append_left (by omega)]
        · obtain ⟨hrl, hr⟩ := hR rfl
          have hi' : i - len < rest.length := by
            have := (List.getElem?_eq_some_iff.1 hy).1
            simp at this
            omega
          have := hr (i - len) (by omega)
          rw [show len + (i - len) = i by omega] at this
          rw [this, ← hy, List.getElem?_append_right (by omega), hel]
      rw [hcu, Nat.mul_one, Option.bind_eq_some_iff] at hb
      obtain ⟨cs, hcs, hy'⟩ := hb
      obtain ⟨l, g1, g2, _⟩ := trod_ints (X := X) hu he hc hX hy'
      have hone : ∃ c, cs = [c] := by
        simp only [AV.rel, roAt] at g1
        rcases g1 with ⟨a', c', rfl, _⟩ | ⟨_, a', rfl⟩
        · exact ⟨_, rfl⟩
        · exact ⟨_, rfl⟩
      obtain ⟨c, rfl⟩ := hone
      exact ⟨c, l, cell_of_cells?_one hcs, g1, g2⟩
    obtain ⟨hrl, _⟩ := hR rfl
    obtain ⟨cs, ls, i1, i2, i3, i4, i5⟩ := rows_of (k := k) (a := a) (X := X) elems 0 (fun i y hy => by
      have := each i y (by rw [List.getElem?_append_left (List.getElem?_eq_some_iff.1 hy).1]; exact hy)
      simpa using this)
    obtain ⟨cs', ls', j1, j2, _⟩ := rows_of (k := k) (a := a) (X := X) rest len (fun i y hy => by
      have := each (len + i) y (by rw [List.getElem?_append_right (by omega), hel, show len + i - len = i by omega]; exact hy)
      exact this)
    have hro := cells_roV (W := W) (X := X) (a := a) (zs := cs ++ cs') (len := len) (cap := cap) hlen (by simp; omega) hX (by
      intro i v hv
      by_cases hi : i < cs.length
      · rw [List.getElem?_append_left hi] at hv
        simpa using i2 i v hv
      · rw [List.getElem?_append_right (by omega)] at hv
        have := j2 _ v hv
        rwa [show len + (i - cs.length) = i by omega] at this)
    rw [List.take_append_of_le_length (by omega), List.take_of_length_le (by omega)] at hro
    refine ⟨ls, ?_, .inr ⟨_, _, (Prod.mk.inj h2).1, i5⟩⟩
    change [Value.slice a0 n0 c0] = _ at h1
    simp only [AV.rel, List.length_map]
    rw [h1, i4, hel]
    exact ⟨cs, i3, hro, sizes_roI ls⟩
end
end Go.Ax

namespace Go.Proofs.Ytfnfmbikooeiaaa
open Go.Ax
set_option linter.unusedSimpArgs false
set_option linter.unusedVariables false
set_option maxHeartbeats 4000000
set_option maxRecDepth 100000
/-- the digest of a state that is given -/
def sumL (size : Nat) (hh r : List Int) (t : Int) : List Int := (List.range size).map (byteAt (pieceL hh (padL r) (IntKind.u64.wrap (t + r.length)) true))
theorem sumL_len (size : Nat) (hh r : List Int) (t : Int) : (sumL size hh r t).length = size := by simp [sumL]
theorem sumL_all (size : Nat) (h0 all : List Int) (hb : all.length ≤ 1099511627776) : sumL size (pieces h0 all (qOf all.length)) (all.drop (128 * qOf all.length)) ((128 * qOf all.length : Nat) : Int) = digestL h0 size all := by
  have hq := qOf_le all.length
  have hl : (all.drop (128 * qOf all.length)).length = all.length - 128 * qOf all.length := by simp
  unfold sumL digestL
  rw [hl, ar_addu _ _ (by omega)]
  simp only [Int.toNat_natCast]
  rw [show 128 * qOf all.length + (all.length - 128 * qOf all.length) = all.length from by omega]
/-- a Hash in memory, read -/
def hashR (b b2 len c size : Nat) (hh : List Int) (t : Int) : Option (List AV) → Option (List Int × Nat × List Int × Int × Nat × Nat)
  | some [.arr n .u8 r] => if b ≠ b2 ∧ len = n ∧ r.length = n ∧ hh.length = 8 ∧ 0 < size ∧ size ≤ 64 ∧ r.length ≤ 128 then some (hh, size, r, t, b2, c) else none
  | _ => none
def hashK (h : List Blk) (b : Nat) : Option (List AV) → Option (List Int × Nat × List Int × Int × Nat × Nat)
  | some [.arr 8 .u64 hh, .v (.int .i64 size), .sl b2 0 1 0 len c, .v (.int .u64 t)] => if 0 ≤ size then hashR b b2 len c size.toNat hh t (row h b2) else none
  | _ => none
def N30 (h : List Blk) : List AV → Option Out
  | [.v (.pointer none)] => some (.one (.v (.slice none 0 0)) h)
  | [.ptr b 0 0] => (hashK h b (row h b)).bind fun x => some (.one (.sl h.length 0 1 0 x.2.1 x.2.1) (h ++ [some [.arr x.2.1 .u8 (sumL x.2.1 x.1 x.2.2.1 x.2.2.2.1)]]))
  | _ => none
theorem N30_nil (h : List Blk) : N30 h [.v (.pointer none)] = some (.one (.v (.slice none 0 0)) h) := rfl
theorem N30_ptr (h : List Blk) (b : Nat) : N30 h [.ptr b 0 0] = (hashK h b (row h b)).bind fun x => some (.one (.sl h.length 0 1 0 x.2.1 x.2.1) (h ++ [some [.arr x.2.1 .u8 (sumL x.2.1 x.1 x.2.2.1 x.2.2.2.1)]])) := rfl
def N28 (h : List Blk) : List AV → Option Out
  | [.v (.pointer none)] => some (.one (.v (.pointer none)) h)
  | [.ptr b 0 0] => (hashK h b (row h b)).bind fun x => some (.cap 0 fun c => (.ptr h.length 0 0, h ++ [some [.arr 8 .u64 x.1, .v (.int .i64 x.2.1), .sl (h.length + 1) 0 1 0 x.2.2.1.length c, .v (.int .u64 x.2.2.2.1)], some [.arr x.2.2.1.length .u8 x.2.2.1]]))
  | _ => none
theorem N28_nil (h : List Blk) : N28 h [.v (.pointer none)] = some (.one (.v (.pointer none)) h) := rfl
theorem N28_ptr (h : List Blk) (b : Nat) : N28 h [.ptr b 0 0] = (hashK h b (row h b)).bind fun x => some (.cap 0 fun c => (.ptr h.length 0 0, h ++ [some [.arr 8 .u64 x.1, .v (.int .i64 x.2.1), .sl (h.length + 1) 0 1 0 x.2.2.1.length c, .v (.int .u64 x.2.2.2.1)], some [.arr x.2.2.1.length .u8 x.2.2.1]])) := rfl
theorem hashK_eq (h : List Blk) (b : Nat) (hh : List Int) (size : Int) (b2 len c : Nat) (t : Int) : hashK h b (some [.arr 8 .u64 hh, .v (.int .i64 size), .sl b2 0 1 0 len c, .v (.int .u64 t)]) = oguard (0 ≤ size) (hashR b b2 len c size.toNat hh t (row h b2)) := rfl
theorem hashR_eq (b b2 len c size : Nat) (hh : List Int) (t : Int) (n : Nat) (r : List Int) : hashR b b2 len c size hh t (some [.arr n .u8 r]) = oguard (b ≠ b2 ∧ len = n ∧ r.length = n ∧ hh.length = 8 ∧ 0 < size ∧ size ≤ 64 ∧ r.length ≤ 128) (some (hh, size, r, t, b2, c)) := rfl
theorem hashK_ok {h : List Blk} {b : Nat} {x : List Int × Nat × List Int × Int × Nat × Nat} (e : hashK h b (row h b) = some x) :
    row h b = some [.arr 8 .u64 x.1, .v (.int .i64 x.2.1), .sl x.2.2.2.2.1 0 1 0 x.2.2.1.length x.2.2.2.2.2, .v (.int .u64 x.2.2.2.1)] ∧ row h x.2.2.2.2.1 = some [.arr x.2.2.1.length .u8 x.2.2.1] ∧ b ≠ x.2.2.2.2.1 ∧
      x.1.length = 8 ∧ (0 < x.2.1 ∧ x.2.1 ≤ 64) ∧ x.2.2.1.length ≤ 128 := by
  unfold hashK at e
  split at e
  · rename_i hh size b2 len c t hr
    split at e
    · rename_i h0
      unfold hashR at e
      split at e
      · rename_i n r hr2
        split at e
        · rename_i hc
          obtain ⟨h1, rfl, h3, h4, h5, h6, h7⟩ := hc
          cases e
          simp only
          refine ⟨?_, ?_, h1, h4, ⟨h5, h6⟩, h7⟩
          · rw [h3, Int.toNat_of_nonneg h0, hr]
          · rw [h3, hr2]
        · cases e
      · cases e
    · cases e
  · cases e
theorem set_self {α : Type} {h : List α} {b : Nat} {x : α} (e : h[b]? = some x) : h.set b x = h := by
  apply List.ext_getElem?
  intro i
  by_cases hi : b = i
  · subst hi
    rw [List.getElem?_set_self (List.getElem?_eq_some_iff.1 e).1, e]
  · rw [List.getElem?_set_ne hi]
theorem fork_gen (hh r : List Int) (size c : Nat) (t : Int) (h8 : hh.length = 8) (hrl : r.length ≤ 128) :
    ACall Try.prog 28 [.ptr 0 0 0] [some [.arr 8 .u64 hh, .v (.int .i64 size), .sl 1 0 1 0 r.length c, .v (.int .u64 t)], some [.arr r.length .u8 r]]
      fun v h' => v = .ptr 2 0 0 ∧ ∃ c', h' = [some [.arr 8 .u64 hh, .v (.int .i64 size), .sl 1 0 1 0 r.length c, .v (.int .u64 t)], some [.arr r.length .u8 r],
        some [.arr 8 .u64 hh, .v (.int .i64 size), .sl 3 0 1 0 r.length c', .v (.int .u64 t)], some [.arr r.length .u8 r]] := by
  refine ACall.weak (C := c8 2) rfl (κ := fun v h' => v = .ptr 3 0 0 ∧ ∃ c', h' = [some [.arr 8 .u64 hh, .v (.int .i64 size), .sl 1 0 1 0 r.length c, .v (.int .u64 t)], some [.arr r.length .u8 r],
        some [.arr r.length .u8 r], some [.arr 8 .u64 hh, .v (.int .i64 size), .sl 2 0 1 0 r.length c', .v (.int .u64 t)]]) ?_ ?_
  · refine acall_run (good8 2) Try.func28 rfl ⟨by kernel_rfl, by show 1 ≤ _; decide, by kernel_rfl, by kernel_rfl⟩ rfl ?_; have hr : Try.f28.results.toList = [.tmp 2] := rfl
    repeat (first | simp only [c8_P, c8_odd, List.contains_nil, List.contains_cons, Nat.reduceBEq, Bool.or_false, Bool.false_or, List.getElem?_toArray, layInts, layOnes, beq_self_eq_true, bne_self_eq_false, addPure, List.getD_cons_zero, List.getD_cons_succ, Option.map_some, Option.bind_some, Option.map_none, Option.bind_none, Option.some_or, Option.or_none, Option.none_or, List.map_cons, List.map_nil, List.append_nil, List.nil_append, List.cons_append, List.toList_toArray, Option.some.injEq, reduceIte, Nat.reduceEqDiff, reduceCtorEq, ne_eq, not_false_eq_true, not_true_eq_false, and_true, true_and, and_self, if_true, if_false, Bool.true_eq_false, Bool.false_eq_true, decide_true, decide_false, decide_eq_true_eq, exA, tabs, List.take_length, List.drop_length, Nat.min_self, List.length_replicate, List.length_append, List.length_set, List.length_map, List.length_range, List.length_take, List.length_drop, buildA, layA, rowPut, rowOr, rowSetAt, rowSet, rowTake, rowDrop, rowCell, rowAgg, mkAgg, AV.size, AV.isAggV, AV.parts, AV.one, AV.solid, headSize, psize, indexAddrA, indexA, fieldAddrA, fieldA, sliceA, boundsA, bndA, lenA, arrayAtA, rowOf, makeSliceA, intsOf, copyA, List.getElem?_cons_zero, List.getElem?_cons_succ, List.length_cons, List.length_nil, List.set_cons_zero, List.set_cons_succ, Nat.reduceAdd, Nat.reduceSub, Nat.reduceMul, Nat.reduceLeDiff, Nat.reduceLT, Nat.reduceGT, Int.reduceToNat, Int.reduceLE, Int.reduceLT, Int.reduceEq, Int.reduceNe, Int.reduceAdd, Int.reduceSub, Int.reduceMul, Nat.zero_add, Nat.add_zero, Nat.mul_one, Nat.one_mul, Nat.zero_mul, Nat.mul_zero, Nat.sub_zero, Nat.le_refl, Int.reduceNeg, ge_iff_le, gt_iff_lt, Option.isSome_none, Option.isSome_some, Bool.not_true, Bool.not_false, Bool.not_not, List.take_zero, List.drop_zero, List.tail_cons, or_true, true_or, or_false, false_or, not_true, not_false_iff, Int.ofNat_eq_natCast, Int.cast_ofNat_Int, ite_true, ite_false, dite_true, take_app, take_blakeL, blakeL_len, c8_pure, c8_news, p5, F22_eq, p4, p3, p2, p1, F80_eq, F70_eq, F53_eq, F55_eq, F25_eq, F56_eq, F23_eq, n7, n6, n5, N57_eq, N27_eq, N20_eq, N21_eq, addNews, List.take_succ_cons, List.drop_succ_cons, List.take_nil, List.drop_nil, List.flatten_cons, List.flatten_nil, allOf, List.all_cons, List.all_nil, Bool.and_true, Bool.and_self, Bool.true_and, hr, h8] | simp (maxSteps := 1000000) (disch := omega) only [ar_nat, ar_u64, ar_add, ar_sub, ar_mul, ar_div, ar_mod, ar_dec_t, ar_dec_f, ar_beq_t, ar_beq_f, ar_bne_t, ar_bne_f, ar_guard, or_guard, ar_take, ar_take_drop, ar_drop, Int.toNat_natCast, Int.reduceToNat])
    repeat (with_reducible refine And.intro (by first | omega | assumption) ?_)
    intro c3 _
    exact ⟨c3, rfl⟩
  · rintro v h' ⟨rfl, c', rfl⟩
    exact ⟨_, _, weak_gc' [0, 1, 3, 2] (by decide) (by simp) (by rfl) rfl ⟨rfl, trivial⟩, rfl, c', rfl⟩
noncomputable def n8 : FuncId → Option (List Blk → List AV → Option Out) := addNews (addNews n7 30 N30) 28 N28
noncomputable def c9 (k : Nat) : Cfg := ⟨Try.prog, k, p5, [], n8⟩
theorem c9_odd (k : Nat) : (c9 k).odd = [] := rfl
theorem c9_P (k : Nat) : (c9 k).P = Try.prog := rfl
theorem c9_pure (k : Nat) : (c9 k).pure = p5 := rfl
theorem c9_news (k : Nat) : (c9 k).news = n8 := rfl
theorem good9 (k : Nat) : (c9 k).Good := by
  have key : ∀ (h : List Blk) (b b2 : Nat) (row0 rest0 : List AV), row h b = some (renL (frameMap [b, b2] h.length) row0) → row h b2 = some (renL (frameMap [b, b2] h.length) rest0) → b ≠ b2 →
      ∀ k, k < [b, b2].length → h[[b, b2].getD k 0]? = (([some row0, some rest0] : List Blk)[k]?).map (renB (frameMap [b, b2] h.length)) := by
    intro h b b2 row0 rest0 h1 h2 _ k hk
    match k, hk with
    | 0, _ => exact row_some h1
    | 1, _ => exact row_some h2
  have lt : ∀ {h : List Blk} {b b2 : Nat} {p q : List AV}, row h b = some p → row h b2 = some q → ∀ x ∈ [b, b2], x < h.length := by
    intro h b b2 p q h1 h2 x hx
    simp only [List.mem_cons, List.not_mem_nil, or_false] at hx
    rcases hx with rfl | rfl
    · exact row_lt h1
    · exact row_lt h2
  refine Cfg.Good.addN (Cfg.Good.addN (good8 k) ?_ k) ?_ k
  · intro h args out hN
    unfold N30 at hN
    split at hN
    · cases hN
      refine ⟨⟨[], by simp⟩, fun κ hκ => news_ok (args := [.v (.pointer none)]) hsum_nil (by rintro _ _ ⟨rfl, rfl⟩; exact ⟨rfl, rfl⟩) (fun g => rfl) ⟨Frz.same _, trivial⟩ ?_ hκ⟩
      rintro _ _ ⟨rfl, rfl⟩
      exact ⟨rfl, by simp⟩
    · rename_i b
      obtain ⟨x, hx, hN⟩ := Option.bind_eq_some_iff.1 hN
      cases hN
      obtain ⟨h1, h2, h3, h4, h5, h6⟩ := hashK_ok hx
      obtain ⟨hh, size, r, t, b2, c⟩ := x
      simp only at h1 h2 h3 h4 h5 h6 ⊢
      refine ⟨⟨_, rfl⟩, fun κ hκ => ?_⟩
      refine ACall.frame (hsum_spec hh r size c t h4 h5 h6) [b, b2] rfl rfl (by simp [h3]) (lt h1 h2) (key h b b2 _ _ h1 h2 h3) ?_
      rintro _ _ ⟨rfl, rfl⟩
      have e1 : (h.set b (some [.arr 8 .u64 hh, .v (.int .i64 size), .sl b2 0 1 0 r.length c, .v (.int .u64 t)])).set b2 (some [.arr r.length .u8 r]) = h := by
        rw [set_self (row_some h1), set_self (row_some h2)]
      simp only [overwrite, List.map_cons, List.map_nil, renB, Option.map_some, renL, AV.ren, frameMap, List.length_cons, List.length_nil, List.getD_cons_zero, List.getD_cons_succ, Nat.reduceAdd, Nat.reduceLT, Nat.reduceSub, if_true, if_false, Nat.lt_irrefl, Nat.add_zero, Nat.sub_self]
      rw [e1]
      exact hκ
    · cases hN
  · intro h args out hN
    unfold N28 at hN
    split at hN
    · cases hN
      refine ⟨⟨[], by simp⟩, fun κ hκ => news_ok (args := [.v (.pointer none)]) fork_nil (by rintro _ _ ⟨rfl, rfl⟩; exact ⟨rfl, rfl⟩) (fun g => rfl) ⟨Frz.same _, trivial⟩ ?_ hκ⟩
      rintro _ _ ⟨rfl, rfl⟩
      exact ⟨rfl, by simp⟩
    · rename_i b
      obtain ⟨x, hx, hN⟩ := Option.bind_eq_some_iff.1 hN
      cases hN
      obtain ⟨h1, h2, h3, h4, h5, h6⟩ := hashK_ok hx
      obtain ⟨hh, size, r, t, b2, c⟩ := x
      simp only at h1 h2 h3 h4 h5 h6 ⊢
      refine ⟨fun c' _ => ⟨_, rfl⟩, fun κ hκ => ?_⟩
      refine ACall.frame (fork_gen hh r size c t h4 h6) [b, b2] rfl rfl (by simp [h3]) (lt h1 h2) (key h b b2 _ _ h1 h2 h3) ?_
      rintro _ _ ⟨rfl, c', rfl⟩
      have e1 : (h.set b (some [.arr 8 .u64 hh, .v (.int .i64 size), .sl b2 0 1 0 r.length c, .v (.int .u64 t)])).set b2 (some [.arr r.length .u8 r]) = h := by
        rw [set_self (row_some h1), set_self (row_some h2)]
      simp only [overwrite, List.map_cons, List.map_nil, renB, Option.map_some, renL, AV.ren, frameMap, List.length_cons, List.length_nil, List.getD_cons_zero, List.getD_cons_succ, Nat.reduceAdd, Nat.reduceLT, Nat.reduceSub, if_true, if_false, Nat.lt_irrefl, Nat.add_zero, Nat.sub_self]
      rw [e1]
      exact hκ c' (Nat.zero_le _)
    · cases hN
end Go.Proofs.Ytfnfmbikooeiaaa

namespace Go.Proofs.Ytfnfmbikooeiaaa
open Go.Ax
set_option linter.unusedSimpArgs false
set_option linter.unusedVariables false
set_option maxHeartbeats 4000000
set_option maxRecDepth 100000
theorem write_own (h0 all m : List Int) (size c c3 : Nat) (hh : h0.length = 8) (hb : all.length + m.length ≤ 1099511627776) :
    ACall Try.prog 29 [.ptr 0 0 0, .sl 2 0 1 0 m.length c3] [some (hState h0 size all c 1), some (hRest all), some [.arr m.length .u8 m]]
      fun v h' => v = .tup [] ∧ ∃ c', h' = [some (hState h0 size (all ++ m) c' 3), none, some [.arr m.length .u8 m], some (hRest (all ++ m))] := by
  refine ACall.freeze (args' := [.ptr 0 0 0, .roI .u8 m]) (κ' := fun v h' => v = .tup [] ∧ ∃ c', h' = [some (hState h0 size (all ++ m) c' 3), none, none, some (hRest (all ++ m))]) [2] ?_
    (fun X X' w ρ vs hH hx hv => FrzL.relVs (xs := [.ptr 0 0 0, .sl 2 0 1 0 m.length c3]) (h := [some (hState h0 size all c 1), some (hRest all), some [.arr m.length .u8 m]]) (B := [2]) hH hx ⟨Frz.same _, Frz.arr (by simp) rfl (by omega) (by simp), trivial⟩ hv) ?_ ?_
  · refine ACall.frame (write_spec h0 all m size c hh hb) [0, 1] rfl rfl (by decide) (by simp [kill]) ?_ ?_
    · intro k hk
      match k, hk with
      | 0, _ => rfl
      | 1, _ => rfl
    · rintro _ _ ⟨rfl, c', rfl⟩
      exact ⟨rfl, c', rfl⟩
  · intro b hb
    simp only [List.mem_cons, List.not_mem_nil, or_false] at hb
    subst hb
    exact ⟨_, rfl⟩
  · rintro v hr ⟨rfl, c', rfl⟩
    exact ⟨rfl, rfl, rfl, c', rfl⟩
theorem law_writes_bad (n : Int) (key : List Int) (l : List (List Int)) (hk : key.length ≤ 1048576) (hb : n < 1 ∨ 64 < n ∨ 64 < key.length) :
    ACall Try.prog 7 [.v (.int .i64 n), .roI .u8 key, .roL 1 (l.map (AV.roI .u8))] [] fun v _ => v = .v (.bool true) := by
  refine acall_run (good9 0) Try.func7 rfl ⟨by kernel_rfl, by show 3 ≤ _; decide, by kernel_rfl, by kernel_rfl⟩ rfl ?_; have hr : Try.f7.results.toList = [.tmp 6] := rfl
  repeat (first | simp only [c9_P, c9_odd, List.contains_nil, List.contains_cons, Nat.reduceBEq, Bool.or_false, Bool.false_or, List.getElem?_toArray, layInts, layOnes, beq_self_eq_true, bne_self_eq_false, addPure, List.getD_cons_zero, List.getD_cons_succ, Option.map_some, Option.bind_some, Option.map_none, Option.bind_none, Option.some_or, Option.or_none, Option.none_or, List.map_cons, List.map_nil, List.append_nil, List.nil_append, List.cons_append, List.toList_toArray, Option.some.injEq, reduceIte, Nat.reduceEqDiff, reduceCtorEq, ne_eq, not_false_eq_true, not_true_eq_false, and_true, true_and, and_self, if_true, if_false, Bool.true_eq_false, Bool.false_eq_true, decide_true, decide_false, decide_eq_true_eq, exA, tabs, List.take_length, List.drop_length, Nat.min_self, List.length_replicate, List.length_append, List.length_set, List.length_map, List.length_range, List.length_take, List.length_drop, buildA, layA, rowPut, rowOr, rowSetAt, rowSet, rowTake, rowDrop, rowCell, rowAgg, mkAgg, AV.size, AV.isAggV, AV.parts, AV.one, AV.solid, headSize, psize, indexAddrA, indexA, fieldAddrA, fieldA, sliceA, boundsA, bndA, lenA, arrayAtA, rowOf, makeSliceA, intsOf, copyA, List.getElem?_cons_zero, List.getElem?_cons_succ, List.length_cons, List.length_nil, List.set_cons_zero, List.set_cons_succ, Nat.reduceAdd, Nat.reduceSub, Nat.reduceMul, Nat.reduceLeDiff, Nat.reduceLT, Nat.reduceGT, Int.reduceToNat, Int.reduceLE, Int.reduceLT, Int.reduceEq, Int.reduceNe, Int.reduceAdd, Int.reduceSub, Int.reduceMul, Nat.zero_add, Nat.add_zero, Nat.mul_one, Nat.one_mul, Nat.zero_mul, Nat.mul_zero, Nat.sub_zero, Nat.le_refl, Int.reduceNeg, ge_iff_le, gt_iff_lt, Option.isSome_none, Option.isSome_some, Bool.not_true, Bool.not_false, Bool.not_not, List.take_zero, List.drop_zero, List.tail_cons, or_true, true_or, or_false, false_or, not_true, not_false_iff, Int.ofNat_eq_natCast, Int.cast_ofNat_Int, ite_true, ite_false, dite_true, take_app, take_blakeL, blakeL_len, c9_pure, c9_news, p5, F22_eq, p4, p3, p2, p1, F80_eq, F70_eq, F53_eq, F55_eq, F25_eq, F56_eq, F23_eq, n8, N30_nil, N30_ptr, N28_nil, N28_ptr, hashK_eq, hashR_eq, n7, n6, n5, N57_eq, N27_eq, N20_eq, N21_eq, addNews, List.take_succ_cons, List.drop_succ_cons, List.take_nil, List.drop_nil, List.flatten_cons, List.flatten_nil, allOf, List.all_cons, List.all_nil, Bool.and_true, Bool.and_self, Bool.true_and, hr] | simp (maxSteps := 1000000) (disch := omega) only [ar_nat, ar_u64, ar_add, ar_sub, ar_mul, ar_div, ar_mod, ar_dec_t, ar_dec_f, ar_beq_t, ar_beq_f, ar_bne_t, ar_bne_f, ar_guard, or_guard, ar_take, ar_take_drop, ar_drop, Int.toNat_natCast, Int.reduceToNat])
  rcases hb with hb | hb
  · repeat (first | simp only [c9_P, c9_odd, List.contains_nil, List.contains_cons, Nat.reduceBEq, Bool.or_false, Bool.false_or, List.getElem?_toArray, layInts, layOnes, beq_self_eq_true, bne_self_eq_false, addPure, List.getD_cons_zero, List.getD_cons_succ, Option.map_some, Option.bind_some, Option.map_none, Option.bind_none, Option.some_or, Option.or_none, Option.none_or, List.map_cons, List.map_nil, List.append_nil, List.nil_append, List.cons_append, List.toList_toArray, Option.some.injEq, reduceIte, Nat.reduceEqDiff, reduceCtorEq, ne_eq, not_false_eq_true, not_true_eq_false, and_true, true_and, and_self, if_true, if_false, Bool.true_eq_false, Bool.false_eq_true, decide_true, decide_false, decide_eq_true_eq, exA, tabs, List.take_length, List.drop_length, Nat.min_self, List.length_replicate, List.length_append, List.length_set, List.length_map, List.length_range, List.length_take, List.length_drop, buildA, layA, rowPut, rowOr, rowSetAt, rowSet, rowTake, rowDrop, rowCell, rowAgg, mkAgg, AV.size, AV.isAggV, AV.parts, AV.one, AV.solid, headSize, psize, indexAddrA, indexA, fieldAddrA, fieldA, sliceA, boundsA, bndA, lenA, arrayAtA, rowOf, makeSliceA, intsOf, copyA, List.getElem?_cons_zero, List.getElem?_cons_succ, List.length_cons, List.length_nil, List.set_cons_zero, List.set_cons_succ, Nat.reduceAdd, Nat.reduceSub, Nat.reduceMul, Nat.reduceLeDiff, Nat.reduceLT, Nat.reduceGT, Int.reduceToNat, Int.reduceLE, Int.reduceLT, Int.reduceEq, Int.reduceNe, Int.reduceAdd, Int.reduceSub, Int.reduceMul, Nat.zero_add, Nat.add_zero, Nat.mul_one, Nat.one_mul, Nat.zero_mul, Nat.mul_zero, Nat.sub_zero, Nat.le_refl, Int.reduceNeg, ge_iff_le, gt_iff_lt, Option.isSome_none, Option.isSome_some, Bool.not_true, Bool.not_false, Bool.not_not, List.take_zero, List.drop_zero, List.tail_cons, or_true, true_or, or_false, false_or, not_true, not_false_iff, Int.ofNat_eq_natCast, Int.cast_ofNat_Int, ite_true, ite_false, dite_true, take_app, take_blakeL, blakeL_len, c9_pure, c9_news, p5, F22_eq, p4, p3, p2, p1, F80_eq, F70_eq, F53_eq, F55_eq, F25_eq, F56_eq, F23_eq, n8, N30_nil, N30_ptr, N28_nil, N28_ptr, hashK_eq, hashR_eq, n7, n6, n5, N57_eq, N27_eq, N20_eq, N21_eq, addNews, List.take_succ_cons, List.drop_succ_cons, List.take_nil, List.drop_nil, List.flatten_cons, List.flatten_nil, allOf, List.all_cons, List.all_nil, Bool.and_true, Bool.and_self, Bool.true_and, hr] | simp (maxSteps := 1000000) (disch := omega) only [ar_nat, ar_u64, ar_add, ar_sub, ar_mul, ar_div, ar_mod, ar_dec_t, ar_dec_f, ar_beq_t, ar_beq_f, ar_bne_t, ar_bne_f, ar_guard, or_guard, ar_take, ar_take_drop, ar_drop, Int.toNat_natCast, Int.reduceToNat])
    repeat' (first | omega | exact trivial | intro _ | refine And.intro ?_ ?_)
  · by_cases h1 : n < 1
    · repeat (first | simp only [c9_P, c9_odd, List.contains_nil, List.contains_cons, Nat.reduceBEq, Bool.or_false, Bool.false_or, List.getElem?_toArray, layInts, layOnes, beq_self_eq_true, bne_self_eq_false, addPure, List.getD_cons_zero, List.getD_cons_succ, Option.map_some, Option.bind_some, Option.map_none, Option.bind_none, Option.some_or, Option.or_none, Option.none_or, List.map_cons, List.map_nil, List.append_nil, List.nil_append, List.cons_append, List.toList_toArray, Option.some.injEq, reduceIte, Nat.reduceEqDiff, reduceCtorEq, ne_eq, not_false_eq_true, not_true_eq_false, and_true, true_and, and_self, if_true, if_false, Bool.true_eq_false, Bool.false_eq_true, decide_true, decide_false, decide_eq_true_eq, exA, tabs, List.take_length, List.drop_length, Nat.min_self, List.length_replicate, List.length_append, List.length_set, List.length_map, List.length_range, List.length_take, List.length_drop, buildA, layA, rowPut, rowOr, rowSetAt, rowSet, rowTake, rowDrop, rowCell, rowAgg, mkAgg, AV.size, AV.isAggV, AV.parts, AV.one, AV.solid, headSize, psize, indexAddrA, indexA, fieldAddrA, fieldA, sliceA, boundsA, bndA, lenA, arrayAtA, rowOf, makeSliceA, intsOf, copyA, List.getElem?_cons_zero, List.getElem?_cons_succ, List.length_cons, List.length_nil, List.set_cons_zero, List.set_cons_succ, Nat.reduceAdd, Nat.reduceSub, Nat.reduceMul, Nat.reduceLeDiff, Nat.reduceLT, Nat.reduceGT, Int.reduceToNat, Int.reduceLE, Int.reduceLT, Int.reduceEq, Int.reduceNe, Int.reduceAdd, Int.reduceSub, Int.reduceMul, Nat.zero_add, Nat.add_zero, Nat.mul_one, Nat.one_mul, Nat.zero_mul, Nat.mul_zero, Nat.sub_zero, Nat.le_refl, Int.reduceNeg, ge_iff_le, gt_iff_lt, Option.isSome_none, Option.isSome_some, Bool.not_true, Bool.not_false, Bool.not_not, List.take_zero, List.drop_zero, List.tail_cons, or_true, true_or, or_false, false_or, not_true, not_false_iff, Int.ofNat_eq_natCast, Int.cast_ofNat_Int, ite_true, ite_false, dite_true, take_app, take_blakeL, blakeL_len, c9_pure, c9_news, p5, F22_eq, p4, p3, p2, p1, F80_eq, F70_eq, F53_eq, F55_eq, F25_eq, F56_eq, F23_eq, n8, N30_nil, N30_ptr, N28_nil, N28_ptr, hashK_eq, hashR_eq, n7, n6, n5, N57_eq, N27_eq, N20_eq, N21_eq, addNews, List.take_succ_cons, List.drop_succ_cons, List.take_nil, List.drop_nil, List.flatten_cons, List.flatten_nil, allOf, List.all_cons, List.all_nil, Bool.and_true, Bool.and_self, Bool.true_and, hr] | simp (maxSteps := 1000000) (disch := omega) only [ar_nat, ar_u64, ar_add, ar_sub, ar_mul, ar_div, ar_mod, ar_dec_t, ar_dec_f, ar_beq_t, ar_beq_f, ar_bne_t, ar_bne_f, ar_guard, or_guard, ar_take, ar_take_drop, ar_drop, Int.toNat_natCast, Int.reduceToNat])
      repeat' (first | omega | exact trivial | intro _ | refine And.intro ?_ ?_)
    · rcases hb with hb | hb
      · repeat (first | simp only [c9_P, c9_odd, List.contains_nil, List.contains_cons, Nat.reduceBEq, Bool.or_false, Bool.false_or, List.getElem?_toArray, layInts, layOnes, beq_self_eq_true, bne_self_eq_false, addPure, List.getD_cons_zero, List.getD_cons_succ, Option.map_some, Option.bind_some, Option.map_none, Option.bind_none, Option.some_or, Option.or_none, Option.none_or, List.map_cons, List.map_nil, List.append_nil, List.nil_append, List.cons_append, List.toList_toArray, Option.some.injEq, reduceIte, Nat.reduceEqDiff, reduceCtorEq, ne_eq, not_false_eq_true, not_true_eq_false, and_true, true_and, and_self, if_true, if_false, Bool.true_eq_false, Bool.false_eq_true, decide_true, decide_false, decide_eq_true_eq, exA, tabs, List.take_length, List.drop_length, Nat.min_self, List.length_replicate, List.length_append, List.length_set, List.length_map, List.length_range, List.length_take, List.length_drop, buildA, layA, rowPut, rowOr, rowSetAt, rowSet, rowTake, rowDrop, rowCell, rowAgg, mkAgg, AV.size, AV.isAggV, AV.parts, AV.one, AV.solid, headSize, psize, indexAddrA, indexA, fieldAddrA, fieldA, sliceA, boundsA, bndA, lenA, arrayAtA, rowOf, makeSliceA, intsOf, copyA, List.getElem?_cons_zero, List.getElem?_cons_succ, List.length_cons, List.length_nil, List.set_cons_zero, List.set_cons_succ, Nat.reduceAdd, Nat.reduceSub, Nat.reduceMul, Nat.reduceLeDiff, Nat.reduceLT, Nat.reduceGT, Int.reduceToNat, Int.reduceLE, Int.reduceLT, Int.reduceEq, Int.reduceNe, Int.reduceAdd, Int.reduceSub, Int.reduceMul, Nat.zero_add, Nat.add_zero, Nat.mul_one, Nat.one_mul, Nat.zero_mul, Nat.mul_zero, Nat.sub_zero, Nat.le_refl, Int.reduceNeg, ge_iff_le, gt_iff_lt, Option.isSome_none, Option.isSome_some, Bool.not_true, Bool.not_false, Bool.not_not, List.take_zero, List.drop_zero, List.tail_cons, or_true, true_or, or_false, false_or, not_true, not_false_iff, Int.ofNat_eq_natCast, Int.cast_ofNat_Int, ite_true, ite_false, dite_true, take_app, take_blakeL, blakeL_len, c9_pure, c9_news, p5, F22_eq, p4, p3, p2, p1, F80_eq, F70_eq, F53_eq, F55_eq, F25_eq, F56_eq, F23_eq, n8, N30_nil, N30_ptr, N28_nil, N28_ptr, hashK_eq, hashR_eq, n7, n6, n5, N57_eq, N27_eq, N20_eq, N21_eq, addNews, List.take_succ_cons, List.drop_succ_cons, List.take_nil, List.drop_nil, List.flatten_cons, List.flatten_nil, allOf, List.all_cons, List.all_nil, Bool.and_true, Bool.and_self, Bool.true_and, hr] | simp (maxSteps := 1000000) (disch := omega) only [ar_nat, ar_u64, ar_add, ar_sub, ar_mul, ar_div, ar_mod, ar_dec_t, ar_dec_f, ar_beq_t, ar_beq_f, ar_bne_t, ar_bne_f, ar_guard, or_guard, ar_take, ar_take_drop, ar_drop, Int.toNat_natCast, Int.reduceToNat])
        repeat' (first | omega | exact trivial | intro _ | refine And.intro ?_ ?_)
      · by_cases h2 : 64 < n
        · repeat (first | simp only [c9_P, c9_odd, List.contains_nil, List.contains_cons, Nat.reduceBEq, Bool.or_false, Bool.false_or, List.getElem?_toArray, layInts, layOnes, beq_self_eq_true, bne_self_eq_false, addPure, List.getD_cons_zero, List.getD_cons_succ, Option.map_some, Option.bind_some, Option.map_none, Option.bind_none, Option.some_or, Option.or_none, Option.none_or, List.map_cons, List.map_nil, List.append_nil, List.nil_append, List.cons_append, List.toList_toArray, Option.some.injEq, reduceIte, Nat.reduceEqDiff, reduceCtorEq, ne_eq, not_false_eq_true, not_true_eq_false, and_true, true_and, and_self, if_true, if_false, Bool.true_eq_false, Bool.false_eq_true, decide_true, decide_false, decide_eq_true_eq, exA, tabs, List.take_length, List.drop_length, Nat.min_self, List.length_replicate, List.length_append, List.length_set, List.length_map, List.length_range, List.length_take, List.length_drop, buildA, layA, rowPut, rowOr, rowSetAt, rowSet, rowTake, rowDrop, rowCell, rowAgg, mkAgg, AV.size, AV.isAggV, AV.parts, AV.one, AV.solid, headSize, psize, indexAddrA, indexA, fieldAddrA, fieldA, sliceA, boundsA, bndA, lenA, arrayAtA, rowOf, makeSliceA, intsOf, copyA, List.getElem?_cons_zero, List.getElem?_cons_succ, List.length_cons, List.length_nil, List.set_cons_zero, List.set_cons_succ, Nat.reduceAdd, Nat.reduceSub, Nat.reduceMul, Nat.reduceLeDiff, Nat.reduceLT, Nat.reduceGT, Int.reduceToNat, Int.reduceLE, Int.reduceLT, Int.reduceEq, Int.reduceNe, Int.reduceAdd, Int.reduceSub, Int.reduceMul, Nat.zero_add, Nat.add_zero, Nat.mul_one, Nat.one_mul, Nat.zero_mul, Nat.mul_zero, Nat.sub_zero, Nat.le_refl, Int.reduceNeg, ge_iff_le, gt_iff_lt, Option.isSome_none, Option.isSome_some, Bool.not_true, Bool.not_false, Bool.not_not, List.take_zero, List.drop_zero, List.tail_cons, or_true, true_or, or_false, false_or, not_true, not_false_iff, Int.ofNat_eq_natCast, Int.cast_ofNat_Int, ite_true, ite_false, dite_true, take_app, take_blakeL, blakeL_len, c9_pure, c9_news, p5, F22_eq, p4, p3, p2, p1, F80_eq, F70_eq, F53_eq, F55_eq, F25_eq, F56_eq, F23_eq, n8, N30_nil, N30_ptr, N28_nil, N28_ptr, hashK_eq, hashR_eq, n7, n6, n5, N57_eq, N27_eq, N20_eq, N21_eq, addNews, List.take_succ_cons, List.drop_succ_cons, List.take_nil, List.drop_nil, List.flatten_cons, List.flatten_nil, allOf, List.all_cons, List.all_nil, Bool.and_true, Bool.and_self, Bool.true_and, hr] | simp (maxSteps := 1000000) (disch := omega) only [ar_nat, ar_u64, ar_add, ar_sub, ar_mul, ar_div, ar_mod, ar_dec_t, ar_dec_f, ar_beq_t, ar_beq_f, ar_bne_t, ar_bne_f, ar_guard, or_guard, ar_take, ar_take_drop, ar_drop, Int.toNat_natCast, Int.reduceToNat])
          repeat' (first | omega | exact trivial | intro _ | refine And.intro ?_ ?_)
        · repeat (first | simp only [c9_P, c9_odd, List.contains_nil, List.contains_cons, Nat.reduceBEq, Bool.or_false, Bool.false_or, List.getElem?_toArray, layInts, layOnes, beq_self_eq_true, bne_self_eq_false, addPure, List.getD_cons_zero, List.getD_cons_succ, Option.map_some, Option.bind_some, Option.map_none, Option.bind_none, Option.some_or, Option.or_none, Option.none_or, List.map_cons, List.map_nil, List.append_nil, List.nil_append, List.cons_append, List.toList_toArray, Option.some.injEq, reduceIte, Nat.reduceEqDiff, reduceCtorEq, ne_eq, not_false_eq_true, not_true_eq_false, and_true, true_and, and_self, if_true, if_false, Bool.true_eq_false, Bool.false_eq_true, decide_true, decide_false, decide_eq_true_eq, exA, tabs, List.take_length, List.drop_length, Nat.min_self, List.length_replicate, List.length_append, List.length_set, List.length_map, List.length_range, List.length_take, List.length_drop, buildA, layA, rowPut, rowOr, rowSetAt, rowSet, rowTake, rowDrop, rowCell, rowAgg, mkAgg, AV.size, AV.isAggV, AV.parts, AV.one, AV.solid, headSize, psize, indexAddrA, indexA, fieldAddrA, fieldA, sliceA, boundsA, bndA, lenA, arrayAtA, rowOf, makeSliceA, intsOf, copyA, List.getElem?_cons_zero, List.getElem?_cons_succ, List.length_cons, List.length_nil, List.set_cons_zero, List.set_cons_succ, Nat.reduceAdd, Nat.reduceSub, Nat.reduceMul, Nat.reduceLeDiff, Nat.reduceLT, Nat.reduceGT, Int.reduceToNat, Int.reduceLE, Int.reduceLT, Int.reduceEq, Int.reduceNe, Int.reduceAdd, Int.reduceSub, Int.reduceMul, Nat.zero_add, Nat.add_zero, Nat.mul_one, Nat.one_mul, Nat.zero_mul, Nat.mul_zero, Nat.sub_zero, Nat.le_refl, Int.reduceNeg, ge_iff_le, gt_iff_lt, Option.isSome_none, Option.isSome_some, Bool.not_true, Bool.not_false, Bool.not_not, List.take_zero, List.drop_zero, List.tail_cons, or_true, true_or, or_false, false_or, not_true, not_false_iff, Int.ofNat_eq_natCast, Int.cast_ofNat_Int, ite_true, ite_false, dite_true, take_app, take_blakeL, blakeL_len, c9_pure, c9_news, p5, F22_eq, p4, p3, p2, p1, F80_eq, F70_eq, F53_eq, F55_eq, F25_eq, F56_eq, F23_eq, n8, N30_nil, N30_ptr, N28_nil, N28_ptr, hashK_eq, hashR_eq, n7, n6, n5, N57_eq, N27_eq, N20_eq, N21_eq, addNews, List.take_succ_cons, List.drop_succ_cons, List.take_nil, List.drop_nil, List.flatten_cons, List.flatten_nil, allOf, List.all_cons, List.all_nil, Bool.and_true, Bool.and_self, Bool.true_and, hr] | simp (maxSteps := 1000000) (disch := omega) only [ar_nat, ar_u64, ar_add, ar_sub, ar_mul, ar_div, ar_mod, ar_dec_t, ar_dec_f, ar_beq_t, ar_beq_f, ar_bne_t, ar_bne_f, ar_guard, or_guard, ar_take, ar_take_drop, ar_drop, Int.toNat_natCast, Int.reduceToNat])
          repeat' (first | omega | exact trivial | intro _ | refine And.intro ?_ ?_)
theorem law_writes (n : Nat) (key : List Int) (l : List (List Int)) (hk : key.length ≤ 64) (hb : 1 ≤ n ∧ n ≤ 64) (hl : l.flatten.length ≤ 1048576 ∧ l.length ≤ 1048576) :
    ACall Try.prog 7 [.v (.int .i64 n), .roI .u8 key, .roL 1 (l.map (AV.roI .u8))] [] fun v _ => v = .v (.bool true) := by
  have hkl := keyB_len key hk
  refine acall_run (good9 0) Try.func7 rfl ⟨by kernel_rfl, by show 3 ≤ _; decide, by kernel_rfl, by kernel_rfl⟩ rfl ?_; have hr : Try.f7.results.toList = [.tmp 6] := rfl
  repeat (first | simp only [c9_P, c9_odd, List.contains_nil, List.contains_cons, Nat.reduceBEq, Bool.or_false, Bool.false_or, List.getElem?_toArray, layInts, layOnes, beq_self_eq_true, bne_self_eq_false, addPure, List.getD_cons_zero, List.getD_cons_succ, Option.map_some, Option.bind_some, Option.map_none, Option.bind_none, Option.some_or, Option.or_none, Option.none_or, List.map_cons, List.map_nil, List.append_nil, List.nil_append, List.cons_append, List.toList_toArray, Option.some.injEq, reduceIte, Nat.reduceEqDiff, reduceCtorEq, ne_eq, not_false_eq_true, not_true_eq_false, and_true, true_and, and_self, if_true, if_false, Bool.true_eq_false, Bool.false_eq_true, decide_true, decide_false, decide_eq_true_eq, exA, tabs, List.take_length, List.drop_length, Nat.min_self, List.length_replicate, List.length_append, List.length_set, List.length_map, List.length_range, List.length_take, List.length_drop, buildA, layA, rowPut, rowOr, rowSetAt, rowSet, rowTake, rowDrop, rowCell, rowAgg, mkAgg, AV.size, AV.isAggV, AV.parts, AV.one, AV.solid, headSize, psize, indexAddrA, indexA, fieldAddrA, fieldA, sliceA, boundsA, bndA, lenA, arrayAtA, rowOf, makeSliceA, intsOf, copyA, List.getElem?_cons_zero, List.getElem?_cons_succ, List.length_cons, List.length_nil, List.set_cons_zero, List.set_cons_succ, Nat.reduceAdd, Nat.reduceSub, Nat.reduceMul, Nat.reduceLeDiff, Nat.reduceLT, Nat.reduceGT, Int.reduceToNat, Int.reduceLE, Int.reduceLT, Int.reduceEq, Int.reduceNe, Int.reduceAdd, Int.reduceSub, Int.reduceMul, Nat.zero_add, Nat.add_zero, Nat.mul_one, Nat.one_mul, Nat.zero_mul, Nat.mul_zero, Nat.sub_zero, Nat.le_refl, Int.reduceNeg, ge_iff_le, gt_iff_lt, Option.isSome_none, Option.isSome_some, Bool.not_true, Bool.not_false, Bool.not_not, List.take_zero, List.drop_zero, List.tail_cons, or_true, true_or, or_false, false_or, not_true, not_false_iff, Int.ofNat_eq_natCast, Int.cast_ofNat_Int, ite_true, ite_false, dite_true, take_app, take_blakeL, blakeL_len, c9_pure, c9_news, p5, F22_eq, p4, p3, p2, p1, F80_eq, F70_eq, F53_eq, F55_eq, F25_eq, F56_eq, F23_eq, n8, N30_nil, N30_ptr, N28_nil, N28_ptr, hashK_eq, hashR_eq, n7, n6, n5, N57_eq, N27_eq, N20_eq, N21_eq, addNews, List.take_succ_cons, List.drop_succ_cons, List.take_nil, List.drop_nil, List.flatten_cons, List.flatten_nil, allOf, List.all_cons, List.all_nil, Bool.and_true, Bool.and_self, Bool.true_and, hr] | simp (maxSteps := 1000000) (disch := omega) only [ar_nat, ar_u64, ar_add, ar_sub, ar_mul, ar_div, ar_mod, ar_dec_t, ar_dec_f, ar_beq_t, ar_beq_f, ar_bne_t, ar_bne_f, ar_guard, or_guard, ar_take, ar_take_drop, ar_drop, Int.toNat_natCast, Int.reduceToNat])
  intro c0 _
  repeat (with_reducible refine And.intro (by first | omega | assumption) ?_)
  intro c1 _
  refine loop_countE (good9 0) (α := {a : List Int // a.length = key.length}) (fun i a => ⟨envL [(0, .v (.int .i64 n)), (1, .roI .u8 key), (2, .roL 1 (l.map (AV.roI .u8))), (7, .sl 1 0 1 0 key.length c0), (8, .ptr 2 0 0), (10, .v (.int .i64 i))],
    [none, some [.arr key.length .u8 a.val], some (hState (paramL n key) n (keyB key) c1 3), some (hRest (keyB key))]⟩) key.length (by kernel_rfl) ⟨⟨key, rfl⟩, ?_⟩ ?_ ?_
  · (refine weak_of ?_ ?_; (focus (first | with_reducible rfl | (simp only [hState, hRest] <;> with_reducible rfl))); simp only [envAll_cons, envAll_nil, get_put, get_envOf, get_envL_cons, get_envL_nil, Nat.reduceEqDiff, if_true, if_false, reduceIte, Option.some.injEq, and_self, reduceCtorEq, List.getD_cons_zero, List.getD_cons_succ, Int.cast_ofNat_Int, and_true, true_and, hState, hRest])
  · rintro i ⟨a, ha⟩ hi
    repeat (first | simp only [c9_P, c9_odd, List.contains_nil, List.contains_cons, Nat.reduceBEq, Bool.or_false, Bool.false_or, List.getElem?_toArray, layInts, layOnes, beq_self_eq_true, bne_self_eq_false, addPure, List.getD_cons_zero, List.getD_cons_succ, Option.map_some, Option.bind_some, Option.map_none, Option.bind_none, Option.some_or, Option.or_none, Option.none_or, List.map_cons, List.map_nil, List.append_nil, List.nil_append, List.cons_append, List.toList_toArray, Option.some.injEq, reduceIte, Nat.reduceEqDiff, reduceCtorEq, ne_eq, not_false_eq_true, not_true_eq_false, and_true, true_and, and_self, if_true, if_false, Bool.true_eq_false, Bool.false_eq_true, decide_true, decide_false, decide_eq_true_eq, exA, tabs, List.take_length, List.drop_length, Nat.min_self, List.length_replicate, List.length_append, List.length_set, List.length_map, List.length_range, List.length_take, List.length_drop, buildA, layA, rowPut, rowOr, rowSetAt, rowSet, rowTake, rowDrop, rowCell, rowAgg, mkAgg, AV.size, AV.isAggV, AV.parts, AV.one, AV.solid, headSize, psize, indexAddrA, indexA, fieldAddrA, fieldA, sliceA, boundsA, bndA, lenA, arrayAtA, rowOf, makeSliceA, intsOf, copyA, List.getElem?_cons_zero, List.getElem?_cons_succ, List.length_cons, List.length_nil, List.set_cons_zero, List.set_cons_succ, Nat.reduceAdd, Nat.reduceSub, Nat.reduceMul, Nat.reduceLeDiff, Nat.reduceLT, Nat.reduceGT, Int.reduceToNat, Int.reduceLE, Int.reduceLT, Int.reduceEq, Int.reduceNe, Int.reduceAdd, Int.reduceSub, Int.reduceMul, Nat.zero_add, Nat.add_zero, Nat.mul_one, Nat.one_mul, Nat.zero_mul, Nat.mul_zero, Nat.sub_zero, Nat.le_refl, Int.reduceNeg, ge_iff_le, gt_iff_lt, Option.isSome_none, Option.isSome_some, Bool.not_true, Bool.not_false, Bool.not_not, List.take_zero, List.drop_zero, List.tail_cons, or_true, true_or, or_false, false_or, not_true, not_false_iff, Int.ofNat_eq_natCast, Int.cast_ofNat_Int, ite_true, ite_false, dite_true, take_app, take_blakeL, blakeL_len, c9_pure, c9_news, p5, F22_eq, p4, p3, p2, p1, F80_eq, F70_eq, F53_eq, F55_eq, F25_eq, F56_eq, F23_eq, n8, N30_nil, N30_ptr, N28_nil, N28_ptr, hashK_eq, hashR_eq, n7, n6, n5, N57_eq, N27_eq, N20_eq, N21_eq, addNews, List.take_succ_cons, List.drop_succ_cons, List.take_nil, List.drop_nil, List.flatten_cons, List.flatten_nil, allOf, List.all_cons, List.all_nil, Bool.and_true, Bool.and_self, Bool.true_and, hr, ha] | simp (maxSteps := 1000000) (disch := omega) only [ar_nat, ar_u64, ar_add, ar_sub, ar_mul, ar_div, ar_mod, ar_dec_t, ar_dec_f, ar_beq_t, ar_beq_f, ar_bne_t, ar_bne_f, ar_guard, or_guard, ar_take, ar_take_drop, ar_drop, Int.toNat_natCast, Int.reduceToNat])
    repeat (with_reducible refine And.intro (by first | omega | assumption) ?_)
    refine ⟨⟨a.set i (IntKind.u8.wrap (a.getD i 0 + 1)), by rw [List.length_set, ha]⟩, ?_⟩
    (refine weak_of ?_ ?_; (focus (first | with_reducible rfl | (simp only [ha] <;> with_reducible rfl))); simp only [envAll_cons, envAll_nil, get_put, get_envOf, get_envL_cons, get_envL_nil, Nat.reduceEqDiff, if_true, if_false, reduceIte, Option.some.injEq, and_self, reduceCtorEq, List.getD_cons_zero, List.getD_cons_succ, Int.cast_ofNat_Int, and_true, true_and, ha])
  · rintro ⟨a, ha⟩
    repeat (first | simp only [c9_P, c9_odd, List.contains_nil, List.contains_cons, Nat.reduceBEq, Bool.or_false, Bool.false_or, List.getElem?_toArray, layInts, layOnes, beq_self_eq_true, bne_self_eq_false, addPure, List.getD_cons_zero, List.getD_cons_succ, Option.map_some, Option.bind_some, Option.map_none, Option.bind_none, Option.some_or, Option.or_none, Option.none_or, List.map_cons, List.map_nil, List.append_nil, List.nil_append, List.cons_append, List.toList_toArray, Option.some.injEq, reduceIte, Nat.reduceEqDiff, reduceCtorEq, ne_eq, not_false_eq_true, not_true_eq_false, and_true, true_and, and_self, if_true, if_false, Bool.true_eq_false, Bool.false_eq_true, decide_true, decide_false, decide_eq_true_eq, exA, tabs, List.take_length, List.drop_length, Nat.min_self, List.length_replicate, List.length_append, List.length_set, List.length_map, List.length_range, List.length_take, List.length_drop, buildA, layA, rowPut, rowOr, rowSetAt, rowSet, rowTake, rowDrop, rowCell, rowAgg, mkAgg, AV.size, AV.isAggV, AV.parts, AV.one, AV.solid, headSize, psize, indexAddrA, indexA, fieldAddrA, fieldA, sliceA, boundsA, bndA, lenA, arrayAtA, rowOf, makeSliceA, intsOf, copyA, List.getElem?_cons_zero, List.getElem?_cons_succ, List.length_cons, List.length_nil, List.set_cons_zero, List.set_cons_succ, Nat.reduceAdd, Nat.reduceSub, Nat.reduceMul, Nat.reduceLeDiff, Nat.reduceLT, Nat.reduceGT, Int.reduceToNat, Int.reduceLE, Int.reduceLT, Int.reduceEq, Int.reduceNe, Int.reduceAdd, Int.reduceSub, Int.reduceMul, Nat.zero_add, Nat.add_zero, Nat.mul_one, Nat.one_mul, Nat.zero_mul, Nat.mul_zero, Nat.sub_zero, Nat.le_refl, Int.reduceNeg, ge_iff_le, gt_iff_lt, Option.isSome_none, Option.isSome_some, Bool.not_true, Bool.not_false, Bool.not_not, List.take_zero, List.drop_zero, List.tail_cons, or_true, true_or, or_false, false_or, not_true, not_false_iff, Int.ofNat_eq_natCast, Int.cast_ofNat_Int, ite_true, ite_false, dite_true, take_app, take_blakeL, blakeL_len, c9_pure, c9_news, p5, F22_eq, p4, p3, p2, p1, F80_eq, F70_eq, F53_eq, F55_eq, F25_eq, F56_eq, F23_eq, n8, N30_nil, N30_ptr, N28_nil, N28_ptr, hashK_eq, hashR_eq, n7, n6, n5, N57_eq, N27_eq, N20_eq, N21_eq, addNews, List.take_succ_cons, List.drop_succ_cons, List.take_nil, List.drop_nil, List.flatten_cons, List.flatten_nil, allOf, List.all_cons, List.all_nil, Bool.and_true, Bool.and_self, Bool.true_and, hr, ha] | simp (maxSteps := 1000000) (disch := omega) only [ar_nat, ar_u64, ar_add, ar_sub, ar_mul, ar_div, ar_mod, ar_dec_t, ar_dec_f, ar_beq_t, ar_beq_f, ar_bne_t, ar_bne_f, ar_guard, or_guard, ar_take, ar_take_drop, ar_drop, Int.toNat_natCast, Int.reduceToNat])
    refine loop_countE (good9 0) (α := Nat × Nat) (fun i c => ⟨envL [(0, .v (.int .i64 n)), (1, .roI .u8 key), (2, .roL 1 (l.map (AV.roI .u8))), (8, .ptr 0 0 0), (11, .sl 2 0 1 0 (l.take i).flatten.length c.2), (12, .v (.int .i64 i))],
      [some (hState (paramL n key) n (keyB key ++ (l.take i).flatten) c.1 1), some (hRest (keyB key ++ (l.take i).flatten)), some [.arr (l.take i).flatten.length .u8 (l.take i).flatten]]⟩) l.length (by kernel_rfl) ⟨(c1, 0), ?_⟩ ?_ ?_
    · refine Weak.trans (weak_nil_slot 11 .u8 rfl (fun j => get_put _ _ _ _)) ?_
      (refine weak_gc' [2, 3, 4] (by decide) (by simp) (by rfl) ?_ ?_; (focus (first | with_reducible rfl | (simp only [List.map_cons, List.map_nil, List.cons_append, List.nil_append, List.getElem?_cons_zero, List.getElem?_cons_succ, renB, renL, Option.map_some, Option.map_none, AV.ren, gcMap, List.getD_cons_zero, List.getD_cons_succ, List.take_zero, List.flatten_nil, List.append_nil, List.length_nil, hState_ren, hRest_ren] <;> with_reducible rfl))); simp only [List.map_cons, List.map_nil, List.length_cons, List.length_nil, Nat.reduceAdd, AV.ren, renL, gcMap, envAll_cons, envAll_nil, get_put, get_envOf, get_envL_cons, get_envL_nil, Nat.reduceEqDiff, if_true, if_false, reduceIte, Option.some.injEq, and_self, reduceCtorEq, List.getD_cons_zero, List.getD_cons_succ, Int.cast_ofNat_Int, and_true, true_and, List.take_zero, List.flatten_nil, List.append_nil, List.length_nil, hState_ren, hRest_ren])
    · rintro i ⟨c1, c2⟩ hi
      have hg := roL_get .u8 l i hi
      have hf := flat_take l i hi
      have h1 := flat_le l i
      have h2 := flat_le l (i + 1)
      rw [hf, List.length_append] at h2
      obtain ⟨A, hA⟩ : ∃ A, (l.take i).flatten = A := ⟨_, rfl⟩
      obtain ⟨m, hm⟩ : ∃ m, l.getD i [] = m := ⟨_, rfl⟩
      rw [hm] at hg hf h2
      rw [hA] at hf h1 h2 ⊢
      simp only
      obtain ⟨B, hB⟩ : ∃ B, keyB key ++ A = B := ⟨_, rfl⟩
      have hBl : B.length = (keyB key).length + A.length := by rw [← hB, List.length_append]
      obtain ⟨B2, hB2⟩ : ∃ B2, B ++ m = B2 := ⟨_, rfl⟩
      have hB2l : B2.length = B.length + m.length := by rw [← hB2, List.length_append]
      have hBB : keyB key ++ (A ++ m) = B2 := by rw [← List.append_assoc, hB, hB2]
      obtain ⟨D, hD⟩ : ∃ D, blakeL n key (A ++ m) = D := ⟨_, rfl⟩
      have hDl : D.length = n := by rw [← hD]; simp [blakeL, digestL_len]
      have hD1 := sumL_all n (paramL n key) B2 (by omega)
      have hD2 : digestL (paramL n key) n B2 = D := by rw [← hD, ← hBB]; rfl
      rw [hD2] at hD1
      have hq := qOf_le B2.length
      have hq8 : B2.length - 128 * qOf B2.length ≤ 128 := by unfold qOf; omega
      have hqB := qOf_le B.length
      have hq8B : B.length - 128 * qOf B.length ≤ 128 := by unfold qOf; omega
      have hp2 := pieces_len (paramL n key) B2 (qOf B2.length)
      have hpB := pieces_len (paramL n key) B (qOf B.length)
      have hpp := paramL_len n key
      rw [hB, hf, hBB]
      by_cases h3 : i % 3 = 1
      · repeat (first | simp only [c9_P, c9_odd, List.contains_nil, List.contains_cons, Nat.reduceBEq, Bool.or_false, Bool.false_or, List.getElem?_toArray, layInts, layOnes, beq_self_eq_true, bne_self_eq_false, addPure, List.getD_cons_zero, List.getD_cons_succ, Option.map_some, Option.bind_some, Option.map_none, Option.bind_none, Option.some_or, Option.or_none, Option.none_or, List.map_cons, List.map_nil, List.append_nil, List.nil_append, List.cons_append, List.toList_toArray, Option.some.injEq, reduceIte, Nat.reduceEqDiff, reduceCtorEq, ne_eq, not_false_eq_true, not_true_eq_false, and_true, true_and, and_self, if_true, if_false, Bool.true_eq_false, Bool.false_eq_true, decide_true, decide_false, decide_eq_true_eq, exA, tabs, List.take_length, List.drop_length, Nat.min_self, List.length_replicate, List.length_append, List.length_set, List.length_map, List.length_range, List.length_take, List.length_drop, buildA, layA, rowPut, rowOr, rowSetAt, rowSet, rowTake, rowDrop, rowCell, rowAgg, mkAgg, AV.size, AV.isAggV, AV.parts, AV.one, AV.solid, headSize, psize, indexAddrA, indexA, fieldAddrA, fieldA, sliceA, boundsA, bndA, lenA, arrayAtA, rowOf, makeSliceA, intsOf, copyA, List.getElem?_cons_zero, List.getElem?_cons_succ, List.length_cons, List.length_nil, List.set_cons_zero, List.set_cons_succ, Nat.reduceAdd, Nat.reduceSub, Nat.reduceMul, Nat.reduceLeDiff, Nat.reduceLT, Nat.reduceGT, Int.reduceToNat, Int.reduceLE, Int.reduceLT, Int.reduceEq, Int.reduceNe, Int.reduceAdd, Int.reduceSub, Int.reduceMul, Nat.zero_add, Nat.add_zero, Nat.mul_one, Nat.one_mul, Nat.zero_mul, Nat.mul_zero, Nat.sub_zero, Nat.le_refl, Int.reduceNeg, ge_iff_le, gt_iff_lt, Option.isSome_none, Option.isSome_some, Bool.not_true, Bool.not_false, Bool.not_not, List.take_zero, List.drop_zero, List.tail_cons, or_true, true_or, or_false, false_or, not_true, not_false_iff, Int.ofNat_eq_natCast, Int.cast_ofNat_Int, ite_true, ite_false, dite_true, take_app, take_blakeL, blakeL_len, c9_pure, c9_news, p5, F22_eq, p4, p3, p2, p1, F80_eq, F70_eq, F53_eq, F55_eq, F25_eq, F56_eq, F23_eq, n8, N30_nil, N30_ptr, N28_nil, N28_ptr, hashK_eq, hashR_eq, n7, n6, n5, N57_eq, N27_eq, N20_eq, N21_eq, addNews, List.take_succ_cons, List.drop_succ_cons, List.take_nil, List.drop_nil, List.flatten_cons, List.flatten_nil, allOf, List.all_cons, List.all_nil, Bool.and_true, Bool.and_self, Bool.true_and, hr, hg, hState, hRest, hpB, hpp] | simp (maxSteps := 1000000) (disch := omega) only [ar_nat, ar_u64, ar_add, ar_sub, ar_mul, ar_div, ar_mod, ar_dec_t, ar_dec_f, ar_beq_t, ar_beq_f, ar_bne_t, ar_bne_f, ar_guard, or_guard, ar_take, ar_take_drop, ar_drop, Int.toNat_natCast, Int.reduceToNat])
        repeat (with_reducible refine And.intro (by first | omega | assumption) ?_)
        intro cf _
        refine callC_fr [0, 1, 5] (write_own (paramL n key) B [111, 116, 104, 101, 114] n c1 5 rfl (by simp; omega)) rfl rfl (by decide) ?_
        rintro _ _ ⟨rfl, co, rfl⟩
        repeat (first | simp only [c9_P, c9_odd, List.contains_nil, List.contains_cons, Nat.reduceBEq, Bool.or_false, Bool.false_or, List.getElem?_toArray, layInts, layOnes, beq_self_eq_true, bne_self_eq_false, addPure, List.getD_cons_zero, List.getD_cons_succ, Option.map_some, Option.bind_some, Option.map_none, Option.bind_none, Option.some_or, Option.or_none, Option.none_or, List.map_cons, List.map_nil, List.append_nil, List.nil_append, List.cons_append, List.toList_toArray, Option.some.injEq, reduceIte, Nat.reduceEqDiff, reduceCtorEq, ne_eq, not_false_eq_true, not_true_eq_false, and_true, true_and, and_self, if_true, if_false, Bool.true_eq_false, Bool.false_eq_true, decide_true, decide_false, decide_eq_true_eq, exA, tabs, List.take_length, List.drop_length, Nat.min_self, List.length_replicate, List.length_append, List.length_set, List.length_map, List.length_range, List.length_take, List.length_drop, buildA, layA, rowPut, rowOr, rowSetAt, rowSet, rowTake, rowDrop, rowCell, rowAgg, mkAgg, AV.size, AV.isAggV, AV.parts, AV.one, AV.solid, headSize, psize, indexAddrA, indexA, fieldAddrA, fieldA, sliceA, boundsA, bndA, lenA, arrayAtA, rowOf, makeSliceA, intsOf, copyA, List.getElem?_cons_zero, List.getElem?_cons_succ, List.length_cons, List.length_nil, List.set_cons_zero, List.set_cons_succ, Nat.reduceAdd, Nat.reduceSub, Nat.reduceMul, Nat.reduceLeDiff, Nat.reduceLT, Nat.reduceGT, Int.reduceToNat, Int.reduceLE, Int.reduceLT, Int.reduceEq, Int.reduceNe, Int.reduceAdd, Int.reduceSub, Int.reduceMul, Nat.zero_add, Nat.add_zero, Nat.mul_one, Nat.one_mul, Nat.zero_mul, Nat.mul_zero, Nat.sub_zero, Nat.le_refl, Int.reduceNeg, ge_iff_le, gt_iff_lt, Option.isSome_none, Option.isSome_some, Bool.not_true, Bool.not_false, Bool.not_not, List.take_zero, List.drop_zero, List.tail_cons, or_true, true_or, or_false, false_or, not_true, not_false_iff, Int.ofNat_eq_natCast, Int.cast_ofNat_Int, ite_true, ite_false, dite_true, take_app, take_blakeL, blakeL_len, c9_pure, c9_news, p5, F22_eq, p4, p3, p2, p1, F80_eq, F70_eq, F53_eq, F55_eq, F25_eq, F56_eq, F23_eq, n8, N30_nil, N30_ptr, N28_nil, N28_ptr, hashK_eq, hashR_eq, n7, n6, n5, N57_eq, N27_eq, N20_eq, N21_eq, addNews, List.take_succ_cons, List.drop_succ_cons, List.take_nil, List.drop_nil, List.flatten_cons, List.flatten_nil, allOf, List.all_cons, List.all_nil, Bool.and_true, Bool.and_self, Bool.true_and, hr, hg, overwrite, renB, renL, AV.ren, hState_ren, hRest_ren, frameMap] | simp (maxSteps := 1000000) (disch := omega) only [ar_nat, ar_u64, ar_add, ar_sub, ar_mul, ar_div, ar_mod, ar_dec_t, ar_dec_f, ar_beq_t, ar_beq_f, ar_bne_t, ar_bne_f, ar_guard, or_guard, ar_take, ar_take_drop, ar_drop, Int.toNat_natCast, Int.reduceToNat])
        repeat (with_reducible refine And.intro (by first | omega | assumption) ?_)
        refine callC_fr [3, 4] (write_spec (paramL n key) B m n cf rfl (by omega)) rfl rfl (by decide) ?_
        rintro _ _ ⟨rfl, c', rfl⟩
        rw [hB2]
        repeat (first | simp only [c9_P, c9_odd, List.contains_nil, List.contains_cons, Nat.reduceBEq, Bool.or_false, Bool.false_or, List.getElem?_toArray, layInts, layOnes, beq_self_eq_true, bne_self_eq_false, addPure, List.getD_cons_zero, List.getD_cons_succ, Option.map_some, Option.bind_some, Option.map_none, Option.bind_none, Option.some_or, Option.or_none, Option.none_or, List.map_cons, List.map_nil, List.append_nil, List.nil_append, List.cons_append, List.toList_toArray, Option.some.injEq, reduceIte, Nat.reduceEqDiff, reduceCtorEq, ne_eq, not_false_eq_true, not_true_eq_false, and_true, true_and, and_self, if_true, if_false, Bool.true_eq_false, Bool.false_eq_true, decide_true, decide_false, decide_eq_true_eq, exA, tabs, List.take_length, List.drop_length, Nat.min_self, List.length_replicate, List.length_append, List.length_set, List.length_map, List.length_range, List.length_take, List.length_drop, buildA, layA, rowPut, rowOr, rowSetAt, rowSet, rowTake, rowDrop, rowCell, rowAgg, mkAgg, AV.size, AV.isAggV, AV.parts, AV.one, AV.solid, headSize, psize, indexAddrA, indexA, fieldAddrA, fieldA, sliceA, boundsA, bndA, lenA, arrayAtA, rowOf, makeSliceA, intsOf, copyA, List.getElem?_cons_zero, List.getElem?_cons_succ, List.length_cons, List.length_nil, List.set_cons_zero, List.set_cons_succ, Nat.reduceAdd, Nat.reduceSub, Nat.reduceMul, Nat.reduceLeDiff, Nat.reduceLT, Nat.reduceGT, Int.reduceToNat, Int.reduceLE, Int.reduceLT, Int.reduceEq, Int.reduceNe, Int.reduceAdd, Int.reduceSub, Int.reduceMul, Nat.zero_add, Nat.add_zero, Nat.mul_one, Nat.one_mul, Nat.zero_mul, Nat.mul_zero, Nat.sub_zero, Nat.le_refl, Int.reduceNeg, ge_iff_le, gt_iff_lt, Option.isSome_none, Option.isSome_some, Bool.not_true, Bool.not_false, Bool.not_not, List.take_zero, List.drop_zero, List.tail_cons, or_true, true_or, or_false, false_or, not_true, not_false_iff, Int.ofNat_eq_natCast, Int.cast_ofNat_Int, ite_true, ite_false, dite_true, take_app, take_blakeL, blakeL_len, c9_pure, c9_news, p5, F22_eq, p4, p3, p2, p1, F80_eq, F70_eq, F53_eq, F55_eq, F25_eq, F56_eq, F23_eq, n8, N30_nil, N30_ptr, N28_nil, N28_ptr, hashK_eq, hashR_eq, n7, n6, n5, N57_eq, N27_eq, N20_eq, N21_eq, addNews, List.take_succ_cons, List.drop_succ_cons, List.take_nil, List.drop_nil, List.flatten_cons, List.flatten_nil, allOf, List.all_cons, List.all_nil, Bool.and_true, Bool.and_self, Bool.true_and, hr, hg, overwrite, renB, renL, AV.ren, hState, hRest, frameMap, hp2, hpp, hD, hD1, hDl] | simp (maxSteps := 1000000) (disch := omega) only [ar_nat, ar_u64, ar_add, ar_sub, ar_mul, ar_div, ar_mod, ar_dec_t, ar_dec_f, ar_beq_t, ar_beq_f, ar_bne_t, ar_bne_f, ar_guard, or_guard, ar_take, ar_take_drop, ar_drop, Int.toNat_natCast, Int.reduceToNat])
        repeat (with_reducible refine And.intro (by first | omega | assumption) ?_)
        intro c3 _
        repeat (with_reducible refine And.intro (by first | omega | assumption) ?_)
        intro c4 _
        repeat (with_reducible refine And.intro (by first | omega | assumption) ?_)
        refine ⟨(c', c3), ?_⟩
        (refine weak_gc' [3, 7, 8] (by decide) (by simp) (by rfl) ?_ ?_; (focus (first | with_reducible rfl | (simp only [List.map_cons, List.map_nil, List.cons_append, List.nil_append, List.getElem?_cons_zero, List.getElem?_cons_succ, renB, renL, Option.map_some, Option.map_none, AV.ren, gcMap, List.getD_cons_zero, List.getD_cons_succ, hg] <;> with_reducible rfl))); simp only [List.map_cons, List.map_nil, List.length_cons, List.length_nil, Nat.reduceAdd, AV.ren, renL, gcMap, envAll_cons, envAll_nil, get_put, get_envOf, get_envL_cons, get_envL_nil, Nat.reduceEqDiff, if_true, if_false, reduceIte, Option.some.injEq, and_self, reduceCtorEq, List.getD_cons_zero, List.getD_cons_succ, Int.cast_ofNat_Int, and_true, true_and, hg])
      · repeat (first | simp only [c9_P, c9_odd, List.contains_nil, List.contains_cons, Nat.reduceBEq, Bool.or_false, Bool.false_or, List.getElem?_toArray, layInts, layOnes, beq_self_eq_true, bne_self_eq_false, addPure, List.getD_cons_zero, List.getD_cons_succ, Option.map_some, Option.bind_some, Option.map_none, Option.bind_none, Option.some_or, Option.or_none, Option.none_or, List.map_cons, List.map_nil, List.append_nil, List.nil_append, List.cons_append, List.toList_toArray, Option.some.injEq, reduceIte, Nat.reduceEqDiff, reduceCtorEq, ne_eq, not_false_eq_true, not_true_eq_false, and_true, true_and, and_self, if_true, if_false, Bool.true_eq_false, Bool.false_eq_true, decide_true, decide_false, decide_eq_true_eq, exA, tabs, List.take_length, List.drop_length, Nat.min_self, List.length_replicate, List.length_append, List.length_set, List.length_map, List.length_range, List.length_take, List.length_drop, buildA, layA, rowPut, rowOr, rowSetAt, rowSet, rowTake, rowDrop, rowCell, rowAgg, mkAgg, AV.size, AV.isAggV, AV.parts, AV.one, AV.solid, headSize, psize, indexAddrA, indexA, fieldAddrA, fieldA, sliceA, boundsA, bndA, lenA, arrayAtA, rowOf, makeSliceA, intsOf, copyA, List.getElem?_cons_zero, List.getElem?_cons_succ, List.length_cons, List.length_nil, List.set_cons_zero, List.set_cons_succ, Nat.reduceAdd, Nat.reduceSub, Nat.reduceMul, Nat.reduceLeDiff, Nat.reduceLT, Nat.reduceGT, Int.reduceToNat, Int.reduceLE, Int.reduceLT, Int.reduceEq, Int.reduceNe, Int.reduceAdd, Int.reduceSub, Int.reduceMul, Nat.zero_add, Nat.add_zero, Nat.mul_one, Nat.one_mul, Nat.zero_mul, Nat.mul_zero, Nat.sub_zero, Nat.le_refl, Int.reduceNeg, ge_iff_le, gt_iff_lt, Option.isSome_none, Option.isSome_some, Bool.not_true, Bool.not_false, Bool.not_not, List.take_zero, List.drop_zero, List.tail_cons, or_true, true_or, or_false, false_or, not_true, not_false_iff, Int.ofNat_eq_natCast, Int.cast_ofNat_Int, ite_true, ite_false, dite_true, take_app, take_blakeL, blakeL_len, c9_pure, c9_news, p5, F22_eq, p4, p3, p2, p1, F80_eq, F70_eq, F53_eq, F55_eq, F25_eq, F56_eq, F23_eq, n8, N30_nil, N30_ptr, N28_nil, N28_ptr, hashK_eq, hashR_eq, n7, n6, n5, N57_eq, N27_eq, N20_eq, N21_eq, addNews, List.take_succ_cons, List.drop_succ_cons, List.take_nil, List.drop_nil, List.flatten_cons, List.flatten_nil, allOf, List.all_cons, List.all_nil, Bool.and_true, Bool.and_self, Bool.true_and, hr, hg] | simp (maxSteps := 1000000) (disch := omega) only [ar_nat, ar_u64, ar_add, ar_sub, ar_mul, ar_div, ar_mod, ar_dec_t, ar_dec_f, ar_beq_t, ar_beq_f, ar_bne_t, ar_bne_f, ar_guard, or_guard, ar_take, ar_take_drop, ar_drop, Int.toNat_natCast, Int.reduceToNat])
        repeat (with_reducible refine And.intro (by first | omega | assumption) ?_)
        refine callC_fr [0, 1] (write_spec (paramL n key) B m n c1 rfl (by omega)) rfl rfl (by decide) ?_
        rintro _ _ ⟨rfl, c', rfl⟩
        rw [hB2]
        repeat (first | simp only [c9_P, c9_odd, List.contains_nil, List.contains_cons, Nat.reduceBEq, Bool.or_false, Bool.false_or, List.getElem?_toArray, layInts, layOnes, beq_self_eq_true, bne_self_eq_false, addPure, List.getD_cons_zero, List.getD_cons_succ, Option.map_some, Option.bind_some, Option.map_none, Option.bind_none, Option.some_or, Option.or_none, Option.none_or, List.map_cons, List.map_nil, List.append_nil, List.nil_append, List.cons_append, List.toList_toArray, Option.some.injEq, reduceIte, Nat.reduceEqDiff, reduceCtorEq, ne_eq, not_false_eq_true, not_true_eq_false, and_true, true_and, and_self, if_true, if_false, Bool.true_eq_false, Bool.false_eq_true, decide_true, decide_false, decide_eq_true_eq, exA, tabs, List.take_length, List.drop_length, Nat.min_self, List.length_replicate, List.length_append, List.length_set, List.length_map, List.length_range, List.length_take, List.length_drop, buildA, layA, rowPut, rowOr, rowSetAt, rowSet, rowTake, rowDrop, rowCell, rowAgg, mkAgg, AV.size, AV.isAggV, AV.parts, AV.one, AV.solid, headSize, psize, indexAddrA, indexA, fieldAddrA, fieldA, sliceA, boundsA, bndA, lenA, arrayAtA, rowOf, makeSliceA, intsOf, copyA, List.getElem?_cons_zero, List.getElem?_cons_succ, List.length_cons, List.length_nil, List.set_cons_zero, List.set_cons_succ, Nat.reduceAdd, Nat.reduceSub, Nat.reduceMul, Nat.reduceLeDiff, Nat.reduceLT, Nat.reduceGT, Int.reduceToNat, Int.reduceLE, Int.reduceLT, Int.reduceEq, Int.reduceNe, Int.reduceAdd, Int.reduceSub, Int.reduceMul, Nat.zero_add, Nat.add_zero, Nat.mul_one, Nat.one_mul, Nat.zero_mul, Nat.mul_zero, Nat.sub_zero, Nat.le_refl, Int.reduceNeg, ge_iff_le, gt_iff_lt, Option.isSome_none, Option.isSome_some, Bool.not_true, Bool.not_false, Bool.not_not, List.take_zero, List.drop_zero, List.tail_cons, or_true, true_or, or_false, false_or, not_true, not_false_iff, Int.ofNat_eq_natCast, Int.cast_ofNat_Int, ite_true, ite_false, dite_true, take_app, take_blakeL, blakeL_len, c9_pure, c9_news, p5, F22_eq, p4, p3, p2, p1, F80_eq, F70_eq, F53_eq, F55_eq, F25_eq, F56_eq, F23_eq, n8, N30_nil, N30_ptr, N28_nil, N28_ptr, hashK_eq, hashR_eq, n7, n6, n5, N57_eq, N27_eq, N20_eq, N21_eq, addNews, List.take_succ_cons, List.drop_succ_cons, List.take_nil, List.drop_nil, List.flatten_cons, List.flatten_nil, allOf, List.all_cons, List.all_nil, Bool.and_true, Bool.and_self, Bool.true_and, hr, hg, overwrite, renB, renL, AV.ren, hState, hRest, frameMap, hp2, hpp, hD, hD1, hDl] | simp (maxSteps := 1000000) (disch := omega) only [ar_nat, ar_u64, ar_add, ar_sub, ar_mul, ar_div, ar_mod, ar_dec_t, ar_dec_f, ar_beq_t, ar_beq_f, ar_bne_t, ar_bne_f, ar_guard, or_guard, ar_take, ar_take_drop, ar_drop, Int.toNat_natCast, Int.reduceToNat])
        repeat (with_reducible refine And.intro (by first | omega | assumption) ?_)
        intro c3 _
        repeat (with_reducible refine And.intro (by first | omega | assumption) ?_)
        intro c4 _
        repeat (with_reducible refine And.intro (by first | omega | assumption) ?_)
        refine ⟨(c', c3), ?_⟩
        (refine weak_gc' [0, 3, 4] (by decide) (by simp) (by rfl) ?_ ?_; (focus (first | with_reducible rfl | (simp only [List.map_cons, List.map_nil, List.cons_append, List.nil_append, List.getElem?_cons_zero, List.getElem?_cons_succ, renB, renL, Option.map_some, Option.map_none, AV.ren, gcMap, List.getD_cons_zero, List.getD_cons_succ, hg] <;> with_reducible rfl))); simp only [List.map_cons, List.map_nil, List.length_cons, List.length_nil, Nat.reduceAdd, AV.ren, renL, gcMap, envAll_cons, envAll_nil, get_put, get_envOf, get_envL_cons, get_envL_nil, Nat.reduceEqDiff, if_true, if_false, reduceIte, Option.some.injEq, and_self, reduceCtorEq, List.getD_cons_zero, List.getD_cons_succ, Int.cast_ofNat_Int, and_true, true_and, hg])
    · rintro ⟨c1, c2⟩
      have hlt : l.take l.length = l := List.take_length
      simp only [hlt]
      obtain ⟨A, hA⟩ : ∃ A, l.flatten = A := ⟨_, rfl⟩
      rw [hA] at hl ⊢
      obtain ⟨B, hB⟩ : ∃ B, keyB key ++ A = B := ⟨_, rfl⟩
      have hBl : B.length = (keyB key).length + A.length := by rw [← hB, List.length_append]
      obtain ⟨D, hD⟩ : ∃ D, blakeL n key A = D := ⟨_, rfl⟩
      have hDl : D.length = n := by rw [← hD]; simp [blakeL, digestL_len]
      have hD1 := sumL_all n (paramL n key) B (by omega)
      have hD2 : digestL (paramL n key) n B = D := by rw [← hD, ← hB]; rfl
      rw [hD2] at hD1
      have hq := qOf_le B.length
      have hq8 : B.length - 128 * qOf B.length ≤ 128 := by unfold qOf; omega
      have hp2 := pieces_len (paramL n key) B (qOf B.length)
      have hpp := paramL_len n key
      rw [hB]
      repeat (first | simp only [c9_P, c9_odd, List.contains_nil, List.contains_cons, Nat.reduceBEq, Bool.or_false, Bool.false_or, List.getElem?_toArray, layInts, layOnes, beq_self_eq_true, bne_self_eq_false, addPure, List.getD_cons_zero, List.getD_cons_succ, Option.map_some, Option.bind_some, Option.map_none, Option.bind_none, Option.some_or, Option.or_none, Option.none_or, List.map_cons, List.map_nil, List.append_nil, List.nil_append, List.cons_append, List.toList_toArray, Option.some.injEq, reduceIte, Nat.reduceEqDiff, reduceCtorEq, ne_eq, not_false_eq_true, not_true_eq_false, and_true, true_and, and_self, if_true, if_false, Bool.true_eq_false, Bool.false_eq_true, decide_true, decide_false, decide_eq_true_eq, exA, tabs, List.take_length, List.drop_length, Nat.min_self, List.length_replicate, List.length_append, List.length_set, List.length_map, List.length_range, List.length_take, List.length_drop, buildA, layA, rowPut, rowOr, rowSetAt, rowSet, rowTake, rowDrop, rowCell, rowAgg, mkAgg, AV.size, AV.isAggV, AV.parts, AV.one, AV.solid, headSize, psize, indexAddrA, indexA, fieldAddrA, fieldA, sliceA, boundsA, bndA, lenA, arrayAtA, rowOf, makeSliceA, intsOf, copyA, List.getElem?_cons_zero, List.getElem?_cons_succ, List.length_cons, List.length_nil, List.set_cons_zero, List.set_cons_succ, Nat.reduceAdd, Nat.reduceSub, Nat.reduceMul, Nat.reduceLeDiff, Nat.reduceLT, Nat.reduceGT, Int.reduceToNat, Int.reduceLE, Int.reduceLT, Int.reduceEq, Int.reduceNe, Int.reduceAdd, Int.reduceSub, Int.reduceMul, Nat.zero_add, Nat.add_zero, Nat.mul_one, Nat.one_mul, Nat.zero_mul, Nat.mul_zero, Nat.sub_zero, Nat.le_refl, Int.reduceNeg, ge_iff_le, gt_iff_lt, Option.isSome_none, Option.isSome_some, Bool.not_true, Bool.not_false, Bool.not_not, List.take_zero, List.drop_zero, List.tail_cons, or_true, true_or, or_false, false_or, not_true, not_false_iff, Int.ofNat_eq_natCast, Int.cast_ofNat_Int, ite_true, ite_false, dite_true, take_app, take_blakeL, blakeL_len, c9_pure, c9_news, p5, F22_eq, p4, p3, p2, p1, F80_eq, F70_eq, F53_eq, F55_eq, F25_eq, F56_eq, F23_eq, n8, N30_nil, N30_ptr, N28_nil, N28_ptr, hashK_eq, hashR_eq, n7, n6, n5, N57_eq, N27_eq, N20_eq, N21_eq, addNews, List.take_succ_cons, List.drop_succ_cons, List.take_nil, List.drop_nil, List.flatten_cons, List.flatten_nil, allOf, List.all_cons, List.all_nil, Bool.and_true, Bool.and_self, Bool.true_and, hr, hState, hRest, hp2, hpp, hD, hD1, hDl] | simp (maxSteps := 1000000) (disch := omega) only [ar_nat, ar_u64, ar_add, ar_sub, ar_mul, ar_div, ar_mod, ar_dec_t, ar_dec_f, ar_beq_t, ar_beq_f, ar_bne_t, ar_bne_f, ar_guard, or_guard, ar_take, ar_take_drop, ar_drop, Int.toNat_natCast, Int.reduceToNat])
      repeat' (first | omega | exact trivial | intro _ | refine And.intro ?_ ?_)
theorem law_writes_all (n : Int) (key : List Int) (l : List (List Int)) (hk : key.length ≤ 1048576) (hl : l.flatten.length ≤ 1048576 ∧ l.length ≤ 1048576) :
    ACall Try.prog 7 [.v (.int .i64 n), .roI .u8 key, .roL 1 (l.map (AV.roI .u8))] [] fun v _ => v = .v (.bool true) := by
  by_cases hb : n < 1 ∨ 64 < n ∨ 64 < key.length
  · exact law_writes_bad n key l hk hb
  · obtain ⟨m, rfl⟩ := Int.eq_ofNat_of_zero_le (show 0 ≤ n by omega)
    exact law_writes m key l (by omega) (by omega) hl
end Go.Proofs.Ytfnfmbikooeiaaa
