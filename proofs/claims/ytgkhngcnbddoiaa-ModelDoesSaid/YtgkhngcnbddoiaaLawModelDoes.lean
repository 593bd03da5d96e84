/- The law casketlaw25.ModelDoes returns true whatever the Head, the passphrase and the calls are; no condition. -/
import Derived.Test.YtgkhngcnbddoiaaAe
import Derived.Test.YtgkhngcnbddoiaaRows
import Derived.WalkKit
import Derived.ProofKit
set_option linter.unusedSimpArgs false
set_option linter.unusedVariables false
set_option maxHeartbeats 4000000
set_option maxRecDepth 100000
namespace Go.Ax
open Go.RowKit Go.WideShapes Go.ChangeShapes
section
variable {H : Type} {enc : TypeId × Value → H} {P : Program} {W : World} {X : Nat → Prop}
structure HdT (P : Program) (t : TypeId) : Prop where
  ex : ∃ tw ti tp ta tb f0 f1 f2 f3 f4 f5 f6 g0 g1 g2, P.underlying t = some (.struct #[f0, f1, f2, f3, f4, f5, f6]) ∧ (f0.type = tw ∧ f0.offset = 0) ∧ (f1.type = ti ∧ f1.offset = 1) ∧ (f2.type = ti ∧ f2.offset = 2) ∧ (f3.type = ti ∧ f3.offset = 3) ∧ (f4.type = ti ∧ f4.offset = 4) ∧ (f5.type = tp ∧ f5.offset = 5) ∧ (f6.type = ta ∧ f6.offset = 8) ∧
    P.underlying tp = some (.struct #[g0, g1, g2]) ∧ (g0.type = ti ∧ g0.offset = 0) ∧ (g1.type = ti ∧ g1.offset = 1) ∧ (g2.type = ti ∧ g2.offset = 2) ∧
    P.underlying tw = some (.int .u64) ∧ P.cellsOf tw = 1 ∧ P.underlying ti = some (.int .i64) ∧ P.cellsOf ti = 1 ∧ P.cellsOf tp = 3 ∧ P.underlying ta = some (.array 16 tb) ∧ P.cellsOf ta = 16 ∧ P.underlying tb = some (.int .u8) ∧ P.cellsOf tb = 1 ∧ P.cellsOf t = 24
theorem trod_hd {t : TypeId} {fuel : Nat} {cs : List Value} {x : DataW H × List MemPlace} (hT : HdT P t) (h : DataW.trod enc P W 0 (fun _ => true) true fuel t cs = some x) :
    ∃ a b c d e f g k : Int, ∃ n : List Int, relAll X W [] [.v (.int .u64 a), .v (.int .i64 b), .v (.int .i64 c), .v (.int .i64 d), .v (.int .i64 e), .v (.int .i64 f), .v (.int .i64 g), .v (.int .i64 k), .arr 16 .u8 n] cs ∧ 0 ≤ a ∧ n.length = 16 := by
  obtain ⟨tw, ti, tp, ta, tb, f0, f1, f2, f3, f4, f5, f6, g0, g1, g2, ht, h0, h1, h2, h3, h4, h5, h6, hp, k0, k1, k2, hw, hcw, hi, hci, hcp, ha, hca, hb, hcb, hct⟩ := hT.ex
  obtain ⟨fuel', xs, hl, _, hm⟩ := trod_struct ht hct h
  obtain ⟨x0, x1, x2, x3, x4, x5, x6, x7, r, rfl⟩ : ∃ x0 x1 x2 x3 x4 x5 x6 x7 r, cs = x0 :: x1 :: x2 :: x3 :: x4 :: x5 :: x6 :: x7 :: r := by
    match cs, hl with
    | x0 :: x1 :: x2 :: x3 :: x4 :: x5 :: x6 :: x7 :: r, _ => exact ⟨_, _, _, _, _, _, _, _, _, rfl⟩
  have hr : r.length = 16 := by simpa using hl
  have hrt : r.take 16 = r := List.take_of_length_le (by omega)
  simp only [List.mapM_cons, List.mapM_nil, h0.1, h0.2, h1.1, h1.2, h2.1, h2.2, h3.1, h3.2, h4.1, h4.2, h5.1, h5.2, h6.1, h6.2, hcw, hci, hcp, hca] at hm
  simp only [List.drop_zero, List.drop_succ_cons, List.take_succ_cons, List.take_zero, Option.bind_eq_bind, Option.pure_def, Option.bind_some, Option.bind_assoc, hrt] at hm
  obtain ⟨y0, q0, hm⟩ := Option.bind_eq_some_iff.1 hm
  obtain ⟨y1, q1, hm⟩ := Option.bind_eq_some_iff.1 hm
  obtain ⟨y2, q2, hm⟩ := Option.bind_eq_some_iff.1 hm
  obtain ⟨y3, q3, hm⟩ := Option.bind_eq_some_iff.1 hm
  obtain ⟨y4, q4, hm⟩ := Option.bind_eq_some_iff.1 hm
  obtain ⟨y5, q5, hm⟩ := Option.bind_eq_some_iff.1 hm
  obtain ⟨y6, q6, hm⟩ := Option.bind_eq_some_iff.1 hm
  obtain ⟨m0, e0, _, w0⟩ := DataW.trod_int hw q0
  obtain ⟨m1, e1, _, w1⟩ := DataW.trod_int hi q1
  obtain ⟨m2, e2, _, w2⟩ := DataW.trod_int hi q2
  obtain ⟨m3, e3, _, w3⟩ := DataW.trod_int hi q3
  obtain ⟨m4, e4, _, w4⟩ := DataW.trod_int hi q4
  obtain ⟨fuel2, zs, _, _, hz⟩ := trod_struct hp hcp q5
  simp only [List.mapM_cons, List.mapM_nil, k0.1, k0.2, k1.1, k1.2, k2.1, k2.2, hci] at hz
  simp only [List.drop_zero, List.drop_succ_cons, List.take_succ_cons, List.take_zero, Option.bind_eq_bind, Option.pure_def, Option.bind_some, Option.bind_assoc] at hz
  obtain ⟨z0, s0, hz⟩ := Option.bind_eq_some_iff.1 hz
  obtain ⟨z1, s1, hz⟩ := Option.bind_eq_some_iff.1 hz
  obtain ⟨z2, s2, hz⟩ := Option.bind_eq_some_iff.1 hz
  obtain ⟨m5, e5, _, w5⟩ := DataW.trod_int hi s0
  obtain ⟨m6, e6, _, w6⟩ := DataW.trod_int hi s1
  obtain ⟨m7, e7, _, w7⟩ := DataW.trod_int hi s2
  obtain ⟨l, l1, l2, _⟩ := trod_arr ha hb hcb hca q6
  simp only [List.cons.injEq, and_true] at e0 e1 e2 e3 e4 e5 e6 e7
  subst e0 e1 e2 e3 e4 e5 e6 e7
  refine ⟨m0, m1, m2, m3, m4, m5, m6, m7, l, ?_, ?_, l2⟩
  · refine relAll_mk (a := [_]) rfl (by simp [AV.rel, flat]) (relAll_mk (a := [_]) rfl (by simp [AV.rel, flat]) (relAll_mk (a := [_]) rfl (by simp [AV.rel, flat]) (relAll_mk (a := [_]) rfl (by simp [AV.rel, flat]) (relAll_mk (a := [_]) rfl (by simp [AV.rel, flat]) (relAll_mk (a := [_]) rfl (by simp [AV.rel, flat]) (relAll_mk (a := [_]) rfl (by simp [AV.rel, flat]) (relAll_mk (a := [_]) rfl (by simp [AV.rel, flat]) (relAll_mk (a := r) (b := []) (by simp) ?_ (by simp [relAll])))))))))
    simp only [AV.rel]
    exact ⟨l1, l2⟩
  · have := w0
    simp [Lit.wf] at this
    exact this.1
theorem open_hd {t : TypeId} {v : Value} {d : DataW H} {ps : List MemPlace} (hT : HdT P t) (hval : Value.okWide P W .any 0 t v) (hd : DataW.Trod enc P W 0 (fun _ => true) true t v d ps) :
    ∃ a b c d e f g k : Int, ∃ n : List Int, AV.relV X W [] (.agg [.v (.int .u64 a), .v (.int .i64 b), .v (.int .i64 c), .v (.int .i64 d), .v (.int .i64 e), .v (.int .i64 f), .v (.int .i64 g), .v (.int .i64 k), .arr 16 .u8 n]) v ∧ 0 ≤ a ∧ n.length = 16 := by
  obtain ⟨_, _, _, _, _, _, _, _, _, _, _, _, _, _, _, ht, _⟩ := hT.ex
  obtain ⟨cs, rfl⟩ := okWide_struct ht hval
  obtain ⟨fuel, hd⟩ := hd
  obtain ⟨a, b, c, d, e, f, g, k, n, h1, h2⟩ := trod_hd (X := X) hT hd
  refine ⟨a, b, c, d, e, f, g, k, n, ?_, h2⟩
  simp only [AV.relV]
  exact ⟨_, rfl, h1⟩
theorem roL_le {t u : TypeId} {v : Value} {d : DataW H} {ps : List MemPlace} {n : Nat} {es : List AV} (ht : P.underlying t = some (.slice u)) (hval : Value.okWide P W .any 0 t v) (hd : DataW.Trod enc P W 0 (fun _ => true) true t v d ps) (hr : AV.relV X W [] (.roL n es) v) : es.length ≤ 9223372036854775807 := by
  obtain ⟨fuel, hd⟩ := hd
  obtain ⟨a0, n0, c0, rfl⟩ := okWide_slice ht hval
  simp only [AV.relV, AV.rel] at hr
  obtain ⟨vs, _, ho, _⟩ := hr
  have hm : maxLen = 9223372036854775807 := rfl
  rcases ho with ⟨a, cap, h1, _⟩ | ⟨h1, _⟩
  · simp only [List.cons.injEq, Value.slice.injEq, and_true] at h1
    rcases DataW.trod_slice ht hd with ⟨h2, _⟩ | ⟨a', len, cap', elems, rest, n', _, h2, _, _, hlen, hcap, _⟩
    · change [Value.slice a0 n0 c0] = _ at h2
      simp only [List.cons.injEq, Value.slice.injEq, and_true] at h2
      omega
    · change [Value.slice a0 n0 c0] = _ at h2
      simp only [List.cons.injEq, Value.slice.injEq, and_true] at h2
      omega
  · omega
end
end Go.Ax

namespace Go.Proofs.Ytgkhngcnbddoiaa
open Go.Ax
open Go.ChangeShapes Go.WideShapes Go.ChangeAt Go.RowKit
theorem ops_o {l : List OpV} (h : ∀ o ∈ l, OpB o) (i : Nat) : OpB (l.getD i op0) := by
  rw [List.getD_eq_getElem?_getD]
  cases hi : l[i]? with
  | none => exact ⟨by decide, by decide⟩
  | some x => exact h x (List.mem_of_getElem? hi)
theorem cel5 : Try.prog.cellsOf 5 = 1 := by kernel_rfl
theorem hdT : HdT Try.prog 36 := ⟨31, 3, 33, 34, 5, _, _, _, _, _, _, _, _, _, _, Try.underlying36, ⟨rfl, rfl⟩, ⟨rfl, rfl⟩, ⟨rfl, rfl⟩, ⟨rfl, rfl⟩, ⟨rfl, rfl⟩, ⟨rfl, rfl⟩, ⟨rfl, rfl⟩, Try.underlying33, ⟨rfl, rfl⟩, ⟨rfl, rfl⟩, ⟨rfl, rfl⟩, Try.underlying31, by kernel_rfl, Try.underlying3, by kernel_rfl, by kernel_rfl, Try.underlying34, by kernel_rfl, Try.underlying5, by kernel_rfl, by kernel_rfl⟩
set_option maxRecDepth 100000 in
theorem modelDoes_any (H : Type) (enc : TypeId × Value → H) (W : World) (base : Nat) (args : Array Value) (ds gs : List (DataW H)) (before : List MemPlace)
    (hval : ∀ (j : Nat) t v, Try.f4.params[j]? = some t → args[j]? = some v → Value.okWide Try.prog W .any base t v)
    (hW : DataW.Whole enc Try.prog Try.f4.params.toList Rows.modelDoesSpec.vars false W args.toList ds gs before) :
    Calls Try.prog 4 args W fun e W' => ∃ v, e = .returned v ∧ Rows.modelDoesSpec.post enc Try.prog Try.f4 false true false false W args v W' := by
  have hW' := hW
  obtain ⟨p, q, hA0, hV, rfl, hfz, hnd⟩ := hW
  have hA : DataW.TrodAll enc Try.prog W 0 (fun _ => true) true Try.f4.params.toList args.toList ds p := hA0
  rw [Try.params4] at hA hval
  obtain ⟨v0, vs0, d0, ds0, p0, q0, hv0, rfl, rfl, h0, r0⟩ := trodAll_cons hA
  obtain ⟨v1, vs1, d1, ds1, p1, q1, hv1, rfl, rfl, h1, r1⟩ := trodAll_cons r0
  obtain ⟨v2, vs2, d2, ds2, p2, q2, hv2, rfl, rfl, h2, r2⟩ := trodAll_cons r1
  obtain ⟨hvn, rfl, rfl⟩ := trodAll_nil r2
  obtain rfl : args = #[v0, v1, v2] := by
    apply Array.ext'
    rw [hv0, hv1, hv2, hvn]
  obtain ⟨rfl, rfl⟩ := trodVars_none hV
  have hX : ∀ r, ¬ XOf (fun _ => False) ([] : List (Option Nat)) [] r := by rintro r (h | ⟨b, hb, _⟩) <;> simp_all
  obtain ⟨hd0, hd1, hd2, hd3, hd4, hd5, hd6, hd7, hd8, e0, u0⟩ := open_hd (X := XOf (fun _ => False) [] []) hdT (hval 0 36 v0 rfl rfl) h0
  obtain ⟨ps, e1, b1, w1⟩ := open_ints' (X := XOf (fun _ => False) [] []) Try.underlying23 Try.underlying5 cel5 hX (hval 1 23 v1 rfl rfl) h1
  obtain ⟨l, e2, u2⟩ := open_ops (X := XOf (fun _ => False) [] []) Try.underlying22 opT hX (hval 2 22 v2 rfl rfl) h2
  refine law_post (P := Try.prog) (L := [3, 4, 5, 22, 23, 24, 26, 31, 33, 34, 36, 142]) (by kernel_rfl) (by rw [Try.params4]; decide) rfl Try.underlying4 rfl rfl hW' (avs := _) ?_ (does_law ⟨hd0, hd1, hd2, hd3, hd4, hd5, hd6, hd7, hd8⟩ ps l u0.1 u0.2 (ops_o u2) (by simpa using roL_le Try.underlying22 (hval 2 22 v2 rfl rfl) h2 e2))
  exact relVs_mk e0 (relVs_mk e1 (relVs_mk e2 (relVs_mk0)))
set_option maxRecDepth 100000 in
theorem modelDoes_liftedAny (os : Os) (started : os.Started) (H : Type) (enc : TypeId × Value → H) :
    ReturnsInHanded {} Try.checked os 4 .any (Rows.modelDoesSpec.pre6 enc Try.prog Try.f4 Rows.modelDoesRow.domain false) (Rows.modelDoesSpec.post enc Try.prog Try.f4 false true false false) := by
  refine returnsInHanded_of_change (C := Try.checked) own_none started (by kernel_rfl) Try.func4
    (ChangeSpec.witness6 (enc := enc) (C := Try.checked) false ⟨#[], #[.agg ((#[.int .u64 0] : Array Value) ++ Array.replicate 7 (.int .i64 0) ++ Array.replicate 16 (.int .u8 0)), .slice none 0 0, .slice none 0 0], []⟩ 8 (by kernel_rfl) (by kernel_rfl) (by kernel_rfl) (by kernel_rfl)) ?_
  intro W base args ds gs before hval hW _ _
  exact modelDoes_any H enc W base args ds gs before hval hW
theorem modelDoes_any_proved : Rows.ModelDoesSaid :=
  OpenClaim.holds_of_wide 4 Try.f4 rfl rfl rfl rfl rfl rfl rfl ⟨rfl, rfl, rfl, rfl, rfl⟩ rfl rfl rfl rfl rfl (by kernel_rfl) Try.func4 (by kernel_rfl)
    (of_decide_eq_true (by kernel_rfl)) (by unfold Func.isWrapper; first | (rw [if_pos (by decide +kernel)]; kernel_rfl) | (rw [if_neg (by decide +kernel)]; exact ⟨rfl, rfl⟩))
    (fun os started H enc _ => modelDoes_liftedAny os started H enc)
end Go.Proofs.Ytgkhngcnbddoiaa
