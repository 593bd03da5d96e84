/- How many pages (casketlaw08), first form. -/
import Derived.Test.YtfnfmbikooeiaaaAf
import Derived.Test.YtfnfmbikooeiaaaRows
import Derived.WalkKit
import Derived.ProofKit
set_option linter.unusedSimpArgs false
set_option linter.unusedVariables false
set_option maxHeartbeats 4000000
set_option maxRecDepth 100000
namespace Go.Proofs.Ytfnfmbikooeiaaa
open Go.Ax
open Go.ChangeShapes Go.WideShapes Go.ChangeAt Go.RowKit
set_option maxRecDepth 100000 in
theorem zno (H : Type) (enc : TypeId × Value → H) (W : World) (base : Nat) (args : Array Value) (ds gs : List (DataW H)) (before : List MemPlace)
    (hval : ∀ (j : Nat) t v, Try.f19.params[j]? = some t → args[j]? = some v → Value.okWide Try.prog W .any base t v)
    (hW : DataW.Whole enc Try.prog Try.f19.params.toList Rows.argonCountsSpec.vars false W args.toList ds gs before) :
    Calls Try.prog 19 args W fun e W' => ∃ v, e = .returned v ∧ Rows.argonCountsSpec.post enc Try.prog Try.f19 false true false false W args v W' := by
  have hW' := hW
  obtain ⟨p, q, hA0, hV, rfl, hfz, hnd⟩ := hW
  have hA : DataW.TrodAll enc Try.prog W 0 (fun _ => true) true Try.f19.params.toList args.toList ds p := hA0
  rw [Try.params19] at hA hval
  obtain ⟨v0, vs0, d0, ds0, p0, q0, hv0, rfl, rfl, h0, r0⟩ := trodAll_cons hA
  obtain ⟨v1, vs1, d1, ds1, p1, q1, hv1, rfl, rfl, h1, r1⟩ := trodAll_cons r0
  obtain ⟨v2, vs2, d2, ds2, p2, q2, hv2, rfl, rfl, h2, r2⟩ := trodAll_cons r1
  obtain ⟨hvn, rfl, rfl⟩ := trodAll_nil r2
  obtain rfl : args = #[v0, v1, v2] := by
    apply Array.ext'
    rw [hv0, hv1, hv2, hvn]
  obtain ⟨rfl, rfl⟩ := trodVars_none hV
  have hX : ∀ r, ¬ XOf (fun _ => False) ([] : List (Option Nat)) [] r := by rintro r (h | ⟨b, hb, _⟩) <;> simp_all
  obtain ⟨n, rfl, rfl, rfl, w0⟩ := open_int Try.underlying3 (hval 0 3 v0 rfl rfl) h0
  obtain ⟨p0, p1, p2, e1, w1⟩ := zv0 (X := XOf (fun _ => False) [] []) Try.underlying66 ⟨rfl, rfl⟩ ⟨rfl, rfl⟩ ⟨rfl, rfl⟩ Try.underlying3 cel3 ybj (hval 1 66 v1 rfl rfl) h1
  obtain ⟨s0, s1, s2, s3, c20, c21, c22, c23, e2, rfl, b20, b21, b22, b23⟩ := zps (X := XOf (fun _ => False) [] []) Try.underlying68 ⟨rfl, rfl⟩ ⟨rfl, rfl⟩ ⟨rfl, rfl⟩ ⟨rfl, rfl⟩ Try.underlying22 z68 Try.underlying5 cel5 z67 hX (hval 2 68 v2 rfl rfl) h2
  refine zp2 (P := Try.prog) (L := [3, 4, 5, 22, 66, 68]) (by kernel_rfl) (by rw [Try.params19]; decide) rfl Try.underlying4 rfl rfl hW' (avs := _) ?_ (zys n p0 p1 p2 s0 s1 s2 s3)
  exact zdj (J7 rfl) (zdj e1 (zdj e2 (zl9)))
set_option maxRecDepth 100000 in
theorem zg6 (os : Os) (started : os.Started) (H : Type) (enc : TypeId × Value → H) :
    ReturnsInHanded {} Try.checked os 19 .any (Rows.argonCountsSpec.pre6 enc Try.prog Try.f19 Rows.argonCountsRow.domain false) (Rows.argonCountsSpec.post enc Try.prog Try.f19 false true false false) := by
  refine returnsInHanded_of_change (C := Try.checked) zpp started (by kernel_rfl) Try.func19
    (ChangeSpec.witness6 (enc := enc) (C := Try.checked) false ⟨#[], #[.int .i64 0, .agg (Array.replicate 3 (.int .i64 0)), .agg (Array.replicate 4 (.slice none 0 0))], []⟩ 8 (by kernel_rfl) (by kernel_rfl) (by kernel_rfl) (by kernel_rfl)) ?_
  intro W base args ds gs before hval hW _ _
  exact zno H enc W base args ds gs before hval hW
theorem argonCounts_any_proved : Rows.ArgonCountsSaid :=
  OpenClaim.holds_of_wide 19 Try.f19 rfl rfl rfl rfl rfl rfl rfl ⟨rfl, rfl, rfl, rfl, rfl⟩ rfl rfl rfl rfl rfl (by kernel_rfl) Try.func19 (by kernel_rfl)
    (of_decide_eq_true (by kernel_rfl)) (by unfold Func.isWrapper; first | (rw [if_pos (by decide +kernel)]; kernel_rfl) | (rw [if_neg (by decide +kernel)]; exact ⟨rfl, rfl⟩))
    (fun os started H enc _ => zg6 os started H enc)
end Go.Proofs.Ytfnfmbikooeiaaa
