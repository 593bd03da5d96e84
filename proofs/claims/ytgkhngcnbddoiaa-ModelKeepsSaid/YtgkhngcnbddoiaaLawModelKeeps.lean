/- The law ModelKeeps answers true for every list of operations and every last operation. -/
import Derived.Test.YtgkhngcnbddoiaaAd
import Derived.Test.YtgkhngcnbddoiaaRows
import Derived.WalkKit
import Derived.ProofKit
set_option linter.unusedSimpArgs false
set_option linter.unusedVariables false
set_option maxHeartbeats 4000000
set_option maxRecDepth 100000
namespace Go.Proofs.Ytgkhngcnbddoiaa
open Go.Ax
open Go.ChangeShapes Go.WideShapes Go.ChangeAt Go.RowKit
theorem ops_b {l : List OpV} (h : ∀ o ∈ l, OpB o) (i : Nat) : (l.getD i op0).b.length ≤ 9223372036854775807 := by
  rw [List.getD_eq_getElem?_getD]
  cases hi : l[i]? with
  | none => decide
  | some x => exact (h x (List.mem_of_getElem? hi)).1
set_option maxRecDepth 100000 in
theorem modelKeeps_any (H : Type) (enc : TypeId × Value → H) (W : World) (base : Nat) (args : Array Value) (ds gs : List (DataW H)) (before : List MemPlace)
    (hval : ∀ (j : Nat) t v, Try.f3.params[j]? = some t → args[j]? = some v → Value.okWide Try.prog W .any base t v)
    (hW : DataW.Whole enc Try.prog Try.f3.params.toList Rows.modelKeepsSpec.vars false W args.toList ds gs before) :
    Calls Try.prog 3 args W fun e W' => ∃ v, e = .returned v ∧ Rows.modelKeepsSpec.post enc Try.prog Try.f3 false true false false W args v W' := by
  have hW' := hW
  obtain ⟨p, q, hA0, hV, rfl, hfz, hnd⟩ := hW
  have hA : DataW.TrodAll enc Try.prog W 0 (fun _ => true) true Try.f3.params.toList args.toList ds p := hA0
  rw [Try.params3] at hA hval
  obtain ⟨v0, vs0, d0, ds0, p0, q0, hv0, rfl, rfl, h0, r0⟩ := trodAll_cons hA
  obtain ⟨v1, vs1, d1, ds1, p1, q1, hv1, rfl, rfl, h1, r1⟩ := trodAll_cons r0
  obtain ⟨hvn, rfl, rfl⟩ := trodAll_nil r1
  obtain rfl : args = #[v0, v1] := by
    apply Array.ext'
    rw [hv0, hv1, hvn]
  obtain ⟨rfl, rfl⟩ := trodVars_none hV
  have hX : ∀ r, ¬ XOf (fun _ => False) ([] : List (Option Nat)) [] r := by rintro r (h | ⟨b, hb, _⟩) <;> simp_all
  obtain ⟨l, e0, u0⟩ := open_ops (X := XOf (fun _ => False) [] []) Try.underlying22 opT hX (hval 0 22 v0 rfl rfl) h0
  obtain ⟨bad, e1, u1⟩ := open_op (X := XOf (fun _ => False) [] []) opT hX (hval 1 26 v1 rfl rfl) h1
  refine law_post (P := Try.prog) (L := [3, 4, 5, 22, 23, 24, 26, 31, 33, 34, 36, 142]) (by kernel_rfl) (by rw [Try.params3]; decide) rfl Try.underlying4 rfl rfl hW' (avs := _) ?_ (keeps_law l bad (ops_b u0) u1.1)
  exact relVs_mk e0 (relVs_mk e1 (relVs_mk0))
set_option maxRecDepth 100000 in
theorem modelKeeps_liftedAny (os : Os) (started : os.Started) (H : Type) (enc : TypeId × Value → H) :
    ReturnsInHanded {} Try.checked os 3 .any (Rows.modelKeepsSpec.pre6 enc Try.prog Try.f3 Rows.modelKeepsRow.domain false) (Rows.modelKeepsSpec.post enc Try.prog Try.f3 false true false false) := by
  refine returnsInHanded_of_change (C := Try.checked) own_none started (by kernel_rfl) Try.func3
    (ChangeSpec.witness6 (enc := enc) (C := Try.checked) false ⟨#[], #[.slice none 0 0, .agg #[.int .i64 0, .int .i64 0, .slice none 0 0, .slice none 0 0, .slice none 0 0]], []⟩ 8 (by kernel_rfl) (by kernel_rfl) (by kernel_rfl) (by kernel_rfl)) ?_
  intro W base args ds gs before hval hW _ _
  exact modelKeeps_any H enc W base args ds gs before hval hW
theorem modelKeeps_any_proved : Rows.ModelKeepsSaid :=
  OpenClaim.holds_of_wide 3 Try.f3 rfl rfl rfl rfl rfl rfl rfl ⟨rfl, rfl, rfl, rfl, rfl⟩ rfl rfl rfl rfl rfl (by kernel_rfl) Try.func3 (by kernel_rfl)
    (of_decide_eq_true (by kernel_rfl)) (by unfold Func.isWrapper; first | (rw [if_pos (by decide +kernel)]; kernel_rfl) | (rw [if_neg (by decide +kernel)]; exact ⟨rfl, rfl⟩))
    (fun os started H enc _ => modelKeeps_liftedAny os started H enc)
end Go.Proofs.Ytgkhngcnbddoiaa
