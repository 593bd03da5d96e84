/- The law casketlaw08.ArgonKeys returns true for every input of bulk at most 1048576. -/
import Derived.Test.YtfnfmbikooeiaaaAf
import Derived.Test.YtfnfmbikooeiaaaRows
import Derived.WalkKit
import Derived.ProofKit
set_option linter.unusedSimpArgs false
set_option linter.unusedVariables false
set_option maxHeartbeats 4000000
set_option maxRecDepth 100000
namespace Go.Proofs.Ytfnfmbikooeiaaa
open Go.Ax
open Go.ChangeShapes Go.WideShapes Go.ChangeAt Go.RowKit
set_option maxRecDepth 100000 in
theorem argonKeys_contract (H : Type) (enc : TypeId × Value → H) (W : World) (base : Nat) (args : Array Value) (ds gs : List (DataW H)) (before : List MemPlace)
    (hval : ∀ (j : Nat) t v, Try.f16.params[j]? = some t → args[j]? = some v → Value.okWide Try.prog W .any base t v)
    (hW : DataW.Whole enc Try.prog Try.f16.params.toList Rows.argonKeysSpec.vars false W args.toList ds gs before) (hk : Rows.uptoSmall H (ds ++ gs) = true) :
    Calls Try.prog 16 args W fun e W' => ∃ v, e = .returned v ∧ Rows.argonKeysSpec.post enc Try.prog Try.f16 false true false false W args v W' := by
  have hW' := hW
  obtain ⟨p, q, hA0, hV, rfl, hfz, hnd⟩ := hW
  have hA : DataW.TrodAll enc Try.prog W 0 (fun _ => true) true Try.f16.params.toList args.toList ds p := hA0
  rw [Try.params16] at hA hval
  obtain ⟨v0, vs0, d0, ds0, p0, q0, hv0, rfl, rfl, h0, r0⟩ := trodAll_cons hA
  obtain ⟨v1, vs1, d1, ds1, p1, q1, hv1, rfl, rfl, h1, r1⟩ := trodAll_cons r0
  obtain ⟨v2, vs2, d2, ds2, p2, q2, hv2, rfl, rfl, h2, r2⟩ := trodAll_cons r1
  obtain ⟨hvn, rfl, rfl⟩ := trodAll_nil r2
  obtain rfl : args = #[v0, v1, v2] := by
    apply Array.ext'
    rw [hv0, hv1, hv2, hvn]
  obtain ⟨rfl, rfl⟩ := trodVars_none hV
  have hX : ∀ r, ¬ XOf (fun _ => False) ([] : List (Option Nat)) [] r := by rintro r (h | ⟨b, hb, _⟩) <;> simp_all
  obtain ⟨n, rfl, rfl, rfl, w0⟩ := open_int Try.underlying3 (hval 0 3 v0 rfl rfl) h0
  obtain ⟨p0, p1, p2, e1, w1⟩ := open_prm (X := XOf (fun _ => False) [] []) Try.underlying66 ⟨rfl, rfl⟩ ⟨rfl, rfl⟩ ⟨rfl, rfl⟩ Try.underlying3 cel3 cel66 (hval 1 66 v1 rfl rfl) h1
  obtain ⟨s0, s1, s2, s3, c20, c21, c22, c23, e2, rfl, b20, b21, b22, b23⟩ := open_sec (X := XOf (fun _ => False) [] []) Try.underlying68 ⟨rfl, rfl⟩ ⟨rfl, rfl⟩ ⟨rfl, rfl⟩ ⟨rfl, rfl⟩ Try.underlying22 cel22 Try.underlying5 cel5 cel68 hX (hval 2 68 v2 rfl rfl) h2
  have hbulk := bulks.bound hk
  simp only [List.append_nil, Rows.uptoBulkAll, Rows.uptoBulk] at hbulk
  have l20 := bulks.ints_len b20
  have l21 := bulks.ints_len b21
  have l22 := bulks.ints_len b22
  have l23 := bulks.ints_len b23
  refine law_post (P := Try.prog) (L := [3, 4, 5, 22, 66, 68]) (by kernel_rfl) (by rw [Try.params16]; decide) rfl Try.underlying4 rfl rfl hW' (avs := _) ?_ (law_keys n p0 p1 p2 s0 s1 s2 s3 (by omega) (by omega) (by omega) (by omega))
  exact relVs_mk (v_rel rfl) (relVs_mk e1 (relVs_mk e2 (relVs_mk0)))
set_option maxRecDepth 100000 in
theorem argonKeys_lifted (os : Os) (started : os.Started) (H : Type) (enc : TypeId × Value → H) (F : Stop.Interp) :
    ReturnsInHanded {} Try.checked os 16 .any ((Rows.OpenSpec.upto Rows.argonKeysSpec).pre6 enc Try.prog Try.f16 Rows.argonKeysUptoRow.domain false) (((Rows.OpenSpec.upto Rows.argonKeysSpec).at F).post enc Try.prog Try.f16 false true false false) := by
  refine returnsInHanded_of_cond (C := Try.checked) (s := Rows.OpenSpec.upto Rows.argonKeysSpec) (k := Rows.uptoSmall) rfl own_none started (by kernel_rfl) Try.func16
    (OpenSpec.witness (enc := enc) (C := Try.checked) (s := Rows.OpenSpec.upto Rows.argonKeysSpec) (k := Rows.uptoSmall) rfl false ⟨#[], #[.int .i64 0, .agg (Array.replicate 3 (.int .i64 0)), .agg (Array.replicate 4 (.slice none 0 0))], []⟩ 8 (by kernel_rfl) (by kernel_rfl) (by kernel_rfl)
      (x := ([.lit (.int .i64 0), .agg (List.replicate 3 (.lit (.int .i64 0))), .agg (List.replicate 4 .nil)], [], [])) (by kernel_rfl) rfl (by kernel_rfl)) ?_
  intro W base args ds gs before hval hW _ hk _
  exact argonKeys_contract H enc W base args ds gs before hval hW hk
theorem argonKeys_over : Rows.argonKeysUptoRow.holds Try.pinned (Rows.OpenSpec.upto Rows.argonKeysSpec) :=
  OpenClaim.holds_of_cond 16 Try.f16 rfl rfl rfl rfl rfl rfl rfl ⟨rfl, rfl, rfl, rfl, rfl⟩ rfl rfl rfl rfl rfl (by kernel_rfl) Try.func16 (by kernel_rfl)
    (of_decide_eq_true (by kernel_rfl)) (by unfold Func.isWrapper; first | (rw [if_pos (by decide +kernel)]; kernel_rfl) | (rw [if_neg (by decide +kernel)]; exact ⟨rfl, rfl⟩))
    (fun os started H enc _ F => argonKeys_lifted os started H enc F)
theorem argonKeys_proved : Rows.ArgonKeysUptoSaid := argonKeys_over
end Go.Proofs.Ytfnfmbikooeiaaa
