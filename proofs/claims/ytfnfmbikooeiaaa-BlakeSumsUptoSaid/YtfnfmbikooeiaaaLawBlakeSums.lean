/- The law BlakeSums answers true for every size, key and two parts of a message, of inputs up to the bound of the second form. -/
import Derived.Test.YtfnfmbikooeiaaaXf
import Derived.Test.YtfnfmbikooeiaaaRows
import Derived.WalkKit
import Derived.ProofKit
set_option linter.unusedSimpArgs false
set_option linter.unusedVariables false
namespace Go.Proofs.Ytfnfmbikooeiaaa
open Go.Ax
open Go.ChangeShapes Go.WideShapes Go.ChangeAt Go.RowKit
set_option linter.unusedVariables false
set_option maxRecDepth 100000 in
/-- BlakeSums: what the walk gives -/
theorem blakeSums_contract (H : Type) (enc : TypeId × Value → H) (W : World) (base : Nat) (args : Array Value) (ds gs : List (DataW H)) (before : List MemPlace)
    (hval : ∀ (j : Nat) t v, Try.f3.params[j]? = some t → args[j]? = some v → Value.okWide Try.prog W .any base t v)
    (hW : DataW.Whole enc Try.prog Try.f3.params.toList Rows.blakeSumsSpec.vars false W args.toList ds gs before) (hk : Rows.uptoSmall H (ds ++ gs) = true) :
    Calls Try.prog 3 args W fun e W' => ∃ v, e = .returned v ∧ Rows.blakeSumsSpec.post enc Try.prog Try.f3 false true false false W args v W' := by
  have hW' := hW
  obtain ⟨p, q, hA0, hV, rfl, hfz, hnd⟩ := hW
  have hA : DataW.TrodAll enc Try.prog W 0 (fun _ => true) true Try.f3.params.toList args.toList ds p := hA0
  rw [Try.params3] at hA hval
  obtain ⟨v0, vs0, d0, ds0, p0, q0, hv0, rfl, rfl, h0, r0⟩ := trodAll_cons hA
  obtain ⟨v1, vs1, d1, ds1, p1, q1, hv1, rfl, rfl, h1, r1⟩ := trodAll_cons r0
  obtain ⟨v2, vs2, d2, ds2, p2, q2, hv2, rfl, rfl, h2, r2⟩ := trodAll_cons r1
  obtain ⟨v3, vs3, d3, ds3, p3, q3, hv3, rfl, rfl, h3, r3⟩ := trodAll_cons r2
  obtain ⟨hvn, rfl, rfl⟩ := trodAll_nil r3
  obtain rfl : args = #[v0, v1, v2, v3] := by
    apply Array.ext'
    rw [hv0, hv1, hv2, hv3, hvn]
  obtain ⟨rfl, rfl⟩ := trodVars_none hV
  have hX : ∀ r, ¬ XOf (fun _ => False) ([] : List (Option Nat)) [] r := by rintro r (h | ⟨b, hb, _⟩) <;> simp_all
  obtain ⟨n, rfl, rfl, rfl, w0⟩ := open_int Try.underlying3 (hval 0 3 v0 rfl rfl) h0
  obtain ⟨key, e1, b1, w1⟩ := open_ints' (X := XOf (fun _ => False) [] []) Try.underlying22 Try.underlying5 cel5 hX (hval 1 22 v1 rfl rfl) h1
  obtain ⟨a, e2, b2, w2⟩ := open_ints' (X := XOf (fun _ => False) [] []) Try.underlying22 Try.underlying5 cel5 hX (hval 2 22 v2 rfl rfl) h2
  obtain ⟨b, e3, b3, w3⟩ := open_ints' (X := XOf (fun _ => False) [] []) Try.underlying22 Try.underlying5 cel5 hX (hval 3 22 v3 rfl rfl) h3
  have hbulk := bulks.bound hk
  simp only [List.append_nil, Rows.uptoBulkAll] at hbulk
  have l1 := bulks.ints_len b1
  have l2 := bulks.ints_len b2
  have l3 := bulks.ints_len b3
  refine law_post (P := Try.prog) (L := [3, 4, 5, 22, 29, 30, 31, 37]) (by kernel_rfl) (by rw [Try.params3]; decide) rfl Try.underlying4 rfl rfl hW' (avs := _) ?_ (law_sums n key a b (by omega))
  exact relVs_mk (v_rel rfl) (relVs_mk e1 (relVs_mk e2 (relVs_mk e3 (relVs_mk0))))
set_option maxRecDepth 100000 in
theorem blakeSums_lifted (os : Os) (started : os.Started) (H : Type) (enc : TypeId × Value → H) (F : Stop.Interp) :
    ReturnsInHanded {} Try.checked os 3 .any ((Rows.OpenSpec.upto Rows.blakeSumsSpec).pre6 enc Try.prog Try.f3 Rows.blakeSumsUptoRow.domain false) (((Rows.OpenSpec.upto Rows.blakeSumsSpec).at F).post enc Try.prog Try.f3 false true false false) := by
  refine returnsInHanded_of_cond (C := Try.checked) (s := Rows.OpenSpec.upto Rows.blakeSumsSpec) (k := Rows.uptoSmall) rfl own_none started (by kernel_rfl) Try.func3
    (OpenSpec.witness (enc := enc) (C := Try.checked) (s := Rows.OpenSpec.upto Rows.blakeSumsSpec) (k := Rows.uptoSmall) rfl false ⟨#[], #[.int .i64 0, .slice none 0 0, .slice none 0 0, .slice none 0 0], []⟩ 8 (by kernel_rfl) (by kernel_rfl) (by kernel_rfl)
      (x := ([.lit (.int .i64 0), .nil, .nil, .nil], [], [])) (by kernel_rfl) rfl (by kernel_rfl)) ?_
  intro W base args ds gs before hval hW _ hk _
  exact blakeSums_contract H enc W base args ds gs before hval hW hk
theorem blakeSums_over : Rows.blakeSumsUptoRow.holds Try.pinned (Rows.OpenSpec.upto Rows.blakeSumsSpec) :=
  OpenClaim.holds_of_cond 3 Try.f3 rfl rfl rfl rfl rfl rfl rfl ⟨rfl, rfl, rfl, rfl, rfl⟩ rfl rfl rfl rfl rfl (by kernel_rfl) Try.func3 (by kernel_rfl)
    (of_decide_eq_true (by kernel_rfl)) (by unfold Func.isWrapper; first | (rw [if_pos (by decide +kernel)]; kernel_rfl) | (rw [if_neg (by decide +kernel)]; exact ⟨rfl, rfl⟩))
    (fun os started H enc _ F => blakeSums_lifted os started H enc F)
theorem blakeSums_proved : Rows.BlakeSumsUptoSaid := blakeSums_over
end Go.Proofs.Ytfnfmbikooeiaaa
