/- The law BlakeWrites answers true for every size, key and list of parts of a message, of inputs up to the bound of the second form. -/
import Derived.Test.YtfnfmbikooeiaaaXg
import Derived.Test.YtfnfmbikooeiaaaRows
import Derived.WalkKit
import Derived.ProofKit
set_option linter.unusedSimpArgs false
set_option linter.unusedVariables false
namespace Go.Proofs.Ytfnfmbikooeiaaa
open Go.Ax
open Go.ChangeShapes Go.WideShapes Go.ChangeAt Go.RowKit
set_option linter.unusedVariables false
theorem bulks.rows_len {H : Type} {k : IntKind} {ls : List (List Int)} {ds : List (DataW H)} (h : Each2 (ShapeI k) ls ds) : ls.flatten.length + ls.length ≤ 2 * Rows.uptoBulkAll ds ∧ ls.flatten.length ≤ Rows.uptoBulkAll ds ∧ ls.length ≤ Rows.uptoBulkAll ds := by
  induction h with
  | nil => simp
  | @cons l d ls0 ds0 h _ ih =>
    have h1 := bulks.ints_len h
    have h2 : 1 ≤ Rows.uptoBulk d := by
      rcases h with ⟨_, rfl⟩ | ⟨_, rfl⟩ <;> simp [Rows.uptoBulk]
    simp only [Rows.uptoBulkAll, List.flatten_cons, List.length_append, List.length_cons]
    omega
theorem bulks.rows_all {H : Type} {k : IntKind} {ls : List (List Int)} {d : DataW H} (h : (ls = [] ∧ d = .nil) ∨ ∃ ds sp, d = .slice ds sp ∧ Each2 (ShapeI k) ls ds) : ls.flatten.length ≤ Rows.uptoBulk d ∧ ls.length ≤ Rows.uptoBulk d := by
  rcases h with ⟨rfl, rfl⟩ | ⟨ds, sp, rfl, h⟩
  · simp
  · have := bulks.rows_len h
    simp only [Rows.uptoBulk]; omega
theorem cel22 : Try.prog.cellsOf 22 = 1 := by kernel_rfl
set_option maxRecDepth 100000 in
/-- BlakeWrites: what the walk gives -/
theorem blakeWrites_contract (H : Type) (enc : TypeId × Value → H) (W : World) (base : Nat) (args : Array Value) (ds gs : List (DataW H)) (before : List MemPlace)
    (hval : ∀ (j : Nat) t v, Try.f7.params[j]? = some t → args[j]? = some v → Value.okWide Try.prog W .any base t v)
    (hW : DataW.Whole enc Try.prog Try.f7.params.toList Rows.blakeWritesSpec.vars false W args.toList ds gs before) (hk : Rows.uptoSmall H (ds ++ gs) = true) :
    Calls Try.prog 7 args W fun e W' => ∃ v, e = .returned v ∧ Rows.blakeWritesSpec.post enc Try.prog Try.f7 false true false false W args v W' := by
  have hW' := hW
  obtain ⟨p, q, hA0, hV, rfl, hfz, hnd⟩ := hW
  have hA : DataW.TrodAll enc Try.prog W 0 (fun _ => true) true Try.f7.params.toList args.toList ds p := hA0
  rw [Try.params7] at hA hval
  obtain ⟨v0, vs0, d0, ds0, p0, q0, hv0, rfl, rfl, h0, r0⟩ := trodAll_cons hA
  obtain ⟨v1, vs1, d1, ds1, p1, q1, hv1, rfl, rfl, h1, r1⟩ := trodAll_cons r0
  obtain ⟨v2, vs2, d2, ds2, p2, q2, hv2, rfl, rfl, h2, r2⟩ := trodAll_cons r1
  obtain ⟨hvn, rfl, rfl⟩ := trodAll_nil r2
  obtain rfl : args = #[v0, v1, v2] := by
    apply Array.ext'
    rw [hv0, hv1, hv2, hvn]
  obtain ⟨rfl, rfl⟩ := trodVars_none hV
  have hX : ∀ r, ¬ XOf (fun _ => False) ([] : List (Option Nat)) [] r := by rintro r (h | ⟨b, hb, _⟩) <;> simp_all
  obtain ⟨n, rfl, rfl, rfl, w0⟩ := open_int Try.underlying3 (hval 0 3 v0 rfl rfl) h0
  obtain ⟨key, e1, b1, w1⟩ := open_ints' (X := XOf (fun _ => False) [] []) Try.underlying22 Try.underlying5 cel5 hX (hval 1 22 v1 rfl rfl) h1
  obtain ⟨l, e2, b2⟩ := open_rows (X := XOf (fun _ => False) [] []) Try.underlying37 Try.underlying22 Try.underlying5 cel5 cel22 hX (hval 2 37 v2 rfl rfl) h2
  have hbulk := bulks.bound hk
  simp only [List.append_nil, Rows.uptoBulkAll] at hbulk
  have l1 := bulks.ints_len b1
  have l2 := bulks.rows_all b2
  refine law_post (P := Try.prog) (L := [3, 4, 5, 22, 29, 30, 31, 37]) (by kernel_rfl) (by rw [Try.params7]; decide) rfl Try.underlying4 rfl rfl hW' (avs := _) ?_ (law_writes_all n key l (by omega) (by omega))
  exact relVs_mk (v_rel rfl) (relVs_mk e1 (relVs_mk e2 (relVs_mk0)))
set_option maxRecDepth 100000 in
theorem blakeWrites_lifted (os : Os) (started : os.Started) (H : Type) (enc : TypeId × Value → H) (F : Stop.Interp) :
    ReturnsInHanded {} Try.checked os 7 .any ((Rows.OpenSpec.upto Rows.blakeWritesSpec).pre6 enc Try.prog Try.f7 Rows.blakeWritesUptoRow.domain false) (((Rows.OpenSpec.upto Rows.blakeWritesSpec).at F).post enc Try.prog Try.f7 false true false false) := by
  refine returnsInHanded_of_cond (C := Try.checked) (s := Rows.OpenSpec.upto Rows.blakeWritesSpec) (k := Rows.uptoSmall) rfl own_none started (by kernel_rfl) Try.func7
    (OpenSpec.witness (enc := enc) (C := Try.checked) (s := Rows.OpenSpec.upto Rows.blakeWritesSpec) (k := Rows.uptoSmall) rfl false ⟨#[], #[.int .i64 0, .slice none 0 0, .slice none 0 0], []⟩ 8 (by kernel_rfl) (by kernel_rfl) (by kernel_rfl)
      (x := ([.lit (.int .i64 0), .nil, .nil], [], [])) (by kernel_rfl) rfl (by kernel_rfl)) ?_
  intro W base args ds gs before hval hW _ hk _
  exact blakeWrites_contract H enc W base args ds gs before hval hW hk
theorem blakeWrites_over : Rows.blakeWritesUptoRow.holds Try.pinned (Rows.OpenSpec.upto Rows.blakeWritesSpec) :=
  OpenClaim.holds_of_cond 7 Try.f7 rfl rfl rfl rfl rfl rfl rfl ⟨rfl, rfl, rfl, rfl, rfl⟩ rfl rfl rfl rfl rfl (by kernel_rfl) Try.func7 (by kernel_rfl)
    (of_decide_eq_true (by kernel_rfl)) (by unfold Func.isWrapper; first | (rw [if_pos (by decide +kernel)]; kernel_rfl) | (rw [if_neg (by decide +kernel)]; exact ⟨rfl, rfl⟩))
    (fun os started H enc _ F => blakeWrites_lifted os started H enc F)
theorem blakeWrites_proved : Rows.BlakeWritesUptoSaid := blakeWrites_over
end Go.Proofs.Ytfnfmbikooeiaaa
