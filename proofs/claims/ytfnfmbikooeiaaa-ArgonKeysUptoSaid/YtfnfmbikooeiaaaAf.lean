/- Part of the proof. -/
import Derived.Test.YtfnfmbikooeiaaaAe
import Derived.Test.YtfnfmbikooeiaaaRows
import Derived.WalkKit
import Derived.ProofKit
set_option linter.unusedSimpArgs false
set_option linter.unusedVariables false
set_option maxHeartbeats 4000000
set_option maxRecDepth 100000
namespace Go.Proofs.Ytfnfmbikooeiaaa
open Go.Ax
open Go.ChangeShapes Go.WideShapes Go.ChangeAt Go.RowKit
theorem own_none : ownKnob Try.prog.godebug = none := by kernel_rfl
namespace bulks
theorem length_le {H : Type} (l : List (DataW H)) : l.length ≤ Rows.uptoBulkAll l := by
  induction l with
  | nil => simp [Rows.uptoBulkAll]
  | cons x r ih =>
    have : 1 ≤ Rows.uptoBulk x := by
      cases x with
      | lit l => cases l <;> simp [Rows.uptoBulk]
      | _ => simp [Rows.uptoBulk]
    simp only [Rows.uptoBulkAll, List.length_cons]; omega
theorem bound {H : Type} {l : List (DataW H)} (hk : Rows.uptoSmall H l = true) : Rows.uptoBulkAll l ≤ 1048576 := of_decide_eq_true hk
theorem ints_len {H : Type} {k : IntKind} {l : List Int} {d : DataW H} (h : (l = [] ∧ d = .nil) ∨ ∃ sp, d = .slice (lits k l) sp) : l.length ≤ Rows.uptoBulk d := by
  rcases h with ⟨rfl, rfl⟩ | ⟨sp, rfl⟩
  · simp
  · have := length_le (lits (H := H) k l)
    have h2 : (lits (H := H) k l).length = l.length := by simp [lits]
    simp only [Rows.uptoBulk]; omega
end bulks
theorem relVs_mk0 {X : Nat → Prop} {w : World} {ρ : List (Option Nat)} : relVs X w ρ [] [] := by simp only [relVs]
theorem relVs_mk {X : Nat → Prop} {w : World} {ρ : List (Option Nat)} {x : AV} {xs : List AV} {v : Value} {vs : List Value} (h : AV.relV X w ρ x v) (hs : relVs X w ρ xs vs) : relVs X w ρ (x :: xs) (v :: vs) := by
  simp only [relVs]; exact ⟨v, vs, rfl, h, hs⟩
theorem cel5 : Try.prog.cellsOf 5 = 1 := by kernel_rfl
theorem cel29 : Try.prog.cellsOf 29 = 1 := by kernel_rfl
theorem cel30 : Try.prog.cellsOf 30 = 8 := by kernel_rfl
theorem cel31 : Try.prog.cellsOf 31 = 128 := by kernel_rfl

end Go.Proofs.Ytfnfmbikooeiaaa

namespace Go.Proofs.Ytfnfmbikooeiaaa
open Go.Ax
open Go.ChangeShapes Go.WideShapes Go.ChangeAt Go.RowKit
theorem cel66 : Try.prog.cellsOf 66 = 3 := by kernel_rfl
theorem cel68 : Try.prog.cellsOf 68 = 4 := by kernel_rfl
theorem cel3 : Try.prog.cellsOf 3 = 1 := by kernel_rfl
theorem cel22 : Try.prog.cellsOf 22 = 1 := by kernel_rfl

end Go.Proofs.Ytfnfmbikooeiaaa
