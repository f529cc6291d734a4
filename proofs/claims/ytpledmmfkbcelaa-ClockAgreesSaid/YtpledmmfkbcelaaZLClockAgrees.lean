/-
  The law 'ClockAgrees' holds for every input.
  Conditions: none.
-/
import Derived.Test.YtpledmmfkbcelaaRows
import Derived.Test.YtpledmmfkbcelaaZ3
import Derived.Test.YtpledmmfkbcelaaZ5
set_option linter.all false
namespace Go.Proofs.Ytpledmmfkbcelaa.clockAgrees
open Go Go.Abs Go.PE Go.RowKit Go.ChangeShapes Go.WideShapes Go.ChangeAt Go.Proofs
set_option linter.unusedVariables false
set_option maxRecDepth 100000 in
theorem lifted (os : Os) (started : os.Started) (H : Type) (enc : TypeId × Value → H) :
    ReturnsInHanded {} Try.checked os 8 .any (Rows.clockAgreesSpec.pre6 enc Try.prog Try.f8 Rows.clockAgreesRow.domain false) (Rows.clockAgreesSpec.post enc Try.prog Try.f8 false true false false) := by
  refine returnsInHanded_of_change (C := Try.checked) own started (by kernel_rfl) Try.func8
    (ChangeSpec.witness6 (enc := enc) (C := Try.checked) false ⟨#[], #[.slice none 0 0, .int .i64 0], []⟩ 8 (by kernel_rfl) (by kernel_rfl) (by kernel_rfl) (by kernel_rfl)) ?_
  intro W base args ds gs before hval hW hcnd _
  exact law_contract laidOut c8 rfl tys8 rfl Try.underlying4 rfl (fun H ds h => by
    match ds, h with
    | [d0, d1], _ => exact ⟨rfl, rfl, rfl⟩) law8 hval hW
theorem over : Rows.clockAgreesRow.holds Try.pinned (OpenSpec.ofChange Rows.clockAgreesSpec) :=
  OpenClaim.holds_of_wide 8 Try.f8 rfl rfl rfl rfl rfl rfl rfl ⟨rfl, rfl, rfl, rfl, rfl⟩ rfl rfl rfl rfl rfl (by kernel_rfl) Try.func8 (by kernel_rfl)
    (of_decide_eq_true (by kernel_rfl)) (by unfold Func.isWrapper; first | (rw [if_pos (by decide +kernel)]; kernel_rfl) | (rw [if_neg (by decide +kernel)]; exact ⟨rfl, rfl⟩))
    (fun os started H enc _ => lifted os started H enc)
theorem proved : Rows.ClockAgreesSaid := over
#print axioms proved
end Go.Proofs.Ytpledmmfkbcelaa.clockAgrees
