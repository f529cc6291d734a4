/-
  The law 'NetworkBlames' holds for every input.
  Conditions: none.
-/
import Derived.Test.YtklddmmnggcffaaRows
import Derived.Test.YtklddmmnggcffaaZ3
import Derived.Test.YtklddmmnggcffaaZ7
set_option linter.all false
namespace Go.Proofs.Ytklddmmnggcffaa.networkBlames
open Go Go.Abs Go.PE Go.RowKit Go.ChangeShapes Go.WideShapes Go.ChangeAt Go.Proofs
set_option maxRecDepth 100000
set_option linter.unusedVariables false
set_option maxRecDepth 100000 in
theorem lifted (os : Os) (started : os.Started) (H : Type) (enc : TypeId × Value → H) :
    ReturnsInHanded {} Try.checked os 7 .any (Rows.networkBlamesSpec.pre6 enc Try.prog Try.f7 Rows.networkBlamesRow.domain false) (Rows.networkBlamesSpec.post enc Try.prog Try.f7 false true false false) := by
  refine returnsInHanded_of_change (C := Try.checked) own started (by kernel_rfl) Try.func7
    (ChangeSpec.witness6 (enc := enc) (C := Try.checked) false ⟨#[], #[.agg #[.slice none 0 0, .slice none 0 0, .slice none 0 0, .slice none 0 0, .int .i64 0, .int .i64 0, .int .i64 0], .slice none 0 0], []⟩ 8 (by kernel_rfl) (by kernel_rfl) (by kernel_rfl) (by kernel_rfl)) ?_
  intro W base args ds gs before hval hW hcnd _
  exact law_contract laidOut c7 rfl tys7 rfl Try.underlying4 rfl (fun H ds h => by
    match ds, h with
    | [d0, d1], _ => exact ⟨rfl, rfl, rfl⟩) law7 hval hW
theorem over : Rows.networkBlamesRow.holds Try.pinned (OpenSpec.ofChange Rows.networkBlamesSpec) :=
  OpenClaim.holds_of_wide 7 Try.f7 rfl rfl rfl rfl rfl rfl rfl ⟨rfl, rfl, rfl, rfl, rfl⟩ rfl rfl rfl rfl rfl (by kernel_rfl) Try.func7 (by kernel_rfl)
    (of_decide_eq_true (by kernel_rfl)) (by unfold Func.isWrapper; first | (rw [if_pos (by decide +kernel)]; kernel_rfl) | (rw [if_neg (by decide +kernel)]; exact ⟨rfl, rfl⟩))
    (fun os started H enc _ => lifted os started H enc)
theorem proved : Rows.NetworkBlamesSaid := over
#print axioms proved
end Go.Proofs.Ytklddmmnggcffaa.networkBlames
