/-
  The law 'NetworkMoves' holds for every input.
  Conditions: none.
-/
import Derived.Test.YtklddmmnggcffaaRows
import Derived.Test.YtklddmmnggcffaaZ3
import Derived.Test.YtklddmmnggcffaaZ7
set_option linter.all false
namespace Go.Proofs.Ytklddmmnggcffaa.networkMoves
open Go Go.Abs Go.PE Go.RowKit Go.ChangeShapes Go.WideShapes Go.ChangeAt Go.Proofs
set_option maxRecDepth 100000
set_option linter.unusedVariables false
set_option maxRecDepth 100000 in
theorem lifted (os : Os) (started : os.Started) (H : Type) (enc : TypeId × Value → H) :
    ReturnsInHanded {} Try.checked os 5 .any (Rows.networkMovesSpec.pre6 enc Try.prog Try.f5 Rows.networkMovesRow.domain false) (Rows.networkMovesSpec.post enc Try.prog Try.f5 false true false false) := by
  refine returnsInHanded_of_change (C := Try.checked) own started (by kernel_rfl) Try.func5
    (ChangeSpec.witness6 (enc := enc) (C := Try.checked) false ⟨#[], #[.agg #[.slice none 0 0, .slice none 0 0, .slice none 0 0, .slice none 0 0, .int .i64 0, .int .i64 0, .int .i64 0], .int .i64 0, .int .i64 0, .int .i64 0, .int .i64 0, .int .i64 0], []⟩ 8 (by kernel_rfl) (by kernel_rfl) (by kernel_rfl) (by kernel_rfl)) ?_
  intro W base args ds gs before hval hW hcnd _
  exact law_contract laidOut c5 rfl tys5 rfl Try.underlying4 rfl (fun H ds h => by
    match ds, h with
    | [d0, d1, d2, d3, d4, d5], _ => exact ⟨rfl, rfl, rfl⟩) law5 hval hW
theorem over : Rows.networkMovesRow.holds Try.pinned (OpenSpec.ofChange Rows.networkMovesSpec) :=
  OpenClaim.holds_of_wide 5 Try.f5 rfl rfl rfl rfl rfl rfl rfl ⟨rfl, rfl, rfl, rfl, rfl⟩ rfl rfl rfl rfl rfl (by kernel_rfl) Try.func5 (by kernel_rfl)
    (of_decide_eq_true (by kernel_rfl)) (by unfold Func.isWrapper; first | (rw [if_pos (by decide +kernel)]; kernel_rfl) | (rw [if_neg (by decide +kernel)]; exact ⟨rfl, rfl⟩))
    (fun os started H enc _ => lifted os started H enc)
theorem proved : Rows.NetworkMovesSaid := over
#print axioms proved
end Go.Proofs.Ytklddmmnggcffaa.networkMoves
