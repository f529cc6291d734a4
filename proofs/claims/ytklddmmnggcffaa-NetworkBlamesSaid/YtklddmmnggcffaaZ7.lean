/-
  Network: the plain law of NetworkBlames, as the frame asks for it.
  No conditions.
-/
import Derived.Test.YtklddmmnggcffaaZ6
set_option linter.all false
namespace Go.Proofs.Ytklddmmnggcffaa
open Go Go.Abs Go.PE
theorem law7 : ∀ (S : Cells) (w : World) (η : Eta) (vs : List Value) x, All2 (RM S w η) (rvs as7 x) vs → m7 x = some true :=
  law_of_ok fun x h => law7_ok x (nn_ok h.1) (i64_mem h.2)
end Go.Proofs.Ytklddmmnggcffaa
