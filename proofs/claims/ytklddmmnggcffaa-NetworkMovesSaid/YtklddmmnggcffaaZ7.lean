/-
  Network: the plain law of NetworkMoves, as the frame asks for it.
  No conditions.
-/
import Derived.Test.YtklddmmnggcffaaZ6
set_option linter.all false
namespace Go.Proofs.Ytklddmmnggcffaa
open Go Go.Abs Go.PE
theorem law5 : ∀ (S : Cells) (w : World) (η : Eta) (vs : List Value) x, All2 (RM S w η) (rvs as5 x) vs → m5 x = some true :=
  law_of_ok fun x h => law5_ok x (nn_ok h.1) h.2.1 h.2.2.1 h.2.2.2.1 h.2.2.2.2.1 h.2.2.2.2.2
end Go.Proofs.Ytklddmmnggcffaa
