/-
 The law 'NetworkMatchesReference' holds for every input.
 Conditions: none.
-/
import Derived.Test.YtfekoiabjbdnfaaGreatRows
import Derived.Test.YtfekoiabjbdnfaaGreatZ4
import Derived.Test.YtfekoiabjbdnfaaGreatZ7
set_option linter.all false
namespace Go.Proofs.YtfekoiabjbdnfaaGreat.networkMatchesReference
open Go Go.Abs Go.PE Go.RowKit Go.ChangeShapes Go.WideShapes Go.ChangeAt Go.Proofs
set_option maxRecDepth 100000
set_option linter.unusedVariables false
set_option maxRecDepth 100000 in
theorem lifted (os:Os) (started:os.Started) (H:Type) (enc:TypeId×Value→H) :
  ReturnsInHanded {} Tryz.checked os 3 .any (Rows.networkMatchesReferenceSpec.pre6 enc Tryz.prog Tryz.f3 Rows.networkMatchesReferenceRow.domain false) (Rows.networkMatchesReferenceSpec.post enc Tryz.prog Tryz.f3 false true false false):=by
 refine returnsInHanded_of_change (C:=Tryz.checked) own started (by kernel_rfl) Tryz.func3
  (ChangeSpec.witness6 (enc:=enc) (C:=Tryz.checked) false ⟨#[],#[.agg #[.slice none 0 0,.slice none 0 0,.slice none 0 0,.slice none 0 0,.int .i64 0,.int .i64 0,.int .i64 0],.agg #[.int .i64 0,.int .i64 0,.int .i64 0],.agg #[.int .i64 0,.slice none 0 0,.slice none 0 0],.slice none 0 0,.int .i64 0,.int .i64 0],[]⟩ 8 (by kernel_rfl) (by kernel_rfl) (by kernel_rfl) (by kernel_rfl)) ?_
 intro W base args ds gs before hval hW hcnd _
 exact law_contract laidOut c3 rfl tys3 rfl Tryz.underlying4 rfl (fun H ds h=>by
  match ds,h with
  | [d0,d1,d2,d3,d4,d5],_=>exact ⟨rfl,rfl,rfl⟩) law3 (fun _ _ h=>by cases h) hval hW
theorem over:Rows.networkMatchesReferenceRow.holds Tryz.pinned (OpenSpec.ofChange Rows.networkMatchesReferenceSpec) :=
 OpenClaim.holds_of_wide 3 Tryz.f3 rfl rfl rfl rfl rfl rfl rfl ⟨rfl,rfl,rfl,rfl,rfl⟩ rfl rfl rfl rfl rfl (by kernel_rfl) Tryz.func3 (by kernel_rfl)
  (of_decide_eq_true (by kernel_rfl)) (by unfold Func.isWrapper;first | (rw [if_pos (by decide +kernel)];kernel_rfl) | (rw [if_neg (by decide +kernel)];exact ⟨rfl,rfl⟩))
  (fun os started H enc _=>lifted os started H enc)
theorem proved:Rows.NetworkMatchesReferenceSaid:=over
#print axioms proved
end Go.Proofs.YtfekoiabjbdnfaaGreat.networkMatchesReference
