/-
  Texts of this proof, put together: 21s, 21a, LawRingFells.
  No conditions.
-/
import Derived.Test.YtblachgndbmhaaaZ4
set_option linter.all false
/-
  Ring: the self-test of the laws answers true.
  No conditions.
-/
namespace Go.Proofs.Ytblachgndbmhaaa
open Go Go.Abs Go.PE
set_option maxRecDepth 100000 in
theorem saneF : m11F () = some true := by kernel_rfl
theorem sane_ok : m11 () = some true := (le11 ()).out saneF
end Go.Proofs.Ytblachgndbmhaaa
/-
  Ring: bounds, picks; the law RingFells.
  No conditions.
-/
namespace Go.Proofs.Ytblachgndbmhaaa
open Go Go.Abs Go.PE
set_option linter.unusedVariables false
def i64 (n : Int) : Prop := -9223372036854775808 ≤ n ∧ n ≤ 9223372036854775807
theorem m14_eq {c n : Int} (hc : i64 c) (hn : 0 < n) : m14 (c, n) = some (pk c n) := pk_text hc hn
theorem m35_eq {c n : Int} (hc : i64 c) (hn : 0 < n) : m35 (c, n) = some (pk c n) := pk_text hc hn
theorem i64_mem {xs : List Int} (h : InR (.list tI) xs) : ∀ v ∈ xs, i64 v := fun v hv => by
  obtain ⟨i, hi, rfl⟩ := List.mem_iff_getElem.1 hv
  exact h.2 i _ (List.getElem?_eq_getElem hi)
theorem pairs {xs : List (Int × Int)} (h : InR (.list (.pair tI tI)) xs) : ∀ c ∈ xs, i64 c.1 ∧ i64 c.2 := fun c hc => by
  obtain ⟨i, hi, rfl⟩ := List.mem_iff_getElem.1 hc
  obtain ⟨a, b⟩ := h.2 i _ (List.getElem?_eq_getElem hi)
  exact ⟨a, b⟩
theorem m37_eq (n lo hi : Int) : m37 (n, lo, hi) = some (decide (lo ≤ n ∧ n ≤ hi)) := by
  refine congrArg some (Bool.eq_iff_iff.2 ?_)
  unfold PE.andM
  rw [Bool.and_eq_true, decide_eq_true_iff, decide_eq_true_iff, decide_eq_true_iff]
theorem fel_eq {y n : Int} (hy : 0 ≤ y ∧ y ≤ 2050) (hn : 0 ≤ n ∧ n ≤ 41) : m33 (y, n, false) = some ((if n = 0 then y + 9 else y + max 0 (9 - n), min (if n = 0 then 2100 else y + 41 - n) 2100 + 1), 0) := by
  unfold m33
  dsimp only
  rw [m37_eq, Option.bind_some, decide_eq_true (by omega), notT, notF, cond_true, m37_eq, Option.bind_some, decide_eq_true (by omega), notT, orF, cond_false, cond_false]
  by_cases h : n = 0
  · rw [eqI h, cond_true, Option.bind_some, wrap_in (n := y + 9) (by omega) (by omega), geI (by show y + 9 ≤ min 2100 2100; omega), cond_false, wrap_in (by omega) (by omega), if_pos h, if_pos h]
  · rw [neI h, cond_false, wrap_in (n := 9 - n) (by omega) (by omega), wrap_in (n := y + max 0 (9 - n)) (by omega) (by omega), wrap_in (n := y + 41) (by omega) (by omega), wrap_in (n := y + 41 - n) (by omega) (by omega), Option.bind_some]
    dsimp only
    rw [geI (by omega), cond_false, wrap_in (by omega) (by omega), if_neg h, if_neg h]
theorem bark_eq {y n : Int} (hy : 0 ≤ y ∧ y ≤ 2050) (hn : 0 ≤ n ∧ n ≤ 41) : m33 (y, n, true) = some ((y, y + 1), 0) := by
  unfold m33
  dsimp only
  rw [m37_eq, Option.bind_some, decide_eq_true (by omega), notT, notF, cond_true, m37_eq, Option.bind_some, decide_eq_true (by omega), notT, orF, cond_false, cond_true, Option.bind_some]
  dsimp only
  have e : min y 2100 = y := by omega
  rw [geI (by omega), cond_false, e, wrap_in (by omega) (by omega)]
theorem law10_ok (x : Int × Int × Int) (h1 : i64 x.1) (h2 : i64 x.2.1) (h3 : i64 x.2.2) : m10 x = some true := by
  unfold m10
  refine bind_of sane_ok ?_
  rw [notT, cond_false]
  have p1 := pk_lo (c := x.1) (n := 2000) (by omega)
  have p2 := pk_hi (c := x.1) (n := 2000) (by omega)
  have p3 := pk_lo (c := x.2.1) (n := 42) (by omega)
  have p4 := pk_hi (c := x.2.1) (n := 42) (by omega)
  refine bind_of (m14_eq h1 (by omega)) (bind_of (m14_eq h2 (by omega)) ?_)
  generalize pk x.1 2000 = y at *
  generalize pk x.2.1 42 = n at *
  rw [wrap_in (n := 42 - n) (by omega) (by omega)]
  have p5 := pk_lo (c := x.2.2) (n := 42 - n) (by omega)
  have p6 := pk_hi (c := x.2.2) (n := 42 - n) (by omega)
  refine bind_of (m14_eq h3 (by omega)) ?_
  generalize pk x.2.2 (42 - n) = d at *
  rw [wrap_in (n := y + d) (by omega) (by omega), wrap_in (n := n + d) (by omega) (by omega)]
  refine bind_of (fel_eq (by omega) (by omega)) (bind_of (bark_eq (by omega) (by omega)) (bind_of (fel_eq (by omega) (by omega)) ?_))
  dsimp only
  rw [wrap_in (n := y + 1) (by omega) (by omega), eqI rfl, eqI rfl, eqI rfl, andT, notT, orF, orF, orF, cond_false]
  by_cases h0 : n = 0
  · rw [if_pos h0, if_pos h0, gtI (by omega), andF, cond_false, eqI h0]
    rfl
  · rw [if_neg h0, if_neg h0, if_neg (by omega), if_neg (by omega), neI h0, orF]
    by_cases h9 : 9 ≤ n
    · rw [leI h9, andT, geI (by omega), geI (by omega), orF, cond_false, leI (by omega), leI (by omega)]; rfl
    · rw [gtI (a := 9) (b := n) (by omega), andF, cond_false, leI (by omega), leI (by omega)]; rfl
end Go.Proofs.Ytblachgndbmhaaa
/-
  Ring: the plain law of RingFells, as the frame asks for it.
  No conditions.
-/
namespace Go.Proofs.Ytblachgndbmhaaa
open Go Go.Abs Go.PE
theorem law10 : ∀ (S : Cells) (w : World) (η : Eta) (vs : List Value) x, All2 (RM S w η) (rvs as10 x) vs → m10 x = some true :=
  law_of_ok fun x h => law10_ok x h.1 h.2.1 h.2.2
end Go.Proofs.Ytblachgndbmhaaa
