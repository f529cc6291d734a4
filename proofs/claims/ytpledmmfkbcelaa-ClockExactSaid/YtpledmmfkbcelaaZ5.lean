/-
  Texts of this proof, put together: 5a, F, 5s, 5b, LawClockExact.
  No conditions.
-/
import Derived.Test.YtpledmmfkbcelaaZ4
set_option linter.all false
/-
  Clock: Spread; exactness of its bounds.
  No conditions.
-/
namespace Go.Proofs.Ytpledmmfkbcelaa
open Go Go.Abs Go.PE
set_option linter.unusedVariables false
def i64 (n : Int) : Prop := -9223372036854775808 ≤ n ∧ n ≤ 9223372036854775807
/-- The least number of true seconds in which the clock advances by n; the greatest. -/
def slo (d n : Int) : Int := if 0 < n then 1000 * (n - 1) / (1000 + d) + 1 else 0
def shi (d n : Int) : Int := (1000 * (n + 1) - 1) / (1000 - d)
theorem ediv_sz {a b : Int} (ha : 0 ≤ a) (hb : 0 < b) : 0 ≤ a / b ∧ a / b ≤ a := ⟨Int.ediv_nonneg ha (by omega), Int.ediv_le_self _ ha⟩
theorem divM_of {a b : Int} (ha : 0 ≤ a) (ha2 : a ≤ 1000000000000000000) (hb : 0 < b) : divM IntKind.i64 a b = some (a / b) := by
  have h := ediv_sz ha hb
  rw [divM_pos (by omega), Int.tdiv_eq_ediv_of_nonneg ha, wrap_in (by omega) (by omega)]
theorem slo_sz {d n : Int} (hd : 0 ≤ d ∧ d ≤ 100) (hn : 0 ≤ n ∧ n ≤ 10000000) : 0 ≤ slo d n ∧ slo d n ≤ 10000000001 := by
  unfold slo
  split
  · have := ediv_sz (a := 1000 * (n - 1)) (b := 1000 + d) (by omega) (by omega)
    omega
  · omega
theorem shi_sz {d n : Int} (hd : 0 ≤ d ∧ d ≤ 100) (hn : 0 ≤ n ∧ n ≤ 10000000) : 0 ≤ shi d n ∧ shi d n ≤ 10000001000 := by
  unfold shi
  have := ediv_sz (a := 1000 * (n + 1) - 1) (b := 1000 - d) (by omega) (by omega)
  omega
theorem spr_ok {d n : Int} (hd : 0 ≤ d ∧ d ≤ 100) (hn : 0 ≤ n ∧ n ≤ 10000000) : m11 (d, n) = some (slo d n, shi d n) := by
  unfold m11
  dsimp only
  rw [geI (by omega), geI (a := 100) (b := d) (by omega), geI (a := n) (b := 0) (by omega), geI (a := 10000000) (b := n) (by omega)]
  show Option.bind (bif ltM 0 n then _ else some 0) _ = _
  have e2 : ∀ o : Int, Option.bind (divM IntKind.i64 (IntKind.wrap IntKind.i64 (IntKind.wrap IntKind.i64 ((1000 : Int) * IntKind.wrap IntKind.i64 (n + (1 : Int))) - (1 : Int))) (IntKind.wrap IntKind.i64 ((1000 : Int) - d))) (fun (r : Int) => some (o, r)) = some (o, shi d n) := fun o => by
    rw [wrap_in (n := n + 1) (by omega) (by omega), wrap_in (n := 1000 * (n + 1)) (by omega) (by omega), wrap_in (n := 1000 * (n + 1) - 1) (by omega) (by omega), wrap_in (n := 1000 - d) (by omega) (by omega), divM_of (by omega) (by omega) (by omega)]
    rfl
  by_cases h : 0 < n
  · have h2 := ediv_sz (a := 1000 * (n - 1)) (b := 1000 + d) (by omega) (by omega)
    rw [ltI h, cond_true, wrap_in (n := n - 1) (by omega) (by omega), wrap_in (n := 1000 * (n - 1)) (by omega) (by omega), wrap_in (n := 1000 + d) (by omega) (by omega), divM_of (by omega) (by omega) (by omega), Option.bind_some, wrap_in (by omega) (by omega), Option.bind_some, e2]
    unfold slo
    rw [if_pos h]
  · rw [geI (by omega), cond_false, Option.bind_some, e2]
    unfold slo
    rw [if_neg h]
theorem spr_out {d n : Int} (h : ¬ (0 ≤ d ∧ d ≤ 100 ∧ 0 ≤ n ∧ n ≤ 10000000)) : m11 (d, n) = some (0, 0) := by
  unfold m11
  dsimp only
  have e : PE.orM (PE.orM (PE.orM (ltM d (0 : Int)) (ltM (100 : Int) d)) (ltM n (0 : Int))) (ltM (10000000 : Int) n) = true := by
    unfold PE.orM
    simp only [Bool.or_eq_true, decide_eq_true_eq]
    omega
  rw [e, cond_true]
/-- The inequality of a course. -/
def fits (d x n : Int) : Prop := (1000 - d) * x - 1000 < 1000 * n ∧ 1000 * n < (1000 + d) * x + 1000
theorem slo_iff {d n x : Int} (hd : 0 ≤ d ∧ d ≤ 100) (hn : 0 ≤ n) (hx : 0 ≤ x) : slo d n ≤ x ↔ 1000 * n < (1000 + d) * x + 1000 := by
  unfold slo
  by_cases h : 0 < n
  · rw [if_pos h]
    have h1 : 1000 * (n - 1) / (1000 + d) < x ↔ 1000 * (n - 1) < x * (1000 + d) := Int.ediv_lt_iff_lt_mul (by omega)
    rw [Int.mul_comm x] at h1
    constructor
    · intro h2
      have := h1.1 (by omega)
      omega
    · intro h2
      have := h1.2 (by omega)
      omega
  · rw [if_neg h]
    have : 0 ≤ (1000 + d) * x := Int.mul_nonneg (by omega) hx
    constructor
    · intro _; omega
    · intro _; exact hx
theorem shi_iff {d n x : Int} (hd : 0 ≤ d ∧ d ≤ 100) : x ≤ shi d n ↔ (1000 - d) * x - 1000 < 1000 * n := by
  unfold shi
  have h1 : x ≤ (1000 * (n + 1) - 1) / (1000 - d) ↔ x * (1000 - d) ≤ 1000 * (n + 1) - 1 := Int.le_ediv_iff_mul_le (by omega)
  rw [h1, Int.mul_comm x]
  constructor
  · intro _; omega
  · intro _; omega
/-- The bounds of Spread are exact. -/
theorem fits_iff {d n x : Int} (hd : 0 ≤ d ∧ d ≤ 100) (hn : 0 ≤ n) (hx : 0 ≤ x) : fits d x n ↔ slo d n ≤ x ∧ x ≤ shi d n := by
  unfold fits
  rw [slo_iff hd hn hx, shi_iff hd]
  exact And.comm
theorem slo_mono {d n m : Int} (hd : 0 ≤ d ∧ d ≤ 100) (hn : 0 ≤ n) (h : n ≤ m) : slo d n ≤ slo d m := by
  have h0 : 0 ≤ slo d m := by
    unfold slo
    split
    · have := Int.ediv_nonneg (a := 1000 * (m - 1)) (b := 1000 + d) (by omega) (by omega); omega
    · omega
  refine (slo_iff hd hn h0).2 ?_
  have := (slo_iff hd (by omega : (0 : Int) ≤ m) h0).1 (Int.le_refl _)
  omega
theorem shi_mono {d n m : Int} (hd : 0 ≤ d ∧ d ≤ 100) (h : n ≤ m) : shi d n ≤ shi d m := by
  refine (shi_iff hd).2 ?_
  have := (shi_iff (n := n) hd).1 (Int.le_refl _)
  omega
theorem slo_anti {d e n : Int} (hd : 0 ≤ d) (he : d ≤ e ∧ e ≤ 100) (hn : 0 ≤ n) : slo e n ≤ slo d n := by
  have h0 : 0 ≤ slo d n := by
    unfold slo
    split
    · have := Int.ediv_nonneg (a := 1000 * (n - 1)) (b := 1000 + d) (by omega) (by omega); omega
    · omega
  refine (slo_iff (by omega) hn h0).2 ?_
  have h1 := (slo_iff (x := slo d n) (by omega : 0 ≤ d ∧ d ≤ 100) hn h0).1 (Int.le_refl _)
  have h2 : (1000 + d) * slo d n ≤ (1000 + e) * slo d n := Int.mul_le_mul_of_nonneg_right (by omega) h0
  omega
theorem shi_wide {d e n : Int} (hd : 0 ≤ d) (he : d ≤ e ∧ e ≤ 100) (hn : 0 ≤ n) : shi d n ≤ shi e n := by
  have h0 : 0 ≤ shi d n := Int.ediv_nonneg (by omega) (by omega)
  refine (shi_iff (by omega)).2 ?_
  have h1 := (shi_iff (n := n) (x := shi d n) (by omega : 0 ≤ d ∧ d ≤ 100)).1 (Int.le_refl _)
  have h2 : (1000 - e) * shi d n ≤ (1000 - d) * shi d n := Int.mul_le_mul_of_nonneg_right (by omega) h0
  omega
theorem slo_le_shi {d n : Int} (hd : 0 ≤ d ∧ d ≤ 100) (hn : 0 ≤ n) : slo d n ≤ shi d n := by
  have h0 : 0 ≤ shi d n := Int.ediv_nonneg (by omega) (by omega)
  refine (slo_iff hd hn h0).2 ?_
  have h1 : (1000 * (n + 1) - 1) < ((1000 * (n + 1) - 1) / (1000 - d) + 1) * (1000 - d) := Int.lt_ediv_add_one_mul_self _ (by omega)
  have h2 : (shi d n + 1) * (1000 - d) = (1000 - d) * shi d n + (1000 - d) := by rw [Int.add_mul, Int.one_mul, Int.mul_comm]
  have h3 : (shi d n + 1) * (1000 - d) > 1000 * (n + 1) - 1 := h1
  have h4 : (1000 - d) * shi d n ≤ (1000 + d) * shi d n := Int.mul_le_mul_of_nonneg_right (by omega) h0
  omega
theorem slo_zero {n : Int} (hn : 0 ≤ n) : slo 0 n = n := by
  unfold slo
  split
  · rw [show (1000 : Int) + 0 = 1000 by rfl, Int.mul_ediv_cancel_left _ (by decide)]; omega
  · omega
theorem shi_zero {n : Int} (hn : 0 ≤ n) : shi 0 n = n := by
  refine Int.le_antisymm ?_ ((shi_iff (by omega)).2 (by omega))
  have := (shi_iff (d := 0) (n := n) (x := shi 0 n) (by omega)).1 (Int.le_refl _)
  omega
theorem m19_eq {c n : Int} (hc : i64 c) (hn : 0 < n) : m19 (c, n) = some (pk c n) := pk_text hc hn
theorem m35_eq {c n : Int} (hc : i64 c) (hn : 0 < n) : m35 (c, n) = some (pk c n) := pk_text hc hn
theorem i64_mem {xs : List Int} (h : InR (.list tI) xs) : ∀ v ∈ xs, i64 v := fun v hv => by
  obtain ⟨i, hi, rfl⟩ := List.mem_iff_getElem.1 hv
  exact h.2 i _ (List.getElem?_eq_getElem hi)
end Go.Proofs.Ytpledmmfkbcelaa
/-
  The models with loops of bounded rounds, and that they answer no more than the models (printed by gen_twin.py). No conditions.
-/
namespace Go.Proofs.Ytpledmmfkbcelaa
open Go Go.Abs Go.PE Go.Proofs
set_option linter.unusedVariables false
set_option maxRecDepth 100000
set_option maxHeartbeats 0
def m11F : (Int × Int) → Option (Int × Int) :=
  fun (x : Int × Int) =>
    bif
        PE.orM (PE.orM (PE.orM (ltM x.1 (0 : Int)) (ltM (100 : Int) x.1)) (ltM x.2 (0 : Int)))
          (ltM (10000000 : Int) x.2) then
      some ((0 : Int), (0 : Int))
    else
      Option.bind
        (bif ltM (0 : Int) x.2 then
          Option.bind
            (divM IntKind.i64 (IntKind.wrap IntKind.i64 ((1000 : Int) * IntKind.wrap IntKind.i64 (x.2 - (1 : Int))))
              (IntKind.wrap IntKind.i64 ((1000 : Int) + x.1)))
            fun (r : Int) => some (IntKind.wrap IntKind.i64 (r + (1 : Int)))
        else some (0 : Int))
        fun (o : Int) =>
        Option.bind
          (divM IntKind.i64
            (IntKind.wrap IntKind.i64
              (IntKind.wrap IntKind.i64 ((1000 : Int) * IntKind.wrap IntKind.i64 (x.2 + (1 : Int))) - (1 : Int)))
            (IntKind.wrap IntKind.i64 ((1000 : Int) - x.1)))
          fun (r : Int) => some (o, r)
theorem le11 (x) : Le (m11F x) (m11 x) := by
  unfold m11F m11
  repeat' first | with_reducible exact Le.refl _ | intro _ | apply Le.bind | apply Le.cond | apply Le.loop | apply Le.elim
def m17F : (Int × List (Int × Int × Int)) → Option (Bool) :=
  fun (x : Int × List (Int × Int × Int)) =>
    bif PE.orM (PE.orM (ltM x.1 (0 : Int)) (ltM (100 : Int) x.1)) (ltM (12 : Int) (lenM x.2)) then some false
    else
      Option.bind
        (loopF
          (fun (s : Int × Int) =>
            bif ltM s.2 (lenM x.2) then
              Option.bind (idxM x.2 s.2) fun (r : Int × Int × Int) =>
                bif
                    PE.orM
                      (PE.orM (PE.orM (PE.orM (leM r.1 s.1) (ltM (10000000 : Int) r.1)) (ltM r.2.1 (0 : Int)))
                        (ltM r.2.2 r.2.1))
                      (ltM (10000000 : Int) r.2.2) then
                  some (Sum.inr (Sum.inr false))
                else some (Sum.inl (r.1, IntKind.wrap IntKind.i64 (s.2 + (1 : Int))))
            else some (Sum.inr (Sum.inl ())))
          ((-1 : Int), (0 : Int)))
        fun (o : Unit ⊕ Bool) => Sum.elim (fun (t : Unit) => some true) (fun (t : Bool) => some t) o
theorem le17 (x) : Le (m17F x) (m17 x) := by
  unfold m17F m17
  repeat' first | with_reducible exact Le.refl _ | intro _ | apply Le.bind | apply Le.cond | apply Le.loop | apply Le.elim
def m36F : ((Int × List (Int × Int × Int)) × Int) → Option (Int × Int) :=
  fun (x : (Int × List (Int × Int × Int)) × Int) =>
    Option.bind
      (loopF
        (fun (s : Int × Int × Int) =>
          bif ltM s.1 (lenM x.1.2) then
            Option.bind (idxM x.1.2 s.1) fun (r : Int × Int × Int) =>
              Option.bind (m11F (x.1.1, max (IntKind.wrap IntKind.i64 (x.2 - r.1)) (IntKind.wrap IntKind.i64 (r.1 - x.2))))
                fun (r_1 : Int × Int) =>
                Option.bind
                  (bif ltM x.2 r.1 then
                    some (IntKind.wrap IntKind.i64 (negM r_1.2), IntKind.wrap IntKind.i64 (negM r_1.1))
                  else bif eqM x.2 r.1 then some (IntKind.wrap IntKind.i64 (negM r_1.2), r_1.2) else some (r_1.1, r_1.2))
                  fun (o : Int × Int) =>
                  some
                    (Sum.inl
                      (IntKind.wrap IntKind.i64 (s.1 + (1 : Int)), max s.2.1 (IntKind.wrap IntKind.i64 (r.2.1 + o.1)),
                        min s.2.2 (IntKind.wrap IntKind.i64 (r.2.2 + o.2))))
          else some (Sum.inr (s.2.1, s.2.2)))
        ((0 : Int), (0 : Int), (10000000 : Int)))
      fun (o : Int × Int) => some (o.1, o.2)
theorem le36 (x) : Le (m36F x) (m36 x) := by
  unfold m36F m36
  repeat' first | exact le11 _ | with_reducible exact Le.refl _ | intro _ | apply Le.bind | apply Le.cond | apply Le.loop | apply Le.elim
def m20F : ((Int × List (Int × Int × Int)) × Int) → Option (Int × Int × Int) :=
  fun (x : (Int × List (Int × Int × Int)) × Int) =>
    Option.bind (m17F (x.1.1, x.1.2)) fun (r : Bool) =>
      bif PE.orM (PE.orM (PE.notM r) (ltM x.2 (0 : Int))) (ltM (10000000 : Int) x.2) then
        some ((0 : Int), (0 : Int), (50 : Int))
      else
        Option.bind (m36F ((x.1.1, x.1.2), x.2)) fun (r : Int × Int) =>
          bif ltM r.2 r.1 then some ((0 : Int), (0 : Int), (50 : Int)) else some (r.1, r.2, (0 : Int))
theorem le20 (x) : Le (m20F x) (m20 x) := by
  unfold m20F m20
  repeat' first | exact le17 _ | exact le36 _ | with_reducible exact Le.refl _ | intro _ | apply Le.bind | apply Le.cond | apply Le.loop | apply Le.elim
def m22F : ((Int × List (Int × Int × Int)) × Int) → Option (Int × Int × Int) :=
  fun (x : (Int × List (Int × Int × Int)) × Int) =>
    Option.bind (m17F (x.1.1, x.1.2)) fun (r : Bool) =>
      bif PE.orM (PE.orM (PE.notM r) (ltM x.2 (0 : Int))) (ltM (10000000 : Int) x.2) then
        some ((0 : Int), (0 : Int), (50 : Int))
      else
        Option.bind
          (loopF
            (fun (s : Int × Int) =>
              bif ltM s.1 s.2 then
                Option.bind (shrM IntKind.u64 (IntKind.wrap IntKind.u64 (IntKind.wrap IntKind.i64 (s.1 + s.2))) (1 : Int))
                  fun (r_1 : Int) =>
                  Option.bind (m36F ((x.1.1, x.1.2), IntKind.wrap IntKind.i64 r_1)) fun (r : Int × Int) =>
                    bif PE.notM (leM x.2 r.2) then
                      some (Sum.inl (IntKind.wrap IntKind.i64 (IntKind.wrap IntKind.i64 r_1 + (1 : Int)), s.2))
                    else some (Sum.inl (s.1, IntKind.wrap IntKind.i64 r_1))
              else some (Sum.inr s.1))
            ((0 : Int), (10000001 : Int)))
          fun (o : Int) =>
          Option.bind
            (loopF
              (fun (s : Int × Int) =>
                bif ltM s.1 s.2 then
                  Option.bind
                    (shrM IntKind.u64 (IntKind.wrap IntKind.u64 (IntKind.wrap IntKind.i64 (s.1 + s.2))) (1 : Int))
                    fun (r_1 : Int) =>
                    Option.bind (m36F ((x.1.1, x.1.2), IntKind.wrap IntKind.i64 r_1)) fun (r : Int × Int) =>
                      bif PE.notM (ltM x.2 r.1) then
                        some (Sum.inl (IntKind.wrap IntKind.i64 (IntKind.wrap IntKind.i64 r_1 + (1 : Int)), s.2))
                      else some (Sum.inl (s.1, IntKind.wrap IntKind.i64 r_1))
                else some (Sum.inr s.1))
              ((0 : Int), (10000001 : Int)))
            fun (o_1 : Int) =>
            bif leM o_1 o then some ((0 : Int), (0 : Int), (50 : Int))
            else some (o, IntKind.wrap IntKind.i64 (o_1 - (1 : Int)), (0 : Int))
theorem le22 (x) : Le (m22F x) (m22 x) := by
  unfold m22F m22
  repeat' first | exact le17 _ | exact le36 _ | with_reducible exact Le.refl _ | intro _ | apply Le.bind | apply Le.cond | apply Le.loop | apply Le.elim
def m13F : (List (Int × Int)) → Option ((Int × Int) × Int) :=
  fun (x : List (Int × Int)) =>
    Option.bind
      (loopF
        (fun (s : Int × List (Int × Int)) =>
          bif ltM s.1 (lenM x) then
            Option.bind (idxM x s.1) fun (r : Int × Int) =>
              bif ltM r.1 r.2 then
                Option.bind (appM (nat_lit 16) s.2 [(r.1, (1 : Int)), (r.2, (-1 : Int))]) fun (r : List (Int × Int)) =>
                  some (Sum.inl (IntKind.wrap IntKind.i64 (s.1 + (1 : Int)), r))
              else some (Sum.inl (IntKind.wrap IntKind.i64 (s.1 + (1 : Int)), s.2))
          else some (Sum.inr s.2))
        ((0 : Int), []))
      fun (o : List (Int × Int)) =>
      Option.bind (sortM (Ty.pair (Ty.int IntKind.i64) (Ty.int IntKind.i64)) cf32 o) fun (r : List (Int × Int)) =>
        Option.bind
          (loopF
            (fun (s : Int × Int × Bool × Int × Int × Int) =>
              bif ltM s.2.2.2.1 (lenM r) then
                Option.bind (chkM s.2.2.2.1 (lenM r)) fun (r_1 : Unit) =>
                  Option.bind (idxM r s.2.2.2.1) fun (r_2 : Int × Int) =>
                    Option.bind
                      (bif ltM (IntKind.wrap IntKind.i64 (s.2.2.2.1 + (1 : Int))) (lenM r) then
                        chkM (IntKind.wrap IntKind.i64 (s.2.2.2.1 + (1 : Int))) (lenM r)
                      else some ())
                      fun (r_3 : Unit) =>
                      Option.bind
                        (bif ltM (IntKind.wrap IntKind.i64 (s.2.2.2.1 + (1 : Int))) (lenM r) then
                          Option.bind (idxM r (IntKind.wrap IntKind.i64 (s.2.2.2.1 + (1 : Int)))) fun (x : Int × Int) =>
                            some x.1
                        else some (0 : Int))
                        fun (r_4 : Int) =>
                        bif PE.andM (ltM (IntKind.wrap IntKind.i64 (s.2.2.2.1 + (1 : Int))) (lenM r)) (eqM r_4 r_2.1) then
                          some
                            (Sum.inl
                              (s.1, IntKind.wrap IntKind.i64 (s.2.1 + r_2.2), s.2.2.1,
                                IntKind.wrap IntKind.i64 (s.2.2.2.1 + (1 : Int)), s.2.2.2.2.1, s.2.2.2.2.2))
                        else
                          bif ltM s.1 (IntKind.wrap IntKind.i64 (s.2.1 + r_2.2)) then
                            some
                              (Sum.inl
                                (IntKind.wrap IntKind.i64 (s.2.1 + r_2.2), IntKind.wrap IntKind.i64 (s.2.1 + r_2.2), true,
                                  IntKind.wrap IntKind.i64 (s.2.2.2.1 + (1 : Int)), r_2.1, s.2.2.2.2.2))
                          else
                            bif PE.andM s.2.2.1 (ltM (IntKind.wrap IntKind.i64 (s.2.1 + r_2.2)) s.1) then
                              some
                                (Sum.inl
                                  (s.1, IntKind.wrap IntKind.i64 (s.2.1 + r_2.2), false,
                                    IntKind.wrap IntKind.i64 (s.2.2.2.1 + (1 : Int)), s.2.2.2.2.1, r_2.1))
                            else
                              some
                                (Sum.inl
                                  (s.1, IntKind.wrap IntKind.i64 (s.2.1 + r_2.2), s.2.2.1,
                                    IntKind.wrap IntKind.i64 (s.2.2.2.1 + (1 : Int)), s.2.2.2.2.1, s.2.2.2.2.2))
              else some (Sum.inr (s.1, s.2.2.2.2.1, s.2.2.2.2.2)))
            ((0 : Int), (0 : Int), false, (0 : Int), (0 : Int), (0 : Int)))
          fun (o : Int × Int × Int) => some ((o.2.1, o.2.2), o.1)
theorem le13 (x) : Le (m13F x) (m13 x) := by
  unfold m13F m13
  repeat' first | with_reducible exact Le.refl _ | intro _ | apply Le.bind | apply Le.cond | apply Le.loop | apply Le.elim
def m24F : ((Int × List (Int × Int × Int)) × Int × Int) → Option (Bool) :=
  fun (x : (Int × List (Int × Int × Int)) × Int × Int) =>
    Option.bind (m20F ((x.1.1, x.1.2), x.2.1)) fun (r : Int × Int × Int) =>
      some (PE.andM (eqM r.2.2 (0 : Int)) (ltM r.2.1 x.2.2))
theorem le24 (x) : Le (m24F x) (m24 x) := by
  unfold m24F m24
  repeat' first | exact le20 _ | with_reducible exact Le.refl _ | intro _ | apply Le.bind | apply Le.cond | apply Le.loop | apply Le.elim
def m26F : ((Int × List (Int × Int × Int)) × Int × Int) → Option (Bool) :=
  fun (x : (Int × List (Int × Int × Int)) × Int × Int) =>
    Option.bind (m20F ((x.1.1, x.1.2), x.2.1)) fun (r : Int × Int × Int) =>
      some (PE.andM (eqM r.2.2 (0 : Int)) (ltM x.2.2 r.1))
theorem le26 (x) : Le (m26F x) (m26 x) := by
  unfold m26F m26
  repeat' first | exact le20 _ | with_reducible exact Le.refl _ | intro _ | apply Le.bind | apply Le.cond | apply Le.loop | apply Le.elim
def m10F : Unit → Option (Bool) :=
  fun (x : Unit) =>
    Option.bind (m11F ((0 : Int), (7 : Int))) fun (r : Int × Int) =>
      Option.bind (m11F ((100 : Int), (0 : Int))) fun (r_1 : Int × Int) =>
        Option.bind (m11F ((100 : Int), (110 : Int))) fun (r_2 : Int × Int) =>
          Option.bind (m20F (((100 : Int), [((1000 : Int), (2000 : Int), (2010 : Int))]), (1110 : Int)))
            fun (r_3 : Int × Int × Int) =>
            Option.bind (m20F (((100 : Int), [((1000 : Int), (2000 : Int), (2010 : Int))]), (890 : Int)))
              fun (r_4 : Int × Int × Int) =>
              Option.bind (m22F (((100 : Int), [((1000 : Int), (2000 : Int), (2010 : Int))]), (2005 : Int)))
                fun (r_5 : Int × Int × Int) =>
                Option.bind
                  (m13F
                    [((0 : Int), (10 : Int)), ((5 : Int), (15 : Int)), ((8 : Int), (9 : Int)), ((12 : Int), (20 : Int))])
                  fun (r_6 : (Int × Int) × Int) =>
                  Option.bind
                    (bif
                        PE.andM
                          (PE.andM
                            (PE.andM
                              (PE.andM
                                (PE.andM
                                  (PE.andM
                                    (PE.andM
                                      (PE.andM
                                        (PE.andM
                                          (PE.andM (PE.andM (eqM r.1 (7 : Int)) (eqM r.2 (7 : Int)))
                                            (eqM r_1.1 (0 : Int)))
                                          (eqM r_1.2 (1 : Int)))
                                        (eqM r_2.1 (100 : Int)))
                                      (eqM r_2.2 (123 : Int)))
                                    (PE.andM
                                      (PE.andM
                                        (PE.andM
                                          (PE.andM (PE.andM (eqM r_3.2.2 (0 : Int)) (eqM r_3.1 (2100 : Int)))
                                            (eqM r_3.2.1 (2133 : Int)))
                                          (eqM r_4.2.2 (0 : Int)))
                                        (eqM r_4.1 (1877 : Int)))
                                      (eqM r_4.2.1 (1910 : Int))))
                                  (eqM r_5.2.2 (0 : Int)))
                                (eqM r_5.1 (994 : Int)))
                              (eqM r_5.2.1 (1006 : Int)))
                            (PE.andM (eqM r_6.1.1 (8 : Int)) (eqM r_6.1.2 (9 : Int))))
                          (eqM r_6.2 (3 : Int)) then
                      m17F ((100 : Int), [((1000 : Int), (2000 : Int), (2010 : Int))])
                    else some false)
                    fun (r_7 : Bool) =>
                    Option.bind
                      (bif
                          PE.andM
                            (PE.andM
                              (PE.andM
                                (PE.andM
                                  (PE.andM
                                    (PE.andM
                                      (PE.andM
                                        (PE.andM
                                          (PE.andM
                                            (PE.andM
                                              (PE.andM (PE.andM (eqM r.1 (7 : Int)) (eqM r.2 (7 : Int)))
                                                (eqM r_1.1 (0 : Int)))
                                              (eqM r_1.2 (1 : Int)))
                                            (eqM r_2.1 (100 : Int)))
                                          (eqM r_2.2 (123 : Int)))
                                        (PE.andM
                                          (PE.andM
                                            (PE.andM
                                              (PE.andM (PE.andM (eqM r_3.2.2 (0 : Int)) (eqM r_3.1 (2100 : Int)))
                                                (eqM r_3.2.1 (2133 : Int)))
                                              (eqM r_4.2.2 (0 : Int)))
                                            (eqM r_4.1 (1877 : Int)))
                                          (eqM r_4.2.1 (1910 : Int))))
                                      (eqM r_5.2.2 (0 : Int)))
                                    (eqM r_5.1 (994 : Int)))
                                  (eqM r_5.2.1 (1006 : Int)))
                                (PE.andM (eqM r_6.1.1 (8 : Int)) (eqM r_6.1.2 (9 : Int))))
                              (eqM r_6.2 (3 : Int)))
                            r_7 then
                        m24F (((100 : Int), [((1000 : Int), (2000 : Int), (2010 : Int))]), (890 : Int), (1911 : Int))
                      else some false)
                      fun (r_8 : Bool) =>
                      Option.bind
                        (bif
                            PE.andM
                              (PE.andM
                                (PE.andM
                                  (PE.andM
                                    (PE.andM
                                      (PE.andM
                                        (PE.andM
                                          (PE.andM
                                            (PE.andM
                                              (PE.andM
                                                (PE.andM
                                                  (PE.andM (PE.andM (eqM r.1 (7 : Int)) (eqM r.2 (7 : Int)))
                                                    (eqM r_1.1 (0 : Int)))
                                                  (eqM r_1.2 (1 : Int)))
                                                (eqM r_2.1 (100 : Int)))
                                              (eqM r_2.2 (123 : Int)))
                                            (PE.andM
                                              (PE.andM
                                                (PE.andM
                                                  (PE.andM (PE.andM (eqM r_3.2.2 (0 : Int)) (eqM r_3.1 (2100 : Int)))
                                                    (eqM r_3.2.1 (2133 : Int)))
                                                  (eqM r_4.2.2 (0 : Int)))
                                                (eqM r_4.1 (1877 : Int)))
                                              (eqM r_4.2.1 (1910 : Int))))
                                          (eqM r_5.2.2 (0 : Int)))
                                        (eqM r_5.1 (994 : Int)))
                                      (eqM r_5.2.1 (1006 : Int)))
                                    (PE.andM (eqM r_6.1.1 (8 : Int)) (eqM r_6.1.2 (9 : Int))))
                                  (eqM r_6.2 (3 : Int)))
                                r_7)
                              r_8 then
                          m24F (((100 : Int), [((1000 : Int), (2000 : Int), (2010 : Int))]), (890 : Int), (1910 : Int))
                        else some false)
                        fun (r_9 : Bool) =>
                        Option.bind
                          (bif
                              PE.andM
                                (PE.andM
                                  (PE.andM
                                    (PE.andM
                                      (PE.andM
                                        (PE.andM
                                          (PE.andM
                                            (PE.andM
                                              (PE.andM
                                                (PE.andM
                                                  (PE.andM
                                                    (PE.andM
                                                      (PE.andM (PE.andM (eqM r.1 (7 : Int)) (eqM r.2 (7 : Int)))
                                                        (eqM r_1.1 (0 : Int)))
                                                      (eqM r_1.2 (1 : Int)))
                                                    (eqM r_2.1 (100 : Int)))
                                                  (eqM r_2.2 (123 : Int)))
                                                (PE.andM
                                                  (PE.andM
                                                    (PE.andM
                                                      (PE.andM (PE.andM (eqM r_3.2.2 (0 : Int)) (eqM r_3.1 (2100 : Int)))
                                                        (eqM r_3.2.1 (2133 : Int)))
                                                      (eqM r_4.2.2 (0 : Int)))
                                                    (eqM r_4.1 (1877 : Int)))
                                                  (eqM r_4.2.1 (1910 : Int))))
                                              (eqM r_5.2.2 (0 : Int)))
                                            (eqM r_5.1 (994 : Int)))
                                          (eqM r_5.2.1 (1006 : Int)))
                                        (PE.andM (eqM r_6.1.1 (8 : Int)) (eqM r_6.1.2 (9 : Int))))
                                      (eqM r_6.2 (3 : Int)))
                                    r_7)
                                  r_8)
                                (PE.notM r_9) then
                            m26F (((100 : Int), [((1000 : Int), (2000 : Int), (2010 : Int))]), (1110 : Int), (2099 : Int))
                          else some false)
                          fun (r_10 : Bool) =>
                          Option.bind
                            (bif
                                PE.andM
                                  (PE.andM
                                    (PE.andM
                                      (PE.andM
                                        (PE.andM
                                          (PE.andM
                                            (PE.andM
                                              (PE.andM
                                                (PE.andM
                                                  (PE.andM
                                                    (PE.andM
                                                      (PE.andM
                                                        (PE.andM
                                                          (PE.andM (PE.andM (eqM r.1 (7 : Int)) (eqM r.2 (7 : Int)))
                                                            (eqM r_1.1 (0 : Int)))
                                                          (eqM r_1.2 (1 : Int)))
                                                        (eqM r_2.1 (100 : Int)))
                                                      (eqM r_2.2 (123 : Int)))
                                                    (PE.andM
                                                      (PE.andM
                                                        (PE.andM
                                                          (PE.andM
                                                            (PE.andM (eqM r_3.2.2 (0 : Int)) (eqM r_3.1 (2100 : Int)))
                                                            (eqM r_3.2.1 (2133 : Int)))
                                                          (eqM r_4.2.2 (0 : Int)))
                                                        (eqM r_4.1 (1877 : Int)))
                                                      (eqM r_4.2.1 (1910 : Int))))
                                                  (eqM r_5.2.2 (0 : Int)))
                                                (eqM r_5.1 (994 : Int)))
                                              (eqM r_5.2.1 (1006 : Int)))
                                            (PE.andM (eqM r_6.1.1 (8 : Int)) (eqM r_6.1.2 (9 : Int))))
                                          (eqM r_6.2 (3 : Int)))
                                        r_7)
                                      r_8)
                                    (PE.notM r_9))
                                  r_10 then
                              m26F
                                (((100 : Int), [((1000 : Int), (2000 : Int), (2010 : Int))]), (1110 : Int), (2100 : Int))
                            else some false)
                            fun (r_11 : Bool) =>
                            some
                              (PE.andM
                                (PE.andM
                                  (PE.andM
                                    (PE.andM
                                      (PE.andM
                                        (PE.andM
                                          (PE.andM
                                            (PE.andM
                                              (PE.andM
                                                (PE.andM
                                                  (PE.andM
                                                    (PE.andM
                                                      (PE.andM
                                                        (PE.andM
                                                          (PE.andM (PE.andM (eqM r.1 (7 : Int)) (eqM r.2 (7 : Int)))
                                                            (eqM r_1.1 (0 : Int)))
                                                          (eqM r_1.2 (1 : Int)))
                                                        (eqM r_2.1 (100 : Int)))
                                                      (eqM r_2.2 (123 : Int)))
                                                    (PE.andM
                                                      (PE.andM
                                                        (PE.andM
                                                          (PE.andM
                                                            (PE.andM (eqM r_3.2.2 (0 : Int)) (eqM r_3.1 (2100 : Int)))
                                                            (eqM r_3.2.1 (2133 : Int)))
                                                          (eqM r_4.2.2 (0 : Int)))
                                                        (eqM r_4.1 (1877 : Int)))
                                                      (eqM r_4.2.1 (1910 : Int))))
                                                  (eqM r_5.2.2 (0 : Int)))
                                                (eqM r_5.1 (994 : Int)))
                                              (eqM r_5.2.1 (1006 : Int)))
                                            (PE.andM (eqM r_6.1.1 (8 : Int)) (eqM r_6.1.2 (9 : Int))))
                                          (eqM r_6.2 (3 : Int)))
                                        r_7)
                                      r_8)
                                    (PE.notM r_9))
                                  r_10)
                                (PE.notM r_11))
theorem le10 (x) : Le (m10F x) (m10 x) := by
  unfold m10F m10
  repeat' first | exact le11 _ | exact le13 _ | exact le17 _ | exact le20 _ | exact le22 _ | exact le24 _ | exact le26 _ | with_reducible exact Le.refl _ | intro _ | apply Le.bind | apply Le.cond | apply Le.loop | apply Le.elim
end Go.Proofs.Ytpledmmfkbcelaa
/-
  Clock: the self-test of the laws answers true.
  No conditions.
-/
namespace Go.Proofs.Ytpledmmfkbcelaa
open Go Go.Abs Go.PE
set_option maxRecDepth 100000 in
theorem saneF : m10F () = some true := by kernel_rfl
theorem sane_ok : m10 () = some true := (le10 ()).out saneF
end Go.Proofs.Ytpledmmfkbcelaa
/-
  Clock: the law ClockExact.
  No conditions.
-/
namespace Go.Proofs.Ytpledmmfkbcelaa
open Go Go.Abs Go.PE
set_option linter.unusedVariables false
theorem shi_le {d n : Int} (hd : 0 ≤ d ∧ d ≤ 100) (hn : 0 ≤ n ∧ n ≤ 10000000) : shi d n ≤ 11200000 := by
  have h0 := (shi_sz hd hn).1
  have h1 := (shi_iff (n := n) (x := shi d n) hd).1 (Int.le_refl _)
  have h2 : 900 * shi d n ≤ (1000 - d) * shi d n := Int.mul_le_mul_of_nonneg_right (by omega) h0
  omega
theorem eqb_true {a b : Bool} (h : a = b) : eqbM a b = true := decide_eq_true h
theorem law5_ok (x : Int × Int × Int × Int × Int) (h1 : i64 x.1) (h2 : i64 x.2.1) (h3 : i64 x.2.2.1) (h4 : i64 x.2.2.2.1) (h5 : i64 x.2.2.2.2) : m5 x = some true := by
  unfold m5
  refine bind_of sane_ok ?_
  rw [notT, cond_false]
  have p1 := pk_lo (c := x.1) (n := 101) (by omega)
  have p2 := pk_hi (c := x.1) (n := 101) (by omega)
  have p3 := pk_lo (c := x.2.2.1) (n := 10000001) (by omega)
  have p4 := pk_hi (c := x.2.2.1) (n := 10000001) (by omega)
  refine bind_of (m19_eq h1 (by omega)) (bind_of (m19_eq h3 (by omega)) ?_)
  generalize pk x.1 101 = d at *
  generalize pk x.2.2.1 10000001 = n at *
  rw [wrap_in (n := 10000001 - n) (by omega) (by omega)]
  have p5 := pk_lo (c := x.2.2.2.1) (n := 10000001 - n) (by omega)
  have p6 := pk_hi (c := x.2.2.2.1) (n := 10000001 - n) (by omega)
  refine bind_of (m19_eq h4 (by omega)) ?_
  generalize pk x.2.2.2.1 (10000001 - n) = m at *
  refine bind_of (spr_ok (by omega) (by omega)) ?_
  have hd : 0 ≤ d ∧ d ≤ 100 := by omega
  have q1 := (slo_sz hd (n := n) (by omega)).1
  have q2 := shi_le hd (n := n) (by omega)
  have q3 := slo_le_shi hd (n := n) (by omega)
  have hex := fun v (hv : 0 ≤ v) => fits_iff (n := n) hd (by omega) (x := v) hv
  have mono1 := slo_mono (n := n) (m := n + m) hd (by omega) (by omega)
  have mono2 := shi_mono (n := n) (m := n + m) hd (by omega)
  dsimp only
  rw [geI q1, orF, geI q3, orF, geI (by omega), cond_false]
  have p7 := pk_lo (c := x.2.2.2.2) (n := 20000000) (by omega)
  have p8 := pk_hi (c := x.2.2.2.2) (n := 20000000) (by omega)
  refine bind_of (m19_eq h5 (by omega)) ?_
  rw [wrap_in (n := shi d n - slo d n) (by omega) (by omega), wrap_in (n := shi d n - slo d n + 1) (by omega) (by omega)]
  have p9 := pk_lo (c := x.2.2.2.2) (n := shi d n - slo d n + 1) (by omega)
  have p10 := pk_hi (c := x.2.2.2.2) (n := shi d n - slo d n + 1) (by omega)
  refine bind_of (m19_eq h5 (by omega)) ?_
  rw [wrap_in (n := slo d n - 1) (by omega) (by omega), wrap_in (n := shi d n + 1) (by omega) (by omega), wrap_in (n := slo d n + pk x.2.2.2.2 (shi d n - slo d n + 1)) (by omega) (by omega)]
  have hall : ∀ v ∈ [slo d n - 1, slo d n, shi d n, shi d n + 1, pk x.2.2.2.2 20000000, slo d n + pk x.2.2.2.2 (shi d n - slo d n + 1)], -1 ≤ v ∧ v ≤ 40000000 := fun v hv => by
    simp only [List.mem_cons, List.not_mem_nil, or_false] at hv
    omega
  generalize hl : [slo d n - 1, slo d n, shi d n, shi d n + 1, pk x.2.2.2.2 20000000, slo d n + pk x.2.2.2.2 (shi d n - slo d n + 1)] = l at hall ⊢
  have hlen : l.length = 6 := by rw [← hl]; rfl
  refine bind_of (x := Sum.inl ()) (loopM_is (fun k s => s = (k : Int)) 6 rfl fun k s hk hs => ?_) ?_
  · subst hs
    by_cases hlt : k < 6
    · have hkl : k < l.length := by omega
      refine .inl ⟨((k + 1 : Nat) : Int), hlt, ?_, rfl⟩
      rw [ltI (a := (k : Int)) (b := lenM l) (by show (k : Int) < (l.length : Int); omega), cond_true, idxM_lt hkl, Option.bind_some]
      have hv := hall _ (List.getElem_mem hkl)
      generalize l[k] = v at hv ⊢
      have ek : IntKind.wrap IntKind.i64 ((k : Int) + 1) = ((k + 1 : Nat) : Int) := by rw [wrap_in (by omega) (by omega)]; rfl
      rw [ek, wrap_in (n := 1000 - d) (by omega) (by omega), wrap_in (n := 1000 + d) (by omega) (by omega), wrap_in (n := 1000 * n) (by omega) (by omega)]
      by_cases h0 : 0 ≤ v
      · have b1 : 0 ≤ (1000 - d) * v := Int.mul_nonneg (by omega) h0
        have b2 : (1000 - d) * v ≤ 1000 * v := Int.mul_le_mul_of_nonneg_right (by omega) h0
        have b3 : 0 ≤ (1000 + d) * v := Int.mul_nonneg (by omega) h0
        have b4 : (1000 + d) * v ≤ 1100 * v := Int.mul_le_mul_of_nonneg_right (by omega) h0
        have hf := hex v h0
        unfold fits at hf
        rw [leI h0, cond_true, Option.bind_some, andT, wrap_in (n := (1000 - d) * v) (by omega) (by omega), wrap_in (n := (1000 - d) * v - 1000) (by omega) (by omega)]
        by_cases c1 : (1000 - d) * v - 1000 < 1000 * n
        · rw [ltI c1, cond_true, Option.bind_some, Option.bind_some, andT, wrap_in (n := (1000 + d) * v) (by omega) (by omega), wrap_in (n := (1000 + d) * v + 1000) (by omega) (by omega)]
          by_cases c3 : slo d n ≤ v
          · rw [leI c3, cond_true, Option.bind_some, andT]
            have : eqbM (ltM (1000 * n) ((1000 + d) * v + 1000)) (leM v (shi d n)) = true := by
              refine eqb_true ?_
              rw [Bool.eq_iff_iff, decide_eq_true_eq, decide_eq_true_eq]
              omega
            rw [this, notT, cond_false]
          · rw [gtI (by omega), cond_false, Option.bind_some, andF]
            have : ltM (1000 * n) ((1000 + d) * v + 1000) = false := decide_eq_false (by omega)
            rw [this]
            rfl
        · rw [geI (by omega), cond_false, Option.bind_some, Option.bind_some, andF]
          by_cases c3 : slo d n ≤ v
          · rw [leI c3, cond_true, Option.bind_some, andT]
            have : leM v (shi d n) = false := decide_eq_false (by omega)
            rw [this]
            rfl
          · rw [gtI (by omega), cond_false, Option.bind_some, andF]
            rfl
      · rw [gtI (by omega), cond_false, Option.bind_some, andF, cond_false, Option.bind_some, Option.bind_some, andF, gtI (by omega), cond_false, Option.bind_some, andF]
        rfl
    · refine .inr ?_
      have e : k = 6 := by omega
      rw [e, geI (by show (l.length : Int) ≤ ((6 : Nat) : Int); omega), cond_false]
  · show Option.bind (m11 (0, n)) _ = _
    refine bind_of (spr_ok (by omega) (by omega)) ?_
    rw [wrap_in (n := n + m) (by omega) (by omega)]
    refine bind_of (spr_ok (by omega) (by omega)) ?_
    rw [wrap_in (n := 101 - d) (by omega) (by omega)]
    have p11 := pk_lo (c := x.2.1) (n := 101 - d) (by omega)
    have p12 := pk_hi (c := x.2.1) (n := 101 - d) (by omega)
    refine bind_of (m19_eq h2 (by omega)) ?_
    rw [wrap_in (n := d + pk x.2.1 (101 - d)) (by omega) (by omega)]
    refine bind_of (spr_ok (by omega) (by omega)) ?_
    have w1 := slo_anti (d := d) (e := d + pk x.2.1 (101 - d)) (n := n) (by omega) (by omega) (by omega)
    have w2 := shi_wide (d := d) (e := d + pk x.2.1 (101 - d)) (n := n) (by omega) (by omega) (by omega)
    dsimp only
    rw [eqI (slo_zero (by omega)), eqI (shi_zero (by omega)), leI mono1, leI mono2, leI w1, leI w2]
    rfl
end Go.Proofs.Ytpledmmfkbcelaa
/-
  Clock: the plain law of ClockExact, as the frame asks for it.
  No conditions.
-/
namespace Go.Proofs.Ytpledmmfkbcelaa
open Go Go.Abs Go.PE
theorem law5 : ∀ (S : Cells) (w : World) (η : Eta) (vs : List Value) x, All2 (RM S w η) (rvs as5 x) vs → m5 x = some true :=
  law_of_ok fun x h => law5_ok x h.1 h.2.1 h.2.2.1 h.2.2.2.1 h.2.2.2.2
end Go.Proofs.Ytpledmmfkbcelaa
