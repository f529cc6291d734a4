/-
  Texts of this proof, put together: 5a, 5c, 5d, F, 5s, 5e, 5g, 5h, 5i, 5j, 5k, LawClockMatchesReference.
  No conditions.
-/
import Derived.Test.YtpledmmfkbcelaaZ4
set_option linter.all false
/-
  Clock: Spread; exactness of its bounds.
  No conditions.
-/
namespace Go.Proofs.Ytpledmmfkbcelaa
open Go Go.Abs Go.PE
set_option linter.unusedVariables false
def i64 (n : Int) : Prop := -9223372036854775808 ≤ n ∧ n ≤ 9223372036854775807
/-- The least number of true seconds in which the clock advances by n; the greatest. -/
def slo (d n : Int) : Int := if 0 < n then 1000 * (n - 1) / (1000 + d) + 1 else 0
def shi (d n : Int) : Int := (1000 * (n + 1) - 1) / (1000 - d)
theorem ediv_sz {a b : Int} (ha : 0 ≤ a) (hb : 0 < b) : 0 ≤ a / b ∧ a / b ≤ a := ⟨Int.ediv_nonneg ha (by omega), Int.ediv_le_self _ ha⟩
theorem divM_of {a b : Int} (ha : 0 ≤ a) (ha2 : a ≤ 1000000000000000000) (hb : 0 < b) : divM IntKind.i64 a b = some (a / b) := by
  have h := ediv_sz ha hb
  rw [divM_pos (by omega), Int.tdiv_eq_ediv_of_nonneg ha, wrap_in (by omega) (by omega)]
theorem slo_sz {d n : Int} (hd : 0 ≤ d ∧ d ≤ 100) (hn : 0 ≤ n ∧ n ≤ 10000000) : 0 ≤ slo d n ∧ slo d n ≤ 10000000001 := by
  unfold slo
  split
  · have := ediv_sz (a := 1000 * (n - 1)) (b := 1000 + d) (by omega) (by omega)
    omega
  · omega
theorem shi_sz {d n : Int} (hd : 0 ≤ d ∧ d ≤ 100) (hn : 0 ≤ n ∧ n ≤ 10000000) : 0 ≤ shi d n ∧ shi d n ≤ 10000001000 := by
  unfold shi
  have := ediv_sz (a := 1000 * (n + 1) - 1) (b := 1000 - d) (by omega) (by omega)
  omega
theorem spr_ok {d n : Int} (hd : 0 ≤ d ∧ d ≤ 100) (hn : 0 ≤ n ∧ n ≤ 10000000) : m11 (d, n) = some (slo d n, shi d n) := by
  unfold m11
  dsimp only
  rw [geI (by omega), geI (a := 100) (b := d) (by omega), geI (a := n) (b := 0) (by omega), geI (a := 10000000) (b := n) (by omega)]
  show Option.bind (bif ltM 0 n then _ else some 0) _ = _
  have e2 : ∀ o : Int, Option.bind (divM IntKind.i64 (IntKind.wrap IntKind.i64 (IntKind.wrap IntKind.i64 ((1000 : Int) * IntKind.wrap IntKind.i64 (n + (1 : Int))) - (1 : Int))) (IntKind.wrap IntKind.i64 ((1000 : Int) - d))) (fun (r : Int) => some (o, r)) = some (o, shi d n) := fun o => by
    rw [wrap_in (n := n + 1) (by omega) (by omega), wrap_in (n := 1000 * (n + 1)) (by omega) (by omega), wrap_in (n := 1000 * (n + 1) - 1) (by omega) (by omega), wrap_in (n := 1000 - d) (by omega) (by omega), divM_of (by omega) (by omega) (by omega)]
    rfl
  by_cases h : 0 < n
  · have h2 := ediv_sz (a := 1000 * (n - 1)) (b := 1000 + d) (by omega) (by omega)
    rw [ltI h, cond_true, wrap_in (n := n - 1) (by omega) (by omega), wrap_in (n := 1000 * (n - 1)) (by omega) (by omega), wrap_in (n := 1000 + d) (by omega) (by omega), divM_of (by omega) (by omega) (by omega), Option.bind_some, wrap_in (by omega) (by omega), Option.bind_some, e2]
    unfold slo
    rw [if_pos h]
  · rw [geI (by omega), cond_false, Option.bind_some, e2]
    unfold slo
    rw [if_neg h]
theorem spr_out {d n : Int} (h : ¬ (0 ≤ d ∧ d ≤ 100 ∧ 0 ≤ n ∧ n ≤ 10000000)) : m11 (d, n) = some (0, 0) := by
  unfold m11
  dsimp only
  have e : PE.orM (PE.orM (PE.orM (ltM d (0 : Int)) (ltM (100 : Int) d)) (ltM n (0 : Int))) (ltM (10000000 : Int) n) = true := by
    unfold PE.orM
    simp only [Bool.or_eq_true, decide_eq_true_eq]
    omega
  rw [e, cond_true]
/-- The inequality of a course. -/
def fits (d x n : Int) : Prop := (1000 - d) * x - 1000 < 1000 * n ∧ 1000 * n < (1000 + d) * x + 1000
theorem slo_iff {d n x : Int} (hd : 0 ≤ d ∧ d ≤ 100) (hn : 0 ≤ n) (hx : 0 ≤ x) : slo d n ≤ x ↔ 1000 * n < (1000 + d) * x + 1000 := by
  unfold slo
  by_cases h : 0 < n
  · rw [if_pos h]
    have h1 : 1000 * (n - 1) / (1000 + d) < x ↔ 1000 * (n - 1) < x * (1000 + d) := Int.ediv_lt_iff_lt_mul (by omega)
    rw [Int.mul_comm x] at h1
    constructor
    · intro h2
      have := h1.1 (by omega)
      omega
    · intro h2
      have := h1.2 (by omega)
      omega
  · rw [if_neg h]
    have : 0 ≤ (1000 + d) * x := Int.mul_nonneg (by omega) hx
    constructor
    · intro _; omega
    · intro _; exact hx
theorem shi_iff {d n x : Int} (hd : 0 ≤ d ∧ d ≤ 100) : x ≤ shi d n ↔ (1000 - d) * x - 1000 < 1000 * n := by
  unfold shi
  have h1 : x ≤ (1000 * (n + 1) - 1) / (1000 - d) ↔ x * (1000 - d) ≤ 1000 * (n + 1) - 1 := Int.le_ediv_iff_mul_le (by omega)
  rw [h1, Int.mul_comm x]
  constructor
  · intro _; omega
  · intro _; omega
/-- The bounds of Spread are exact. -/
theorem fits_iff {d n x : Int} (hd : 0 ≤ d ∧ d ≤ 100) (hn : 0 ≤ n) (hx : 0 ≤ x) : fits d x n ↔ slo d n ≤ x ∧ x ≤ shi d n := by
  unfold fits
  rw [slo_iff hd hn hx, shi_iff hd]
  exact And.comm
theorem slo_mono {d n m : Int} (hd : 0 ≤ d ∧ d ≤ 100) (hn : 0 ≤ n) (h : n ≤ m) : slo d n ≤ slo d m := by
  have h0 : 0 ≤ slo d m := by
    unfold slo
    split
    · have := Int.ediv_nonneg (a := 1000 * (m - 1)) (b := 1000 + d) (by omega) (by omega); omega
    · omega
  refine (slo_iff hd hn h0).2 ?_
  have := (slo_iff hd (by omega : (0 : Int) ≤ m) h0).1 (Int.le_refl _)
  omega
theorem shi_mono {d n m : Int} (hd : 0 ≤ d ∧ d ≤ 100) (h : n ≤ m) : shi d n ≤ shi d m := by
  refine (shi_iff hd).2 ?_
  have := (shi_iff (n := n) hd).1 (Int.le_refl _)
  omega
theorem slo_anti {d e n : Int} (hd : 0 ≤ d) (he : d ≤ e ∧ e ≤ 100) (hn : 0 ≤ n) : slo e n ≤ slo d n := by
  have h0 : 0 ≤ slo d n := by
    unfold slo
    split
    · have := Int.ediv_nonneg (a := 1000 * (n - 1)) (b := 1000 + d) (by omega) (by omega); omega
    · omega
  refine (slo_iff (by omega) hn h0).2 ?_
  have h1 := (slo_iff (x := slo d n) (by omega : 0 ≤ d ∧ d ≤ 100) hn h0).1 (Int.le_refl _)
  have h2 : (1000 + d) * slo d n ≤ (1000 + e) * slo d n := Int.mul_le_mul_of_nonneg_right (by omega) h0
  omega
theorem shi_wide {d e n : Int} (hd : 0 ≤ d) (he : d ≤ e ∧ e ≤ 100) (hn : 0 ≤ n) : shi d n ≤ shi e n := by
  have h0 : 0 ≤ shi d n := Int.ediv_nonneg (by omega) (by omega)
  refine (shi_iff (by omega)).2 ?_
  have h1 := (shi_iff (n := n) (x := shi d n) (by omega : 0 ≤ d ∧ d ≤ 100)).1 (Int.le_refl _)
  have h2 : (1000 - e) * shi d n ≤ (1000 - d) * shi d n := Int.mul_le_mul_of_nonneg_right (by omega) h0
  omega
theorem slo_le_shi {d n : Int} (hd : 0 ≤ d ∧ d ≤ 100) (hn : 0 ≤ n) : slo d n ≤ shi d n := by
  have h0 : 0 ≤ shi d n := Int.ediv_nonneg (by omega) (by omega)
  refine (slo_iff hd hn h0).2 ?_
  have h1 : (1000 * (n + 1) - 1) < ((1000 * (n + 1) - 1) / (1000 - d) + 1) * (1000 - d) := Int.lt_ediv_add_one_mul_self _ (by omega)
  have h2 : (shi d n + 1) * (1000 - d) = (1000 - d) * shi d n + (1000 - d) := by rw [Int.add_mul, Int.one_mul, Int.mul_comm]
  have h3 : (shi d n + 1) * (1000 - d) > 1000 * (n + 1) - 1 := h1
  have h4 : (1000 - d) * shi d n ≤ (1000 + d) * shi d n := Int.mul_le_mul_of_nonneg_right (by omega) h0
  omega
theorem slo_zero {n : Int} (hn : 0 ≤ n) : slo 0 n = n := by
  unfold slo
  split
  · rw [show (1000 : Int) + 0 = 1000 by rfl, Int.mul_ediv_cancel_left _ (by decide)]; omega
  · omega
theorem shi_zero {n : Int} (hn : 0 ≤ n) : shi 0 n = n := by
  refine Int.le_antisymm ?_ ((shi_iff (by omega)).2 (by omega))
  have := (shi_iff (d := 0) (n := n) (x := shi 0 n) (by omega)).1 (Int.le_refl _)
  omega
theorem m19_eq {c n : Int} (hc : i64 c) (hn : 0 < n) : m19 (c, n) = some (pk c n) := pk_text hc hn
theorem m35_eq {c n : Int} (hc : i64 c) (hn : 0 < n) : m35 (c, n) = some (pk c n) := pk_text hc hn
theorem i64_mem {xs : List Int} (h : InR (.list tI) xs) : ∀ v ∈ xs, i64 v := fun v hv => by
  obtain ⟨i, hi, rfl⟩ := List.mem_iff_getElem.1 hv
  exact h.2 i _ (List.getElem?_eq_getElem hi)
end Go.Proofs.Ytpledmmfkbcelaa
/-
  Clock: Valid, At, Reads as the model computes them.
  No conditions.
-/
namespace Go.Proofs.Ytpledmmfkbcelaa
open Go Go.Abs Go.PE
set_option linter.unusedVariables false
abbrev Rd := Int × Int × Int
abbrev Clk := Int × List Rd
/-- Readings that ascend from a local second on. -/
def vldR : Int → List Rd → Bool
  | _, [] => true
  | last, r :: l => decide (last < r.1 ∧ r.1 ≤ 10000000 ∧ 0 ≤ r.2.1 ∧ r.2.1 ≤ r.2.2 ∧ r.2.2 ≤ 10000000) && vldR r.1 l
def vld (x : Clk) : Bool := decide (0 ≤ x.1 ∧ x.1 ≤ 100 ∧ x.2.length ≤ 12) && vldR (-1) x.2
theorem m17_eq (x : Clk) : m17 x = some (vld x) := by
  unfold m17 vld
  by_cases h : 0 ≤ x.1 ∧ x.1 ≤ 100 ∧ x.2.length ≤ 12
  · obtain ⟨h0, h1, h2⟩ := h
    rw [geI h0, geI h1, geI (a := 12) (b := lenM x.2) (by show (x.2.length : Int) ≤ 12; omega), decide_eq_true ⟨h0, h1, h2⟩, Bool.true_and]
    show Option.bind (loopM _ _) _ = _
    have key : ∀ (body : Int × Int → Option ((Int × Int) ⊕ (Unit ⊕ Bool))), (body = fun (s : Int × Int) =>
            bif ltM s.2 (lenM x.2) then
              Option.bind (idxM x.2 s.2) fun (r : Int × Int × Int) =>
                bif
                    PE.orM
                      (PE.orM (PE.orM (PE.orM (leM r.1 s.1) (ltM (10000000 : Int) r.1)) (ltM r.2.1 (0 : Int)))
                        (ltM r.2.2 r.2.1))
                      (ltM (10000000 : Int) r.2.2) then
                  some (Sum.inr (Sum.inr false))
                else some (Sum.inl (r.1, IntKind.wrap IntKind.i64 (s.2 + (1 : Int))))
            else some (Sum.inr (Sum.inl ()))) → ∀ (d k : Nat) (last : Int), k + d = x.2.length → loopM body (last, (k : Int)) = some (bif vldR last (x.2.drop k) then .inl () else .inr false) := by
      intro body hbody d
      induction d with
      | zero =>
        intro k last hk
        have hstep : body (last, (k : Int)) = some (.inr (.inl ())) := by
          rw [hbody]
          dsimp only
          rw [geI (by show (x.2.length : Int) ≤ (k : Int); omega), cond_false]
        rw [loopM_eq, hstep, List.drop_eq_nil_of_le (by omega)]
        rfl
      | succ d ih =>
        intro k last hk
        have hkl : k < x.2.length := by omega
        rw [List.drop_eq_getElem_cons hkl]
        unfold vldR
        rw [loopM_eq]
        have e : PE.orM (PE.orM (PE.orM (PE.orM (leM x.2[k].1 last) (ltM (10000000 : Int) x.2[k].1)) (ltM x.2[k].2.1 (0 : Int))) (ltM x.2[k].2.2 x.2[k].2.1)) (ltM (10000000 : Int) x.2[k].2.2) = !decide (last < x.2[k].1 ∧ x.2[k].1 ≤ 10000000 ∧ 0 ≤ x.2[k].2.1 ∧ x.2[k].2.1 ≤ x.2[k].2.2 ∧ x.2[k].2.2 ≤ 10000000) := by
          unfold PE.orM
          rw [Bool.eq_iff_iff]
          simp only [Bool.or_eq_true, decide_eq_true_eq, Bool.not_eq_true', decide_eq_false_iff_not]
          omega
        cases hc : decide (last < x.2[k].1 ∧ x.2[k].1 ≤ 10000000 ∧ 0 ≤ x.2[k].2.1 ∧ x.2[k].2.1 ≤ x.2[k].2.2 ∧ x.2[k].2.2 ≤ 10000000) with
        | false =>
          have hstep : body (last, (k : Int)) = some (.inr (.inr false)) := by
            rw [hbody]
            dsimp only
            rw [ltI (by show (k : Int) < (x.2.length : Int); omega), cond_true, idxM_lt hkl, Option.bind_some, e, hc]
            rfl
          rw [hstep]
          rfl
        | true =>
          have hstep : body (last, (k : Int)) = some (.inl (x.2[k].1, ((k + 1 : Nat) : Int))) := by
            rw [hbody]
            dsimp only
            rw [ltI (by show (k : Int) < (x.2.length : Int); omega), cond_true, idxM_lt hkl, Option.bind_some, e, hc, wrap_in (by omega) (by omega)]
            rfl
          rw [hstep]
          show loopM body _ = _
          rw [ih (k + 1) x.2[k].1 (by omega)]
          rfl
    refine bind_of (key _ rfl x.2.length 0 (-1) (by omega)) ?_
    rw [List.drop_zero]
    cases vldR (-1) x.2 <;> rfl
  · have e : PE.orM (PE.orM (ltM x.1 (0 : Int)) (ltM (100 : Int) x.1)) (ltM (12 : Int) (lenM x.2)) = true := by
      unfold PE.orM
      simp only [Bool.or_eq_true, decide_eq_true_eq]
      show (x.1 < 0 ∨ 100 < x.1) ∨ 12 < (x.2.length : Int)
      omega
    rw [e, decide_eq_false h]
    rfl
theorem vldR_mem : ∀ {l : List Rd} {last : Int}, vldR last l = true → ∀ r ∈ l, last < r.1 ∧ r.1 ≤ 10000000 ∧ 0 ≤ r.2.1 ∧ r.2.1 ≤ r.2.2 ∧ r.2.2 ≤ 10000000
  | [], _, _, r, h => by cases h
  | x :: l, last, h, r, hr => by
    unfold vldR at h
    rw [Bool.and_eq_true] at h
    have h1 := of_decide_eq_true h.1
    rcases List.mem_cons.1 hr with rfl | hr
    · exact h1
    · have := vldR_mem h.2 r hr
      omega
structure Vld (x : Clk) : Prop where
  d : 0 ≤ x.1 ∧ x.1 ≤ 100
  len : x.2.length ≤ 12
  mem : ∀ r ∈ x.2, 0 ≤ r.1 ∧ r.1 ≤ 10000000 ∧ 0 ≤ r.2.1 ∧ r.2.1 ≤ r.2.2 ∧ r.2.2 ≤ 10000000
theorem vld_of {x : Clk} (h : vld x = true) : Vld x := by
  unfold vld at h
  rw [Bool.and_eq_true] at h
  have h1 := of_decide_eq_true h.1
  exact ⟨⟨h1.1, h1.2.1⟩, h1.2.2, fun r hr => by have := vldR_mem h.2 r hr; omega⟩
/-! ### around -/
def hL (d k : Int) : Int := if 0 < k then slo d k else - shi d (-k)
def gH (d k : Int) : Int := if k < 0 then - slo d (-k) else shi d k
def lowOf (d l : Int) (rs : List Rd) : Int := rs.foldl (fun a r => max a (r.2.1 + hL d (l - r.1))) 0
def highOf (d l : Int) (rs : List Rd) : Int := rs.foldl (fun a r => min a (r.2.2 + gH d (l - r.1))) 10000000
theorem hL_sz {d k : Int} (hd : 0 ≤ d ∧ d ≤ 100) (hk : -10000000 ≤ k ∧ k ≤ 10000000) : -20000000000 ≤ hL d k ∧ hL d k ≤ 20000000000 := by
  unfold hL
  split
  · have := slo_sz hd (n := k) (by omega); omega
  · have := shi_sz hd (n := -k) (by omega); omega
theorem gH_sz {d k : Int} (hd : 0 ≤ d ∧ d ≤ 100) (hk : -10000000 ≤ k ∧ k ≤ 10000000) : -20000000000 ≤ gH d k ∧ gH d k ≤ 20000000000 := by
  unfold gH
  split
  · have := slo_sz hd (n := -k) (by omega); omega
  · have := shi_sz hd (n := k) (by omega); omega
theorem hL_mono {d k k' : Int} (hd : 0 ≤ d ∧ d ≤ 100) (h : k ≤ k') : hL d k ≤ hL d k' := by
  unfold hL
  by_cases h1 : 0 < k
  · rw [if_pos h1, if_pos (by omega)]
    exact slo_mono hd (by omega) h
  · rw [if_neg h1]
    by_cases h2 : 0 < k'
    · rw [if_pos h2]
      have e1 : 0 ≤ shi d (-k) := Int.ediv_nonneg (by omega) (by omega)
      have e2 : 0 ≤ slo d k' := by
        unfold slo
        rw [if_pos h2]
        have := Int.ediv_nonneg (a := 1000 * (k' - 1)) (b := 1000 + d) (by omega) (by omega); omega
      omega
    · rw [if_neg h2]
      have := shi_mono (n := -k') (m := -k) hd (by omega)
      omega
theorem gH_mono {d k k' : Int} (hd : 0 ≤ d ∧ d ≤ 100) (h : k ≤ k') : gH d k ≤ gH d k' := by
  unfold gH
  by_cases h1 : k' < 0
  · rw [if_pos h1, if_pos (by omega)]
    have := slo_mono (n := -k') (m := -k) hd (by omega) (by omega)
    omega
  · rw [if_neg h1]
    by_cases h2 : k < 0
    · rw [if_pos h2]
      have e1 : 0 ≤ shi d k' := Int.ediv_nonneg (by omega) (by omega)
      have e2 : 0 ≤ slo d (-k) := by
        unfold slo
        rw [if_pos (by omega)]
        have := Int.ediv_nonneg (a := 1000 * (-k - 1)) (b := 1000 + d) (by omega) (by omega); omega
      omega
    · rw [if_neg h2]
      exact shi_mono hd h
theorem lowF_le (d l : Int) : ∀ (rs : List Rd) (a t : Int), rs.foldl (fun a r => max a (r.2.1 + hL d (l - r.1))) a ≤ t ↔ a ≤ t ∧ ∀ r ∈ rs, r.2.1 + hL d (l - r.1) ≤ t
  | [], a, t => by simp
  | r :: rs, a, t => by
    rw [List.foldl_cons, lowF_le d l rs]
    simp only [List.mem_cons]
    constructor
    · intro ⟨h1, h2⟩
      refine ⟨by omega, fun r' hr => ?_⟩
      rcases hr with rfl | hr
      · omega
      · exact h2 r' hr
    · intro ⟨h1, h2⟩
      have := h2 r (.inl rfl)
      exact ⟨by omega, fun r' hr => h2 r' (.inr hr)⟩
theorem low_le {d l : Int} {rs : List Rd} {t : Int} : lowOf d l rs ≤ t ↔ 0 ≤ t ∧ ∀ r ∈ rs, r.2.1 + hL d (l - r.1) ≤ t := lowF_le d l rs 0 t
theorem highF_ge (d l : Int) : ∀ (rs : List Rd) (a t : Int), t ≤ rs.foldl (fun a r => min a (r.2.2 + gH d (l - r.1))) a ↔ t ≤ a ∧ ∀ r ∈ rs, t ≤ r.2.2 + gH d (l - r.1)
  | [], a, t => by simp
  | r :: rs, a, t => by
    rw [List.foldl_cons, highF_ge d l rs]
    simp only [List.mem_cons]
    constructor
    · intro ⟨h1, h2⟩
      refine ⟨by omega, fun r' hr => ?_⟩
      rcases hr with rfl | hr
      · omega
      · exact h2 r' hr
    · intro ⟨h1, h2⟩
      have := h2 r (.inl rfl)
      exact ⟨by omega, fun r' hr => h2 r' (.inr hr)⟩
theorem high_ge {d l : Int} {rs : List Rd} {t : Int} : t ≤ highOf d l rs ↔ t ≤ 10000000 ∧ ∀ r ∈ rs, t ≤ r.2.2 + gH d (l - r.1) := highF_ge d l rs 10000000 t
theorem low_mono {d l l' : Int} {rs : List Rd} (hd : 0 ≤ d ∧ d ≤ 100) (h : l ≤ l') : lowOf d l rs ≤ lowOf d l' rs := by
  have h1 := low_le.1 (Int.le_refl (lowOf d l' rs))
  exact low_le.2 ⟨h1.1, fun r hr => by have := h1.2 r hr; have := hL_mono (k := l - r.1) (k' := l' - r.1) hd (by omega); omega⟩
theorem high_mono {d l l' : Int} {rs : List Rd} (hd : 0 ≤ d ∧ d ≤ 100) (h : l ≤ l') : highOf d l rs ≤ highOf d l' rs := by
  have h1 := high_ge.1 (Int.le_refl (highOf d l rs))
  exact high_ge.2 ⟨h1.1, fun r hr => by have := h1.2 r hr; have := gH_mono (k := l - r.1) (k' := l' - r.1) hd (by omega); omega⟩
theorem around_eq {x : Clk} (hx : Vld x) {l : Int} (hl : 0 ≤ l ∧ l ≤ 10000000) : m36 (x, l) = some (lowOf x.1 l x.2, highOf x.1 l x.2) := by
  unfold m36
  dsimp only
  have hlen := hx.len
  refine bind_of (x := (lowOf x.1 l x.2, highOf x.1 l x.2)) (count_loop (fun k => (lowOf x.1 l (x.2.take k), highOf x.1 l (x.2.take k))) x.2.length (fun k hk => ?_) ?_) rfl
  · have hm := hx.mem _ (List.getElem_mem hk)
    have t1 : ∀ {β : Type} (f : β → Rd → β) (z : β), (x.2.take (k + 1)).foldl f z = f ((x.2.take k).foldl f z) x.2[k] := fun f z => by
      rw [List.take_succ_eq_append_getElem hk, List.foldl_append]; rfl
    unfold lowOf highOf
    rw [t1, t1]
    dsimp only
    have s1 := hL_sz hx.d (k := l - x.2[k].1) (by omega)
    have s2 := gH_sz hx.d (k := l - x.2[k].1) (by omega)
    rw [ltI (by show (k : Int) < (x.2.length : Int); omega), cond_true, idxM_lt hk, Option.bind_some, wrap_in (n := l - x.2[k].1) (by omega) (by omega), wrap_in (n := x.2[k].1 - l) (by omega) (by omega), spr_ok hx.d (by omega), Option.bind_some]
    dsimp only
    have ek : IntKind.wrap IntKind.i64 ((k : Int) + 1) = (k : Int) + 1 := wrap_in (by omega) (by omega)
    rw [ek]
    unfold PE.negM
    by_cases h1 : l < x.2[k].1
    · have e : max (l - x.2[k].1) (x.2[k].1 - l) = -(l - x.2[k].1) := by omega
      have eL : hL x.1 (l - x.2[k].1) = - shi x.1 (-(l - x.2[k].1)) := if_neg (by omega)
      have eG : gH x.1 (l - x.2[k].1) = - slo x.1 (-(l - x.2[k].1)) := if_pos (by omega)
      rw [eL] at s1 ⊢
      rw [eG] at s2 ⊢
      rw [ltI h1, cond_true, Option.bind_some, e, wrap_in (n := - shi x.1 (-(l - x.2[k].1))) (by omega) (by omega), wrap_in (n := - slo x.1 (-(l - x.2[k].1))) (by omega) (by omega), wrap_in (n := x.2[k].2.1 + - shi x.1 (-(l - x.2[k].1))) (by omega) (by omega), wrap_in (n := x.2[k].2.2 + - slo x.1 (-(l - x.2[k].1))) (by omega) (by omega)]
    · rw [geI (by omega), cond_false]
      have eG : gH x.1 (l - x.2[k].1) = shi x.1 (l - x.2[k].1) := if_neg (by omega)
      rw [eG] at s2 ⊢
      by_cases h2 : l = x.2[k].1
      · have e : max (l - x.2[k].1) (x.2[k].1 - l) = l - x.2[k].1 := by omega
        have e0 : -(l - x.2[k].1) = l - x.2[k].1 := by omega
        have eL : hL x.1 (l - x.2[k].1) = - shi x.1 (-(l - x.2[k].1)) := if_neg (by omega)
        rw [eL, e0] at s1
        rw [eL, e0]
        rw [eqI h2, cond_true, Option.bind_some, e, wrap_in (n := - shi x.1 (l - x.2[k].1)) (by omega) (by omega), wrap_in (n := x.2[k].2.1 + - shi x.1 (l - x.2[k].1)) (by omega) (by omega), wrap_in (n := x.2[k].2.2 + shi x.1 (l - x.2[k].1)) (by omega) (by omega)]
      · have e : max (l - x.2[k].1) (x.2[k].1 - l) = l - x.2[k].1 := by omega
        have eL : hL x.1 (l - x.2[k].1) = slo x.1 (l - x.2[k].1) := if_pos (by omega)
        rw [eL] at s1 ⊢
        rw [neI h2, cond_false, Option.bind_some, e, wrap_in (n := x.2[k].2.1 + slo x.1 (l - x.2[k].1)) (by omega) (by omega), wrap_in (n := x.2[k].2.2 + shi x.1 (l - x.2[k].1)) (by omega) (by omega)]
  · dsimp only
    rw [geI (Int.le_refl _), cond_false, List.take_length]
/-- What At returns. -/
def atR (x : Clk) (l : Int) : Int × Int × Int := bif vld x && decide (0 ≤ l ∧ l ≤ 10000000 ∧ lowOf x.1 l x.2 ≤ highOf x.1 l x.2) then (lowOf x.1 l x.2, highOf x.1 l x.2, 0) else (0, 0, 50)
theorem m20_eq (x : Clk) (l : Int) : m20 (x, l) = some (atR x l) := by
  unfold m20 atR
  dsimp only
  rw [show (x.1, x.2) = x from rfl, m17_eq, Option.bind_some]
  cases hv : vld x with
  | false => rfl
  | true =>
    rw [notT, orF, Bool.true_and]
    by_cases h : 0 ≤ l ∧ l ≤ 10000000
    · rw [geI h.1, geI h.2, orF, cond_false, around_eq (vld_of hv) h, Option.bind_some]
      dsimp only
      by_cases h2 : lowOf x.1 l x.2 ≤ highOf x.1 l x.2
      · rw [geI h2, cond_false, decide_eq_true ⟨h.1, h.2, h2⟩]; rfl
      · rw [ltI (by omega), cond_true, decide_eq_false (by omega)]; rfl
    · have e : PE.orM (ltM l 0) (ltM 10000000 l) = true := by
        unfold PE.orM
        simp only [Bool.or_eq_true, decide_eq_true_eq]
        omega
      rw [e, cond_true, decide_eq_false (by omega)]; rfl
/-! ### Reads -/
theorem half_eq {i j : Int} (hi : 0 ≤ i) (hj : 0 ≤ j) (h : i + j ≤ 1000000000) : shrM IntKind.u64 (IntKind.wrap IntKind.u64 (IntKind.wrap IntKind.i64 (i + j))) 1 = some ((i + j) / 2) := by
  have h2 : IntKind.wrap IntKind.u64 (i + j) = i + j := has_wrap (has_u64.2 (by omega))
  rw [wrap_in (n := i + j) (by omega) (by omega), h2]
  unfold shrM
  rw [decide_eq_false (by omega)]
  show some ((i + j).fdiv 2) = _
  rw [Int.fdiv_eq_ediv_of_nonneg _ (by omega)]
/-- A search by halving. -/
theorem search_loop {N : Nat} {p : Int → Bool} (hN : N ≤ 100000000) (mono : ∀ a b : Int, 0 ≤ a → a ≤ b → b < N → p a = true → p b = true) {body : Int × Int → Option ((Int × Int) ⊕ Int)}
    (h1 : ∀ i j : Int, 0 ≤ i → i < j → j ≤ N → body (i, j) = some (.inl (bif p ((i + j) / 2) then (i, (i + j) / 2) else ((i + j) / 2 + 1, j)))) (h2 : ∀ i : Int, body (i, i) = some (.inr i)) :
    ∃ r, loopM body (0, (N : Int)) = some r ∧ 0 ≤ r ∧ r ≤ N ∧ ∀ a : Int, 0 ≤ a → a < N → (r ≤ a ↔ p a = true) := by
  obtain ⟨r, e, q⟩ := loopM_from (body := body) (fun k s => 0 ≤ s.1 ∧ s.1 ≤ s.2 ∧ s.2 ≤ N ∧ s.2 - s.1 ≤ N - k ∧ (∀ a : Int, 0 ≤ a → a < s.1 → p a = false) ∧ ∀ a : Int, s.2 ≤ a → a < N → p a = true)
    (fun r => 0 ≤ r ∧ r ≤ N ∧ ∀ a : Int, 0 ≤ a → a < N → (r ≤ a ↔ p a = true)) N (s := (0, (N : Int))) ⟨by omega, by show (0 : Int) ≤ N; omega, Int.le_refl _, by show (N : Int) - 0 ≤ N - ((0 : Nat) : Int); omega, fun a h0 h => by have h : a < 0 := h; omega, fun a h h0 => by have h : (N : Int) ≤ a := h; omega⟩ fun k s hk hs => by
    obtain ⟨i, j⟩ := s
    obtain ⟨g1, g2, g3, g4, g5, g6⟩ := hs
    simp only at g1 g2 g3 g4 g5 g6
    by_cases hij : i < j
    · refine .inl ⟨_, ?_, h1 i j g1 hij g3, ?_⟩
      · exact Int.ofNat_lt.1 (by omega)
      · have m1 : i ≤ (i + j) / 2 := by omega
        have m2 : (i + j) / 2 < j := by omega
        cases hp : p ((i + j) / 2) with
        | true =>
          refine ⟨g1, m1, by show (i + j) / 2 ≤ N; omega, by show (i + j) / 2 - i ≤ N - ((k + 1 : Nat) : Int); omega, g5, fun a ha hb => ?_⟩
          have ha : (i + j) / 2 ≤ a := ha
          exact mono _ _ (by omega) ha hb hp
        | false =>
          refine ⟨by show 0 ≤ (i + j) / 2 + 1; omega, by show (i + j) / 2 + 1 ≤ j; omega, g3, by show j - ((i + j) / 2 + 1) ≤ N - ((k + 1 : Nat) : Int); omega, fun a ha hb => ?_, g6⟩
          have hb : a < (i + j) / 2 + 1 := hb
          cases hpa : p a with
          | false => rfl
          | true =>
            have := mono a ((i + j) / 2) ha (by omega) (by omega) hpa
            rw [hp] at this; cases this
    · have e : i = j := by omega
      subst e
      refine .inr ⟨i, h2 i, g1, g3, fun a ha hb => ?_⟩
      constructor
      · intro h; exact g6 a h hb
      · intro h
        refine Classical.byContradiction fun hn => ?_
        rw [g5 a ha (by omega)] at h; cases h
  exact ⟨r, e, q⟩
theorem reads_eq {x : Clk} (hv : vld x = true) {t : Int} (ht : 0 ≤ t ∧ t ≤ 10000000) : ∃ f b : Int, 0 ≤ f ∧ f ≤ 10000001 ∧ 0 ≤ b ∧ b ≤ 10000001 ∧ (∀ l, 0 ≤ l → l < 10000001 → (f ≤ l ↔ t ≤ highOf x.1 l x.2)) ∧ (∀ l, 0 ≤ l → l < 10000001 → (b ≤ l ↔ t < lowOf x.1 l x.2)) ∧
    m22 (x, t) = some (if b ≤ f then (0, 0, 50) else (f, b - 1, 0)) := by
  have hx := vld_of hv
  obtain ⟨f, f1, f2, f3, f4⟩ := search_loop (N := 10000001) (p := fun l => leM t (highOf x.1 l x.2)) (by omega) (fun a b h0 hab _ h => by
    have := of_decide_eq_true h
    exact decide_eq_true (Int.le_trans this (high_mono hx.d hab))) (body := fun (s : Int × Int) =>
              bif ltM s.1 s.2 then
                Option.bind (shrM IntKind.u64 (IntKind.wrap IntKind.u64 (IntKind.wrap IntKind.i64 (s.1 + s.2))) (1 : Int))
                  fun (r_1 : Int) =>
                  Option.bind (m36 ((x.1, x.2), IntKind.wrap IntKind.i64 r_1)) fun (r : Int × Int) =>
                    bif PE.notM (leM t r.2) then
                      some (Sum.inl (IntKind.wrap IntKind.i64 (IntKind.wrap IntKind.i64 r_1 + (1 : Int)), s.2))
                    else some (Sum.inl (s.1, IntKind.wrap IntKind.i64 r_1))
              else some (Sum.inr s.1)) (fun i j h0 hij hj => by
    have hj : j ≤ 10000001 := hj
    dsimp only
    rw [ltI hij, cond_true, half_eq h0 (by omega) (by omega), Option.bind_some, wrap_in (n := (i + j) / 2) (by omega) (by omega), wrap_in (n := (i + j) / 2 + 1) (by omega) (by omega), show (x.1, x.2) = x from rfl, around_eq hx (by omega), Option.bind_some]
    dsimp only
    cases leM t (highOf x.1 ((i + j) / 2) x.2) <;> rfl) (fun i => by dsimp only; rw [geI (Int.le_refl _), cond_false])
  obtain ⟨b, b1, b2, b3, b4⟩ := search_loop (N := 10000001) (p := fun l => ltM t (lowOf x.1 l x.2)) (by omega) (fun a b h0 hab _ h => by
    have := of_decide_eq_true h
    exact decide_eq_true (Int.lt_of_lt_of_le this (low_mono hx.d hab))) (body := fun (s : Int × Int) =>
                bif ltM s.1 s.2 then
                  Option.bind
                    (shrM IntKind.u64 (IntKind.wrap IntKind.u64 (IntKind.wrap IntKind.i64 (s.1 + s.2))) (1 : Int))
                    fun (r_1 : Int) =>
                    Option.bind (m36 ((x.1, x.2), IntKind.wrap IntKind.i64 r_1)) fun (r : Int × Int) =>
                      bif PE.notM (ltM t r.1) then
                        some (Sum.inl (IntKind.wrap IntKind.i64 (IntKind.wrap IntKind.i64 r_1 + (1 : Int)), s.2))
                      else some (Sum.inl (s.1, IntKind.wrap IntKind.i64 r_1))
                else some (Sum.inr s.1)) (fun i j h0 hij hj => by
    have hj : j ≤ 10000001 := hj
    dsimp only
    rw [ltI hij, cond_true, half_eq h0 (by omega) (by omega), Option.bind_some, wrap_in (n := (i + j) / 2) (by omega) (by omega), wrap_in (n := (i + j) / 2 + 1) (by omega) (by omega), show (x.1, x.2) = x from rfl, around_eq hx (by omega), Option.bind_some]
    dsimp only
    cases ltM t (lowOf x.1 ((i + j) / 2) x.2) <;> rfl) (fun i => by dsimp only; rw [geI (Int.le_refl _), cond_false])
  have f3 : f ≤ 10000001 := f3
  have b3 : b ≤ 10000001 := b3
  refine ⟨f, b, f2, f3, b2, b3, fun l h0 hl => (f4 l h0 hl).trans decide_eq_true_iff, fun l h0 hl => (b4 l h0 hl).trans decide_eq_true_iff, ?_⟩
  unfold m22
  dsimp only
  rw [show (x.1, x.2) = x from rfl, m17_eq, Option.bind_some, hv, notT, orF, geI ht.1, geI ht.2, orF, cond_false]
  refine bind_of f1 (bind_of b1 ?_)
  by_cases h : b ≤ f
  · rw [leI h, cond_true, if_pos h]
  · rw [gtI (by omega), cond_false, if_neg h, wrap_in (by omega) (by omega)]
theorem reads_bad {x : Clk} {t : Int} (h : ¬ (vld x = true ∧ 0 ≤ t ∧ t ≤ 10000000)) : m22 (x, t) = some (0, 0, 50) := by
  unfold m22
  dsimp only
  rw [show (x.1, x.2) = x from rfl, m17_eq, Option.bind_some]
  have e : PE.orM (PE.orM (PE.notM (vld x)) (ltM t 0)) (ltM 10000000 t) = true := by
    unfold PE.orM PE.notM
    simp only [Bool.or_eq_true, decide_eq_true_eq, Bool.not_eq_true']
    cases hv : vld x with
    | false => exact .inl (.inl rfl)
    | true =>
      have : ¬ (0 ≤ t ∧ t ≤ 10000000) := fun h' => h ⟨hv, h'⟩
      rcases Int.lt_or_le t 0 with h0 | h0
      · exact .inl (.inr h0)
      · exact .inr (by omega)
  rw [e, cond_true]
end Go.Proofs.Ytpledmmfkbcelaa
/-
  Clock: the course that integers determine, and clocks made of it.
  No conditions.
-/
namespace Go.Proofs.Ytpledmmfkbcelaa
open Go Go.Abs Go.PE
set_option linter.unusedVariables false
/-- How far a stretch of a hundred seconds has been passed. -/
def cl (t : Int) (i : Nat) : Int := max 0 (min (t - 100 * i) 100)
def slope (d : Int) (rs : List Int) (i : Nat) : Int := match rs[i]? with
  | some r => pk r (2 * d + 1) - d
  | none => 0
def sumF (d : Int) (rs : List Int) (t : Int) : Nat → Int
  | 0 => 0
  | k + 1 => sumF d rs t k + slope d rs k * cl t k
def mR (rs : List Int) : Nat := min rs.length 20
/-- What the clock shows. -/
def shown (d st : Int) (rs : List Int) (t : Int) : Int := pk st 1000 + (sumF d rs t (mR rs) + 1000 * t) / 1000
theorem slope_sz {d : Int} (hd : 0 ≤ d) (rs : List Int) (i : Nat) : -d ≤ slope d rs i ∧ slope d rs i ≤ d := by
  unfold slope
  split
  · rename_i r _
    have h1 := pk_lo (c := r) (n := 2 * d + 1) (by omega)
    have h2 := pk_hi (c := r) (n := 2 * d + 1) (by omega)
    omega
  · omega
theorem mul_bd {a d δ : Int} (h : -d ≤ a ∧ a ≤ d) (hδ : 0 ≤ δ) : -(d * δ) ≤ a * δ ∧ a * δ ≤ d * δ := by
  have h1 := Int.mul_le_mul_of_nonneg_right h.1 hδ
  have h2 := Int.mul_le_mul_of_nonneg_right h.2 hδ
  rw [Int.neg_mul] at h1
  exact ⟨h1, h2⟩
/-- Between two seconds the slopes add up to at most the drift. -/
theorem sumF_diff {d : Int} (hd : 0 ≤ d) (rs : List Int) {s t : Int} (h0 : 0 ≤ s) (h : s ≤ t) : ∀ k : Nat, -(d * (min t (100 * k) - min s (100 * k))) ≤ sumF d rs t k - sumF d rs s k ∧ sumF d rs t k - sumF d rs s k ≤ d * (min t (100 * k) - min s (100 * k))
  | 0 => by
    have e : min t (100 * ((0 : Nat) : Int)) - min s (100 * ((0 : Nat) : Int)) = 0 := by omega
    rw [e, Int.mul_zero]
    show -0 ≤ (0 : Int) - 0 ∧ (0 : Int) - 0 ≤ 0
    omega
  | k + 1 => by
    have ih := sumF_diff hd rs h0 h k
    have hδ : 0 ≤ cl t k - cl s k := by unfold cl; omega
    have hb := mul_bd (slope_sz hd rs k) hδ
    rw [Int.mul_sub (slope d rs k)] at hb
    have e : min t (100 * ((k + 1 : Nat) : Int)) - min s (100 * ((k + 1 : Nat) : Int)) = (min t (100 * (k : Int)) - min s (100 * (k : Int))) + (cl t k - cl s k) := by unfold cl; omega
    rw [e, Int.mul_add]
    show _ ≤ (sumF d rs t k + slope d rs k * cl t k) - (sumF d rs s k + slope d rs k * cl s k) ∧ _ ≤ _
    constructor
    · omega
    · show (sumF d rs t k + slope d rs k * cl t k) - (sumF d rs s k + slope d rs k * cl s k) ≤ _
      omega
theorem sumF_bd {d : Int} (hd : 0 ≤ d) (rs : List Int) {s t : Int} (h0 : 0 ≤ s) (h : s ≤ t) (k : Nat) : -(d * (t - s)) ≤ sumF d rs t k - sumF d rs s k ∧ sumF d rs t k - sumF d rs s k ≤ d * (t - s) := by
  have h1 := sumF_diff hd rs h0 h k
  have h2 : min t (100 * (k : Int)) - min s (100 * (k : Int)) ≤ t - s := by omega
  have h3 := Int.mul_le_mul_of_nonneg_left h2 hd
  omega
theorem sumF_zero {d : Int} (rs : List Int) : ∀ k, sumF d rs 0 k = 0
  | 0 => rfl
  | k + 1 => by
    show sumF d rs 0 k + slope d rs k * cl 0 k = 0
    have : cl 0 k = 0 := by unfold cl; omega
    rw [sumF_zero rs k, this, Int.mul_zero]; rfl
theorem sumF_sz {d : Int} (hd : 0 ≤ d ∧ d ≤ 100) (rs : List Int) {t : Int} (h : 0 ≤ t) (k : Nat) : -(100 * t) ≤ sumF d rs t k ∧ sumF d rs t k ≤ 100 * t := by
  have h1 := sumF_bd hd.1 rs (Int.le_refl 0) h k
  rw [sumF_zero, Int.sub_zero, Int.sub_zero] at h1
  have h2 : d * t ≤ 100 * t := Int.mul_le_mul_of_nonneg_right hd.2 h
  omega
/-- The course keeps its inequality. -/
theorem shown_fits {d : Int} (hd : 0 ≤ d ∧ d ≤ 100) (st : Int) (rs : List Int) {s t : Int} (h0 : 0 ≤ s) (h : s ≤ t) : 0 ≤ shown d st rs t - shown d st rs s ∧ fits d (t - s) (shown d st rs t - shown d st rs s) := by
  have h1 := sumF_bd hd.1 rs h0 h (mR rs)
  have e1 : (1000 - d) * (t - s) = 1000 * (t - s) - d * (t - s) := Int.sub_mul _ _ _
  have e2 : (1000 + d) * (t - s) = 1000 * (t - s) + d * (t - s) := Int.add_mul _ _ _
  have e3 : d * (t - s) ≤ 100 * (t - s) := Int.mul_le_mul_of_nonneg_right hd.2 (by omega)
  have e4 : 0 ≤ d * (t - s) := Int.mul_nonneg hd.1 (by omega)
  unfold shown fits
  rw [e1, e2]
  omega
theorem shown_sz {d : Int} (hd : 0 ≤ d ∧ d ≤ 100) (st : Int) (rs : List Int) {t : Int} (h : 0 ≤ t ∧ t ≤ 100000) : 0 ≤ shown d st rs t ∧ shown d st rs t ≤ 1000 + 2 * t := by
  have h1 := sumF_sz hd rs h.1 (mR rs)
  have p1 := pk_lo (c := st) (n := 1000) (by omega)
  have p2 := pk_hi (c := st) (n := 1000) (by omega)
  unfold shown
  omega
theorem sumF_stop {d : Int} {rs : List Int} {t : Int} {k : Nat} (h : t ≤ 100 * k) : ∀ j, sumF d rs t (k + j) = sumF d rs t k
  | 0 => rfl
  | j + 1 => by
    show sumF d rs t (k + j) + slope d rs (k + j) * cl t (k + j) = _
    have : cl t (k + j) = 0 := by unfold cl; omega
    rw [sumF_stop h j, this, Int.mul_zero, Int.add_zero]
theorem m28_eq {dr st : Int} {rs : List Int} {t : Int} (h1 : i64 dr) (h2 : i64 st) (h3 : ∀ v ∈ rs, i64 v) (ht : 0 ≤ t ∧ t ≤ 100000) : m28 (dr, st, rs, t) = some (shown (pk dr 101) st rs t) := by
  have p1 := pk_lo (c := dr) (n := 101) (by omega)
  have p2 := pk_hi (c := dr) (n := 101) (by omega)
  have hd : 0 ≤ pk dr 101 ∧ pk dr 101 ≤ 100 := by omega
  unfold m28
  refine bind_of (m35_eq h1 (by omega)) ?_
  dsimp only
  generalize pk dr 101 = d at *
  refine bind_of (x := sumF d rs t (mR rs)) ?_ ?_
  · refine loopM_is (fun k s => s.2 = (k : Int) ∧ s.1 = sumF d rs t k) (mR rs) ⟨rfl, rfl⟩ fun k s hk hs => ?_
    obtain ⟨s1, s2⟩ := s
    obtain ⟨e1, e2⟩ := hs
    simp only at e1 e2
    subst e1 e2
    dsimp only
    have hm : mR rs = min rs.length 20 := rfl
    have hs1 := sumF_sz hd rs ht.1 k
    have hs2 := sumF_sz hd rs ht.1 (k + 1)
    have hss : sumF d rs t (k + 1) = sumF d rs t k + slope d rs k * cl t k := rfl
    by_cases hlt : k < mR rs
    · have hkl : k < rs.length := by omega
      rw [ltI (by show (k : Int) < (rs.length : Int); omega), andT, ltI (by omega), andT, wrap_in (n := 100 * (k : Int)) (by omega) (by omega)]
      by_cases h : 100 * (k : Int) < t
      · refine .inl ⟨(sumF d rs t (k + 1), ((k + 1 : Nat) : Int)), hlt, ?_, rfl, rfl⟩
        have hsl : slope d rs k = pk rs[k] (2 * d + 1) - d := by unfold slope; rw [List.getElem?_eq_getElem hkl]
        have hcl : cl t k = min (t - 100 * (k : Int)) 100 := by unfold cl; omega
        have hq := slope_sz hd.1 rs k
        rw [ltI h, cond_true, idxM_lt hkl, Option.bind_some, wrap_in (n := 2 * d) (by omega) (by omega), wrap_in (n := 2 * d + 1) (by omega) (by omega), m35_eq (h3 _ (List.getElem_mem hkl)) (by omega), Option.bind_some, ← hsl, wrap_in (n := t - 100 * (k : Int)) (by omega) (by omega), ← hcl]
        have hpq : pk rs[k] (2 * d + 1) - d = slope d rs k := hsl.symm
        rw [hpq] at *
        rw [wrap_in (n := slope d rs k) (by omega) (by omega), wrap_in (n := slope d rs k * cl t k) (by omega) (by omega), ← hss, wrap_in (n := sumF d rs t (k + 1)) (by omega) (by omega), wrap_in (by omega) (by omega)]
        rfl
      · refine .inr ?_
        rw [geI (by omega), cond_false]
        have := sumF_stop (d := d) (rs := rs) (t := t) (k := k) (by omega) (mR rs - k)
        rw [show k + (mR rs - k) = mR rs by omega] at this
        rw [this]
    · refine .inr ?_
      have e : k = mR rs := by omega
      have hf : PE.andM (ltM (k : Int) (lenM rs)) (ltM (k : Int) 20) = false := by
        by_cases hl : rs.length ≤ 20
        · rw [geI (by show (rs.length : Int) ≤ (k : Int); omega)]; rfl
        · rw [geI (a := (k : Int)) (b := 20) (by omega)]
          cases ltM (k : Int) (lenM rs) <;> rfl
      rw [hf, andF, cond_false, e]
  · have hs := sumF_sz hd rs ht.1 (mR rs)
    have p3 := pk_lo (c := st) (n := 1000) (by omega)
    have p4 := pk_hi (c := st) (n := 1000) (by omega)
    refine bind_of (m35_eq h2 (by omega)) ?_
    rw [wrap_in (n := 1000 * t) (by omega) (by omega), wrap_in (n := sumF d rs t (mR rs) + 1000 * t) (by omega) (by omega), divM_of (by omega) (by omega) (by omega), Option.bind_some, wrap_in (by omega) (by omega)]
    rfl
/-! ### clocks made of a course -/
def lastOf : Int → List Rd → Int
  | last, [] => last
  | _, r :: l => lastOf r.1 l
theorem vldR_snoc : ∀ {l : List Rd} {last : Int} {r : Rd}, vldR last l = true → (lastOf last l < r.1 ∧ r.1 ≤ 10000000 ∧ 0 ≤ r.2.1 ∧ r.2.1 ≤ r.2.2 ∧ r.2.2 ≤ 10000000) → vldR last (l ++ [r]) = true
  | [], last, r, _, h => by
    show (decide _ && true) = true
    rw [Bool.and_true]
    exact decide_eq_true h
  | x :: l, last, r, hv, h => by
    unfold vldR at hv
    rw [Bool.and_eq_true] at hv
    show (decide _ && vldR x.1 (l ++ [r])) = true
    rw [hv.1, vldR_snoc hv.2 h]
    rfl
theorem lastOf_get : ∀ {l : List Rd} {last : Int} (h : l ≠ []), lastOf last l = (l.getLast h).1
  | [x], last, _ => rfl
  | x :: y :: l, last, _ => by
    show lastOf x.1 (y :: l) = _
    rw [lastOf_get (by simp)]
    rfl
/-- What is known of a clock that was made. -/
structure MadeOK (d st : Int) (rs : List Int) (l : List Rd) : Prop where
  v : vldR (-1) l = true
  mem : ∀ r ∈ l, ∃ τ : Int, 0 ≤ τ ∧ τ < 3000 ∧ r.1 = shown d st rs τ ∧ 0 ≤ r.2.1 ∧ r.2.1 ≤ τ ∧ τ ≤ r.2.2 ∧ r.2.2 ≤ τ + 50
def cLt (p : Nat → Int) (t : Int) : Nat → Nat
  | 0 => 0
  | j + 1 => cLt p t j + (if p j < t then 1 else 0)
def cEq (p : Nat → Int) (t : Int) : Nat → Nat
  | 0 => 0
  | j + 1 => cEq p t j + (if p j = t then 1 else 0)
theorem cLt_succ (p : Nat → Int) (t : Int) : ∀ j, cLt p (t + 1) j = cLt p t j + cEq p t j
  | 0 => rfl
  | j + 1 => by
    show cLt p (t + 1) j + _ = cLt p t j + _ + (cEq p t j + _)
    rw [cLt_succ p t j]
    by_cases h1 : p j < t
    · rw [if_pos h1, if_pos (by omega), if_neg (by omega)]; omega
    · by_cases h2 : p j = t
      · rw [if_neg h1, if_pos (by omega), if_pos h2]; omega
      · rw [if_neg h1, if_neg (by omega), if_neg h2]; omega
theorem cLt_le (p : Nat → Int) (t : Int) : ∀ j, cLt p t j ≤ j
  | 0 => Nat.le_refl _
  | j + 1 => by
    have := cLt_le p t j
    show cLt p t j + _ ≤ _
    split <;> omega
theorem m16_eq {dr st : Int} {rs : List Int} {at' : List Rd} (h1 : i64 dr) (h2 : i64 st) (h3 : ∀ v ∈ rs, i64 v) (h4 : ∀ c ∈ at', i64 c.1 ∧ i64 c.2.1 ∧ i64 c.2.2) : ∃ l, m16 (dr, st, rs, at') = some (pk dr 101, l) ∧ MadeOK (pk dr 101) st rs l ∧ l.length ≤ 12 := by
  have p1 := pk_lo (c := dr) (n := 101) (by omega)
  have p2 := pk_hi (c := dr) (n := 101) (by omega)
  have hd : 0 ≤ pk dr 101 ∧ pk dr 101 ≤ 100 := by omega
  have main : Ans (m16 (dr, st, rs, at')) (fun o => o.1 = pk dr 101 ∧ MadeOK (pk dr 101) st rs o.2 ∧ o.2.length ≤ 12) := by
    unfold m16
    refine Ans.seq (m35_eq h1 (by omega)) ?_
    have h28 := fun t (ht : 0 ≤ t ∧ t ≤ 100000) => m28_eq h1 h2 h3 ht
    generalize hde : pk dr 101 = d at *
    dsimp only
    have hm12 : min at'.length 12 ≤ 12 := Nat.min_le_right _ _
    refine Ans.bind (P := fun o => o.1 = d ∧ MadeOK d st rs o.2 ∧ o.2.length ≤ 12) ?_ fun o ho => Ans.some ho
    refine Ans.loop (fun t s => s.1 = (t : Int) ∧ s.2.1 = d ∧ MadeOK d st rs s.2.2 ∧ s.2.2.length ≤ cLt (fun j => pk (at'.getD j (0, 0, 0)).1 3000) t (min at'.length 12)) 3000 ⟨rfl, rfl, ⟨rfl, fun r hr => by cases hr⟩, Nat.zero_le _⟩ fun t s ht hs => ?_
    obtain ⟨s1, s2, l⟩ := s
    obtain ⟨e1, e2, hM, hlen⟩ := hs
    simp only at e1 e2 hM hlen
    subst e1 e2
    dsimp only
    by_cases hlt : t < 3000
    · rw [ltI (by omega), cond_true]
      refine Ans.bind (P := fun o => o.1 = s2 ∧ MadeOK s2 st rs o.2 ∧ o.2.length ≤ cLt (fun j => pk (at'.getD j (0, 0, 0)).1 3000) ((t + 1 : Nat) : Int) (min at'.length 12)) ?_ fun o ho => by
        refine Ans.some ⟨hlt, ?_, ho.1, ho.2.1, ho.2.2⟩
        show IntKind.wrap IntKind.i64 ((t : Int) + 1) = _
        rw [wrap_in (by omega) (by omega)]; rfl
      refine Ans.loop (fun i s => s.1 = (i : Int) ∧ s.2.1 = s2 ∧ MadeOK s2 st rs s.2.2 ∧ s.2.2.length ≤ cLt (fun j => pk (at'.getD j (0, 0, 0)).1 3000) t (min at'.length 12) + cEq (fun j => pk (at'.getD j (0, 0, 0)).1 3000) t i) (min at'.length 12) ⟨rfl, rfl, hM, by show l.length ≤ _ + 0; omega⟩ fun i s hi hs => ?_
      obtain ⟨u1, u2, l'⟩ := s
      obtain ⟨e1, e2, hM', hlen'⟩ := hs
      simp only at e1 e2 hM' hlen'
      subst e1 e2
      dsimp only
      by_cases hil : i < min at'.length 12
      · have hil' : i < at'.length := by omega
        have hc := h4 _ (List.getElem_mem hil')
        have ei : IntKind.wrap IntKind.i64 ((i : Int) + 1) = ((i + 1 : Nat) : Int) := by rw [wrap_in (by omega) (by omega)]; rfl
        have hgd : at'.getD i (0, 0, 0) = at'[i] := by rw [List.getD_eq_getElem?_getD, List.getElem?_eq_getElem hil']; rfl
        have hce : cEq (fun j => pk (at'.getD j (0, 0, 0)).1 3000) t (i + 1) = cEq (fun j => pk (at'.getD j (0, 0, 0)).1 3000) t i + (if pk at'[i].1 3000 = (t : Int) then 1 else 0) := by rw [← hgd]; rfl
        rw [ltI (by show (i : Int) < (at'.length : Int); omega), andT, ltI (by omega), cond_true, idxM_lt hil', Option.bind_some, m35_eq hc.1 (by omega), Option.bind_some, ei]
        by_cases he : pk at'[i].1 3000 = (t : Int)
        · rw [if_pos he] at hce
          have hsz := shown_sz hd st rs (t := (t : Int)) (by omega)
          have q1 := pk_lo (c := at'[i].2.1) (n := 51) (by omega)
          have q2 := pk_hi (c := at'[i].2.1) (n := 51) (by omega)
          have q3 := pk_lo (c := at'[i].2.2) (n := 51) (by omega)
          have q4 := pk_hi (c := at'[i].2.2) (n := 51) (by omega)
          have hc12 := cLt_le (fun j => pk (at'.getD j (0, 0, 0)).1 3000) ((t : Int) + 1) (min at'.length 12)
          have hll : l'.length ≤ 100 := by
            have hce2 : cEq (fun j => pk (at'.getD j (0, 0, 0)).1 3000) t i ≤ i := by
              have : ∀ (p : Nat → Int) (t : Int) j, cEq p t j ≤ j := fun p t j => by
                induction j with
                | zero => exact Nat.le_refl _
                | succ j ih => show cEq p t j + _ ≤ _; split <;> omega
              exact this _ _ _
            have hcl2 := cLt_le (fun j => pk (at'.getD j (0, 0, 0)).1 3000) (t : Int) (min at'.length 12)
            omega
          rw [eqI he, notT, cond_false, h28 t (by omega), Option.bind_some, Option.bind_some, m35_eq hc.2.1 (by omega), Option.bind_some, Option.bind_some, m35_eq hc.2.2 (by omega), Option.bind_some, wrap_in (n := (t : Int) - pk at'[i].2.1 51) (by omega) (by omega), wrap_in (n := (t : Int) + pk at'[i].2.2 51) (by omega) (by omega)]
          have happ : appM (nat_lit 24) l' [(shown u2 st rs t, max ((t : Int) - pk at'[i].2.1 51) 0, (t : Int) + pk at'[i].2.2 51)] = some (l' ++ [(shown u2 st rs t, max ((t : Int) - pk at'[i].2.1 51) 0, (t : Int) + pk at'[i].2.2 51)]) := appM_of (by show (l'.length + 1) * 24 ≤ 140737488355328; omega)
          have hnew : lastOf (-1) l' < shown u2 st rs t → MadeOK u2 st rs (l' ++ [(shown u2 st rs t, max ((t : Int) - pk at'[i].2.1 51) 0, (t : Int) + pk at'[i].2.2 51)]) := fun hlast => by
            refine ⟨vldR_snoc hM'.v ⟨hlast, by show shown u2 st rs t ≤ _; omega, by show 0 ≤ max _ _; omega, by show max _ _ ≤ (t : Int) + _; omega, by show (t : Int) + _ ≤ _; omega⟩, fun r hr => ?_⟩
            rcases List.mem_append.1 hr with hr | hr
            · exact hM'.mem r hr
            · rw [List.mem_singleton.1 hr]
              exact ⟨t, by omega, by omega, rfl, by show 0 ≤ max _ _; omega, by show max _ _ ≤ (t : Int); omega, by show (t : Int) ≤ (t : Int) + _; omega, by show (t : Int) + _ ≤ (t : Int) + 50; omega⟩
          by_cases hn : l' = []
          · subst hn
            have e0 : eqM (lenM ([] : List Rd)) 0 = true := rfl
            rw [e0, notT, cond_false, Option.bind_some, cond_false, Option.bind_some, orT, cond_true, happ, Option.bind_some]
            refine Ans.some ⟨hil, rfl, rfl, hnew (by show (-1 : Int) < _; omega), ?_⟩
            show ([] ++ [_] : List Rd).length ≤ _
            rw [hce, List.length_append]
            show 0 + 1 ≤ _
            omega
          · have hl0 : 0 < l'.length := List.length_pos_iff.2 hn
            have e0 : eqM (lenM l') 0 = false := neI (by show (l'.length : Int) ≠ 0; omega)
            have elast : idxM l' (IntKind.wrap IntKind.i64 (lenM l' - 1)) = some (l'.getLast hn) := by
              have : IntKind.wrap IntKind.i64 (lenM l' - 1) = ((l'.length - 1 : Nat) : Int) := by
                rw [wrap_in (by show _ ≤ (l'.length : Int) - 1; omega) (by show (l'.length : Int) - 1 ≤ _; omega)]
                show (l'.length : Int) - 1 = _
                omega
              rw [this, idxM_lt (by omega), List.getLast_eq_getElem]
            have echk : chkM (IntKind.wrap IntKind.i64 (lenM l' - 1)) (lenM l') = some () := by
              rw [wrap_in (by show _ ≤ (l'.length : Int) - 1; omega) (by show (l'.length : Int) - 1 ≤ _; omega)]
              exact chkM_of (by show 0 ≤ (l'.length : Int) - 1; omega) (by show (l'.length : Int) - 1 < (l'.length : Int); omega)
            have hlo : lastOf (-1) l' = (l'.getLast hn).1 := lastOf_get hn
            rw [e0, notF, cond_true, echk, Option.bind_some, cond_true, elast, Option.bind_some, Option.bind_some, orF, ← hlo]
            by_cases hlast : lastOf (-1) l' < shown u2 st rs t
            · rw [ltI hlast, cond_true, happ, Option.bind_some]
              refine Ans.some ⟨hil, rfl, rfl, hnew hlast, ?_⟩
              show (l' ++ [_] : List Rd).length ≤ _
              rw [hce, List.length_append]
              show l'.length + 1 ≤ _
              omega
            · rw [geI (by omega), cond_false]
              refine Ans.some ⟨hil, rfl, rfl, hM', ?_⟩
              show l'.length ≤ _
              rw [hce]
              omega
        · rw [if_neg he] at hce
          rw [neI he, notF, cond_true]
          refine Ans.some ⟨hil, rfl, rfl, hM', ?_⟩
          show l'.length ≤ _
          rw [hce]
          omega
      · have e : i = min at'.length 12 := by omega
        have hf : PE.andM (ltM (i : Int) (lenM at')) (ltM (i : Int) 12) = false := by
          by_cases hl : at'.length ≤ 12
          · rw [geI (by show (at'.length : Int) ≤ (i : Int); omega)]; rfl
          · rw [geI (a := (i : Int)) (b := 12) (by omega)]
            cases ltM (i : Int) (lenM at') <;> rfl
        rw [hf, cond_false]
        refine Ans.some ⟨rfl, hM', ?_⟩
        show l'.length ≤ cLt _ ((t + 1 : Nat) : Int) _
        have := cLt_succ (fun j => pk (at'.getD j (0, 0, 0)).1 3000) (t : Int) (min at'.length 12)
        rw [show ((t + 1 : Nat) : Int) = (t : Int) + 1 by omega, this]
        rw [e] at hlen'
        exact hlen'
    · have e : t = 3000 := by omega
      rw [geI (by omega), cond_false]
      refine Ans.some ⟨rfl, hM, ?_⟩
      have := cLt_le (fun j => pk (at'.getD j (0, 0, 0)).1 3000) (t : Int) (min at'.length 12)
      show l.length ≤ 12
      omega
  obtain ⟨o, g1, g2, g3, g4⟩ := main
  exact ⟨o.2, by rw [g1, ← g2], g3, g4⟩
theorem MadeOK.vld {d st : Int} {rs : List Int} {l : List Rd} (hd : 0 ≤ d ∧ d ≤ 100) (h : MadeOK d st rs l) (hl : l.length ≤ 12) : vld (d, l) = true := by
  unfold Go.Proofs.Ytpledmmfkbcelaa.vld
  rw [h.v, Bool.and_true]
  exact decide_eq_true ⟨hd.1, hd.2, hl⟩
end Go.Proofs.Ytpledmmfkbcelaa
/-
  The models with loops of bounded rounds, and that they answer no more than the models (printed by gen_twin.py). No conditions.
-/
namespace Go.Proofs.Ytpledmmfkbcelaa
open Go Go.Abs Go.PE Go.Proofs
set_option linter.unusedVariables false
set_option maxRecDepth 100000
set_option maxHeartbeats 0
def m11F : (Int × Int) → Option (Int × Int) :=
  fun (x : Int × Int) =>
    bif
        PE.orM (PE.orM (PE.orM (ltM x.1 (0 : Int)) (ltM (100 : Int) x.1)) (ltM x.2 (0 : Int)))
          (ltM (10000000 : Int) x.2) then
      some ((0 : Int), (0 : Int))
    else
      Option.bind
        (bif ltM (0 : Int) x.2 then
          Option.bind
            (divM IntKind.i64 (IntKind.wrap IntKind.i64 ((1000 : Int) * IntKind.wrap IntKind.i64 (x.2 - (1 : Int))))
              (IntKind.wrap IntKind.i64 ((1000 : Int) + x.1)))
            fun (r : Int) => some (IntKind.wrap IntKind.i64 (r + (1 : Int)))
        else some (0 : Int))
        fun (o : Int) =>
        Option.bind
          (divM IntKind.i64
            (IntKind.wrap IntKind.i64
              (IntKind.wrap IntKind.i64 ((1000 : Int) * IntKind.wrap IntKind.i64 (x.2 + (1 : Int))) - (1 : Int)))
            (IntKind.wrap IntKind.i64 ((1000 : Int) - x.1)))
          fun (r : Int) => some (o, r)
theorem le11 (x) : Le (m11F x) (m11 x) := by
  unfold m11F m11
  repeat' first | with_reducible exact Le.refl _ | intro _ | apply Le.bind | apply Le.cond | apply Le.loop | apply Le.elim
def m17F : (Int × List (Int × Int × Int)) → Option (Bool) :=
  fun (x : Int × List (Int × Int × Int)) =>
    bif PE.orM (PE.orM (ltM x.1 (0 : Int)) (ltM (100 : Int) x.1)) (ltM (12 : Int) (lenM x.2)) then some false
    else
      Option.bind
        (loopF
          (fun (s : Int × Int) =>
            bif ltM s.2 (lenM x.2) then
              Option.bind (idxM x.2 s.2) fun (r : Int × Int × Int) =>
                bif
                    PE.orM
                      (PE.orM (PE.orM (PE.orM (leM r.1 s.1) (ltM (10000000 : Int) r.1)) (ltM r.2.1 (0 : Int)))
                        (ltM r.2.2 r.2.1))
                      (ltM (10000000 : Int) r.2.2) then
                  some (Sum.inr (Sum.inr false))
                else some (Sum.inl (r.1, IntKind.wrap IntKind.i64 (s.2 + (1 : Int))))
            else some (Sum.inr (Sum.inl ())))
          ((-1 : Int), (0 : Int)))
        fun (o : Unit ⊕ Bool) => Sum.elim (fun (t : Unit) => some true) (fun (t : Bool) => some t) o
theorem le17 (x) : Le (m17F x) (m17 x) := by
  unfold m17F m17
  repeat' first | with_reducible exact Le.refl _ | intro _ | apply Le.bind | apply Le.cond | apply Le.loop | apply Le.elim
def m36F : ((Int × List (Int × Int × Int)) × Int) → Option (Int × Int) :=
  fun (x : (Int × List (Int × Int × Int)) × Int) =>
    Option.bind
      (loopF
        (fun (s : Int × Int × Int) =>
          bif ltM s.1 (lenM x.1.2) then
            Option.bind (idxM x.1.2 s.1) fun (r : Int × Int × Int) =>
              Option.bind (m11F (x.1.1, max (IntKind.wrap IntKind.i64 (x.2 - r.1)) (IntKind.wrap IntKind.i64 (r.1 - x.2))))
                fun (r_1 : Int × Int) =>
                Option.bind
                  (bif ltM x.2 r.1 then
                    some (IntKind.wrap IntKind.i64 (negM r_1.2), IntKind.wrap IntKind.i64 (negM r_1.1))
                  else bif eqM x.2 r.1 then some (IntKind.wrap IntKind.i64 (negM r_1.2), r_1.2) else some (r_1.1, r_1.2))
                  fun (o : Int × Int) =>
                  some
                    (Sum.inl
                      (IntKind.wrap IntKind.i64 (s.1 + (1 : Int)), max s.2.1 (IntKind.wrap IntKind.i64 (r.2.1 + o.1)),
                        min s.2.2 (IntKind.wrap IntKind.i64 (r.2.2 + o.2))))
          else some (Sum.inr (s.2.1, s.2.2)))
        ((0 : Int), (0 : Int), (10000000 : Int)))
      fun (o : Int × Int) => some (o.1, o.2)
theorem le36 (x) : Le (m36F x) (m36 x) := by
  unfold m36F m36
  repeat' first | exact le11 _ | with_reducible exact Le.refl _ | intro _ | apply Le.bind | apply Le.cond | apply Le.loop | apply Le.elim
def m20F : ((Int × List (Int × Int × Int)) × Int) → Option (Int × Int × Int) :=
  fun (x : (Int × List (Int × Int × Int)) × Int) =>
    Option.bind (m17F (x.1.1, x.1.2)) fun (r : Bool) =>
      bif PE.orM (PE.orM (PE.notM r) (ltM x.2 (0 : Int))) (ltM (10000000 : Int) x.2) then
        some ((0 : Int), (0 : Int), (50 : Int))
      else
        Option.bind (m36F ((x.1.1, x.1.2), x.2)) fun (r : Int × Int) =>
          bif ltM r.2 r.1 then some ((0 : Int), (0 : Int), (50 : Int)) else some (r.1, r.2, (0 : Int))
theorem le20 (x) : Le (m20F x) (m20 x) := by
  unfold m20F m20
  repeat' first | exact le17 _ | exact le36 _ | with_reducible exact Le.refl _ | intro _ | apply Le.bind | apply Le.cond | apply Le.loop | apply Le.elim
def m22F : ((Int × List (Int × Int × Int)) × Int) → Option (Int × Int × Int) :=
  fun (x : (Int × List (Int × Int × Int)) × Int) =>
    Option.bind (m17F (x.1.1, x.1.2)) fun (r : Bool) =>
      bif PE.orM (PE.orM (PE.notM r) (ltM x.2 (0 : Int))) (ltM (10000000 : Int) x.2) then
        some ((0 : Int), (0 : Int), (50 : Int))
      else
        Option.bind
          (loopF
            (fun (s : Int × Int) =>
              bif ltM s.1 s.2 then
                Option.bind (shrM IntKind.u64 (IntKind.wrap IntKind.u64 (IntKind.wrap IntKind.i64 (s.1 + s.2))) (1 : Int))
                  fun (r_1 : Int) =>
                  Option.bind (m36F ((x.1.1, x.1.2), IntKind.wrap IntKind.i64 r_1)) fun (r : Int × Int) =>
                    bif PE.notM (leM x.2 r.2) then
                      some (Sum.inl (IntKind.wrap IntKind.i64 (IntKind.wrap IntKind.i64 r_1 + (1 : Int)), s.2))
                    else some (Sum.inl (s.1, IntKind.wrap IntKind.i64 r_1))
              else some (Sum.inr s.1))
            ((0 : Int), (10000001 : Int)))
          fun (o : Int) =>
          Option.bind
            (loopF
              (fun (s : Int × Int) =>
                bif ltM s.1 s.2 then
                  Option.bind
                    (shrM IntKind.u64 (IntKind.wrap IntKind.u64 (IntKind.wrap IntKind.i64 (s.1 + s.2))) (1 : Int))
                    fun (r_1 : Int) =>
                    Option.bind (m36F ((x.1.1, x.1.2), IntKind.wrap IntKind.i64 r_1)) fun (r : Int × Int) =>
                      bif PE.notM (ltM x.2 r.1) then
                        some (Sum.inl (IntKind.wrap IntKind.i64 (IntKind.wrap IntKind.i64 r_1 + (1 : Int)), s.2))
                      else some (Sum.inl (s.1, IntKind.wrap IntKind.i64 r_1))
                else some (Sum.inr s.1))
              ((0 : Int), (10000001 : Int)))
            fun (o_1 : Int) =>
            bif leM o_1 o then some ((0 : Int), (0 : Int), (50 : Int))
            else some (o, IntKind.wrap IntKind.i64 (o_1 - (1 : Int)), (0 : Int))
theorem le22 (x) : Le (m22F x) (m22 x) := by
  unfold m22F m22
  repeat' first | exact le17 _ | exact le36 _ | with_reducible exact Le.refl _ | intro _ | apply Le.bind | apply Le.cond | apply Le.loop | apply Le.elim
def m13F : (List (Int × Int)) → Option ((Int × Int) × Int) :=
  fun (x : List (Int × Int)) =>
    Option.bind
      (loopF
        (fun (s : Int × List (Int × Int)) =>
          bif ltM s.1 (lenM x) then
            Option.bind (idxM x s.1) fun (r : Int × Int) =>
              bif ltM r.1 r.2 then
                Option.bind (appM (nat_lit 16) s.2 [(r.1, (1 : Int)), (r.2, (-1 : Int))]) fun (r : List (Int × Int)) =>
                  some (Sum.inl (IntKind.wrap IntKind.i64 (s.1 + (1 : Int)), r))
              else some (Sum.inl (IntKind.wrap IntKind.i64 (s.1 + (1 : Int)), s.2))
          else some (Sum.inr s.2))
        ((0 : Int), []))
      fun (o : List (Int × Int)) =>
      Option.bind (sortM (Ty.pair (Ty.int IntKind.i64) (Ty.int IntKind.i64)) cf32 o) fun (r : List (Int × Int)) =>
        Option.bind
          (loopF
            (fun (s : Int × Int × Bool × Int × Int × Int) =>
              bif ltM s.2.2.2.1 (lenM r) then
                Option.bind (chkM s.2.2.2.1 (lenM r)) fun (r_1 : Unit) =>
                  Option.bind (idxM r s.2.2.2.1) fun (r_2 : Int × Int) =>
                    Option.bind
                      (bif ltM (IntKind.wrap IntKind.i64 (s.2.2.2.1 + (1 : Int))) (lenM r) then
                        chkM (IntKind.wrap IntKind.i64 (s.2.2.2.1 + (1 : Int))) (lenM r)
                      else some ())
                      fun (r_3 : Unit) =>
                      Option.bind
                        (bif ltM (IntKind.wrap IntKind.i64 (s.2.2.2.1 + (1 : Int))) (lenM r) then
                          Option.bind (idxM r (IntKind.wrap IntKind.i64 (s.2.2.2.1 + (1 : Int)))) fun (x : Int × Int) =>
                            some x.1
                        else some (0 : Int))
                        fun (r_4 : Int) =>
                        bif PE.andM (ltM (IntKind.wrap IntKind.i64 (s.2.2.2.1 + (1 : Int))) (lenM r)) (eqM r_4 r_2.1) then
                          some
                            (Sum.inl
                              (s.1, IntKind.wrap IntKind.i64 (s.2.1 + r_2.2), s.2.2.1,
                                IntKind.wrap IntKind.i64 (s.2.2.2.1 + (1 : Int)), s.2.2.2.2.1, s.2.2.2.2.2))
                        else
                          bif ltM s.1 (IntKind.wrap IntKind.i64 (s.2.1 + r_2.2)) then
                            some
                              (Sum.inl
                                (IntKind.wrap IntKind.i64 (s.2.1 + r_2.2), IntKind.wrap IntKind.i64 (s.2.1 + r_2.2), true,
                                  IntKind.wrap IntKind.i64 (s.2.2.2.1 + (1 : Int)), r_2.1, s.2.2.2.2.2))
                          else
                            bif PE.andM s.2.2.1 (ltM (IntKind.wrap IntKind.i64 (s.2.1 + r_2.2)) s.1) then
                              some
                                (Sum.inl
                                  (s.1, IntKind.wrap IntKind.i64 (s.2.1 + r_2.2), false,
                                    IntKind.wrap IntKind.i64 (s.2.2.2.1 + (1 : Int)), s.2.2.2.2.1, r_2.1))
                            else
                              some
                                (Sum.inl
                                  (s.1, IntKind.wrap IntKind.i64 (s.2.1 + r_2.2), s.2.2.1,
                                    IntKind.wrap IntKind.i64 (s.2.2.2.1 + (1 : Int)), s.2.2.2.2.1, s.2.2.2.2.2))
              else some (Sum.inr (s.1, s.2.2.2.2.1, s.2.2.2.2.2)))
            ((0 : Int), (0 : Int), false, (0 : Int), (0 : Int), (0 : Int)))
          fun (o : Int × Int × Int) => some ((o.2.1, o.2.2), o.1)
theorem le13 (x) : Le (m13F x) (m13 x) := by
  unfold m13F m13
  repeat' first | with_reducible exact Le.refl _ | intro _ | apply Le.bind | apply Le.cond | apply Le.loop | apply Le.elim
def m24F : ((Int × List (Int × Int × Int)) × Int × Int) → Option (Bool) :=
  fun (x : (Int × List (Int × Int × Int)) × Int × Int) =>
    Option.bind (m20F ((x.1.1, x.1.2), x.2.1)) fun (r : Int × Int × Int) =>
      some (PE.andM (eqM r.2.2 (0 : Int)) (ltM r.2.1 x.2.2))
theorem le24 (x) : Le (m24F x) (m24 x) := by
  unfold m24F m24
  repeat' first | exact le20 _ | with_reducible exact Le.refl _ | intro _ | apply Le.bind | apply Le.cond | apply Le.loop | apply Le.elim
def m26F : ((Int × List (Int × Int × Int)) × Int × Int) → Option (Bool) :=
  fun (x : (Int × List (Int × Int × Int)) × Int × Int) =>
    Option.bind (m20F ((x.1.1, x.1.2), x.2.1)) fun (r : Int × Int × Int) =>
      some (PE.andM (eqM r.2.2 (0 : Int)) (ltM x.2.2 r.1))
theorem le26 (x) : Le (m26F x) (m26 x) := by
  unfold m26F m26
  repeat' first | exact le20 _ | with_reducible exact Le.refl _ | intro _ | apply Le.bind | apply Le.cond | apply Le.loop | apply Le.elim
def m10F : Unit → Option (Bool) :=
  fun (x : Unit) =>
    Option.bind (m11F ((0 : Int), (7 : Int))) fun (r : Int × Int) =>
      Option.bind (m11F ((100 : Int), (0 : Int))) fun (r_1 : Int × Int) =>
        Option.bind (m11F ((100 : Int), (110 : Int))) fun (r_2 : Int × Int) =>
          Option.bind (m20F (((100 : Int), [((1000 : Int), (2000 : Int), (2010 : Int))]), (1110 : Int)))
            fun (r_3 : Int × Int × Int) =>
            Option.bind (m20F (((100 : Int), [((1000 : Int), (2000 : Int), (2010 : Int))]), (890 : Int)))
              fun (r_4 : Int × Int × Int) =>
              Option.bind (m22F (((100 : Int), [((1000 : Int), (2000 : Int), (2010 : Int))]), (2005 : Int)))
                fun (r_5 : Int × Int × Int) =>
                Option.bind
                  (m13F
                    [((0 : Int), (10 : Int)), ((5 : Int), (15 : Int)), ((8 : Int), (9 : Int)), ((12 : Int), (20 : Int))])
                  fun (r_6 : (Int × Int) × Int) =>
                  Option.bind
                    (bif
                        PE.andM
                          (PE.andM
                            (PE.andM
                              (PE.andM
                                (PE.andM
                                  (PE.andM
                                    (PE.andM
                                      (PE.andM
                                        (PE.andM
                                          (PE.andM (PE.andM (eqM r.1 (7 : Int)) (eqM r.2 (7 : Int)))
                                            (eqM r_1.1 (0 : Int)))
                                          (eqM r_1.2 (1 : Int)))
                                        (eqM r_2.1 (100 : Int)))
                                      (eqM r_2.2 (123 : Int)))
                                    (PE.andM
                                      (PE.andM
                                        (PE.andM
                                          (PE.andM (PE.andM (eqM r_3.2.2 (0 : Int)) (eqM r_3.1 (2100 : Int)))
                                            (eqM r_3.2.1 (2133 : Int)))
                                          (eqM r_4.2.2 (0 : Int)))
                                        (eqM r_4.1 (1877 : Int)))
                                      (eqM r_4.2.1 (1910 : Int))))
                                  (eqM r_5.2.2 (0 : Int)))
                                (eqM r_5.1 (994 : Int)))
                              (eqM r_5.2.1 (1006 : Int)))
                            (PE.andM (eqM r_6.1.1 (8 : Int)) (eqM r_6.1.2 (9 : Int))))
                          (eqM r_6.2 (3 : Int)) then
                      m17F ((100 : Int), [((1000 : Int), (2000 : Int), (2010 : Int))])
                    else some false)
                    fun (r_7 : Bool) =>
                    Option.bind
                      (bif
                          PE.andM
                            (PE.andM
                              (PE.andM
                                (PE.andM
                                  (PE.andM
                                    (PE.andM
                                      (PE.andM
                                        (PE.andM
                                          (PE.andM
                                            (PE.andM
                                              (PE.andM (PE.andM (eqM r.1 (7 : Int)) (eqM r.2 (7 : Int)))
                                                (eqM r_1.1 (0 : Int)))
                                              (eqM r_1.2 (1 : Int)))
                                            (eqM r_2.1 (100 : Int)))
                                          (eqM r_2.2 (123 : Int)))
                                        (PE.andM
                                          (PE.andM
                                            (PE.andM
                                              (PE.andM (PE.andM (eqM r_3.2.2 (0 : Int)) (eqM r_3.1 (2100 : Int)))
                                                (eqM r_3.2.1 (2133 : Int)))
                                              (eqM r_4.2.2 (0 : Int)))
                                            (eqM r_4.1 (1877 : Int)))
                                          (eqM r_4.2.1 (1910 : Int))))
                                      (eqM r_5.2.2 (0 : Int)))
                                    (eqM r_5.1 (994 : Int)))
                                  (eqM r_5.2.1 (1006 : Int)))
                                (PE.andM (eqM r_6.1.1 (8 : Int)) (eqM r_6.1.2 (9 : Int))))
                              (eqM r_6.2 (3 : Int)))
                            r_7 then
                        m24F (((100 : Int), [((1000 : Int), (2000 : Int), (2010 : Int))]), (890 : Int), (1911 : Int))
                      else some false)
                      fun (r_8 : Bool) =>
                      Option.bind
                        (bif
                            PE.andM
                              (PE.andM
                                (PE.andM
                                  (PE.andM
                                    (PE.andM
                                      (PE.andM
                                        (PE.andM
                                          (PE.andM
                                            (PE.andM
                                              (PE.andM
                                                (PE.andM
                                                  (PE.andM (PE.andM (eqM r.1 (7 : Int)) (eqM r.2 (7 : Int)))
                                                    (eqM r_1.1 (0 : Int)))
                                                  (eqM r_1.2 (1 : Int)))
                                                (eqM r_2.1 (100 : Int)))
                                              (eqM r_2.2 (123 : Int)))
                                            (PE.andM
                                              (PE.andM
                                                (PE.andM
                                                  (PE.andM (PE.andM (eqM r_3.2.2 (0 : Int)) (eqM r_3.1 (2100 : Int)))
                                                    (eqM r_3.2.1 (2133 : Int)))
                                                  (eqM r_4.2.2 (0 : Int)))
                                                (eqM r_4.1 (1877 : Int)))
                                              (eqM r_4.2.1 (1910 : Int))))
                                          (eqM r_5.2.2 (0 : Int)))
                                        (eqM r_5.1 (994 : Int)))
                                      (eqM r_5.2.1 (1006 : Int)))
                                    (PE.andM (eqM r_6.1.1 (8 : Int)) (eqM r_6.1.2 (9 : Int))))
                                  (eqM r_6.2 (3 : Int)))
                                r_7)
                              r_8 then
                          m24F (((100 : Int), [((1000 : Int), (2000 : Int), (2010 : Int))]), (890 : Int), (1910 : Int))
                        else some false)
                        fun (r_9 : Bool) =>
                        Option.bind
                          (bif
                              PE.andM
                                (PE.andM
                                  (PE.andM
                                    (PE.andM
                                      (PE.andM
                                        (PE.andM
                                          (PE.andM
                                            (PE.andM
                                              (PE.andM
                                                (PE.andM
                                                  (PE.andM
                                                    (PE.andM
                                                      (PE.andM (PE.andM (eqM r.1 (7 : Int)) (eqM r.2 (7 : Int)))
                                                        (eqM r_1.1 (0 : Int)))
                                                      (eqM r_1.2 (1 : Int)))
                                                    (eqM r_2.1 (100 : Int)))
                                                  (eqM r_2.2 (123 : Int)))
                                                (PE.andM
                                                  (PE.andM
                                                    (PE.andM
                                                      (PE.andM (PE.andM (eqM r_3.2.2 (0 : Int)) (eqM r_3.1 (2100 : Int)))
                                                        (eqM r_3.2.1 (2133 : Int)))
                                                      (eqM r_4.2.2 (0 : Int)))
                                                    (eqM r_4.1 (1877 : Int)))
                                                  (eqM r_4.2.1 (1910 : Int))))
                                              (eqM r_5.2.2 (0 : Int)))
                                            (eqM r_5.1 (994 : Int)))
                                          (eqM r_5.2.1 (1006 : Int)))
                                        (PE.andM (eqM r_6.1.1 (8 : Int)) (eqM r_6.1.2 (9 : Int))))
                                      (eqM r_6.2 (3 : Int)))
                                    r_7)
                                  r_8)
                                (PE.notM r_9) then
                            m26F (((100 : Int), [((1000 : Int), (2000 : Int), (2010 : Int))]), (1110 : Int), (2099 : Int))
                          else some false)
                          fun (r_10 : Bool) =>
                          Option.bind
                            (bif
                                PE.andM
                                  (PE.andM
                                    (PE.andM
                                      (PE.andM
                                        (PE.andM
                                          (PE.andM
                                            (PE.andM
                                              (PE.andM
                                                (PE.andM
                                                  (PE.andM
                                                    (PE.andM
                                                      (PE.andM
                                                        (PE.andM
                                                          (PE.andM (PE.andM (eqM r.1 (7 : Int)) (eqM r.2 (7 : Int)))
                                                            (eqM r_1.1 (0 : Int)))
                                                          (eqM r_1.2 (1 : Int)))
                                                        (eqM r_2.1 (100 : Int)))
                                                      (eqM r_2.2 (123 : Int)))
                                                    (PE.andM
                                                      (PE.andM
                                                        (PE.andM
                                                          (PE.andM
                                                            (PE.andM (eqM r_3.2.2 (0 : Int)) (eqM r_3.1 (2100 : Int)))
                                                            (eqM r_3.2.1 (2133 : Int)))
                                                          (eqM r_4.2.2 (0 : Int)))
                                                        (eqM r_4.1 (1877 : Int)))
                                                      (eqM r_4.2.1 (1910 : Int))))
                                                  (eqM r_5.2.2 (0 : Int)))
                                                (eqM r_5.1 (994 : Int)))
                                              (eqM r_5.2.1 (1006 : Int)))
                                            (PE.andM (eqM r_6.1.1 (8 : Int)) (eqM r_6.1.2 (9 : Int))))
                                          (eqM r_6.2 (3 : Int)))
                                        r_7)
                                      r_8)
                                    (PE.notM r_9))
                                  r_10 then
                              m26F
                                (((100 : Int), [((1000 : Int), (2000 : Int), (2010 : Int))]), (1110 : Int), (2100 : Int))
                            else some false)
                            fun (r_11 : Bool) =>
                            some
                              (PE.andM
                                (PE.andM
                                  (PE.andM
                                    (PE.andM
                                      (PE.andM
                                        (PE.andM
                                          (PE.andM
                                            (PE.andM
                                              (PE.andM
                                                (PE.andM
                                                  (PE.andM
                                                    (PE.andM
                                                      (PE.andM
                                                        (PE.andM
                                                          (PE.andM (PE.andM (eqM r.1 (7 : Int)) (eqM r.2 (7 : Int)))
                                                            (eqM r_1.1 (0 : Int)))
                                                          (eqM r_1.2 (1 : Int)))
                                                        (eqM r_2.1 (100 : Int)))
                                                      (eqM r_2.2 (123 : Int)))
                                                    (PE.andM
                                                      (PE.andM
                                                        (PE.andM
                                                          (PE.andM
                                                            (PE.andM (eqM r_3.2.2 (0 : Int)) (eqM r_3.1 (2100 : Int)))
                                                            (eqM r_3.2.1 (2133 : Int)))
                                                          (eqM r_4.2.2 (0 : Int)))
                                                        (eqM r_4.1 (1877 : Int)))
                                                      (eqM r_4.2.1 (1910 : Int))))
                                                  (eqM r_5.2.2 (0 : Int)))
                                                (eqM r_5.1 (994 : Int)))
                                              (eqM r_5.2.1 (1006 : Int)))
                                            (PE.andM (eqM r_6.1.1 (8 : Int)) (eqM r_6.1.2 (9 : Int))))
                                          (eqM r_6.2 (3 : Int)))
                                        r_7)
                                      r_8)
                                    (PE.notM r_9))
                                  r_10)
                                (PE.notM r_11))
theorem le10 (x) : Le (m10F x) (m10 x) := by
  unfold m10F m10
  repeat' first | exact le11 _ | exact le13 _ | exact le17 _ | exact le20 _ | exact le22 _ | exact le24 _ | exact le26 _ | with_reducible exact Le.refl _ | intro _ | apply Le.bind | apply Le.cond | apply Le.loop | apply Le.elim
end Go.Proofs.Ytpledmmfkbcelaa
/-
  Clock: the self-test of the laws answers true.
  No conditions.
-/
namespace Go.Proofs.Ytpledmmfkbcelaa
open Go Go.Abs Go.PE
set_option maxRecDepth 100000 in
theorem saneF : m10F () = some true := by kernel_rfl
theorem sane_ok : m10 () = some true := (le10 ()).out saneF
end Go.Proofs.Ytpledmmfkbcelaa
/-
  Clock: the laws ClockSound and ClockInverse.
  No conditions.
-/
namespace Go.Proofs.Ytpledmmfkbcelaa
open Go Go.Abs Go.PE
set_option linter.unusedVariables false
theorem triples {xs : List Rd} (h : InR (.list (.pair tI (.pair tI tI))) xs) : ∀ c ∈ xs, i64 c.1 ∧ i64 c.2.1 ∧ i64 c.2.2 := fun c hc => by
  obtain ⟨i, hi, rfl⟩ := List.mem_iff_getElem.1 hc
  obtain ⟨a, b, c⟩ := h.2 i _ (List.getElem?_eq_getElem hi)
  exact ⟨a, b, c⟩
theorem m24_eq (x : Clk) (l t : Int) : m24 (x, l, t) = some (PE.andM (eqM (atR x l).2.2 0) (ltM (atR x l).2.1 t)) := by
  unfold m24
  exact bind_of (m20_eq x l) rfl
theorem m26_eq (x : Clk) (l t : Int) : m26 (x, l, t) = some (PE.andM (eqM (atR x l).2.2 0) (ltM t (atR x l).1)) := by
  unfold m26
  exact bind_of (m20_eq x l) rfl
/-- A reading does not shut out the second at which the clock shows what it shows. -/
theorem reading_ok {d st : Int} (hd : 0 ≤ d ∧ d ≤ 100) {rs : List Int} {τ t lo hi : Int} (h0 : 0 ≤ τ) (h1 : 0 ≤ t) (hl : lo ≤ τ) (hh : τ ≤ hi) :
    lo + hL d (shown d st rs t - shown d st rs τ) ≤ t ∧ t ≤ hi + gH d (shown d st rs t - shown d st rs τ) := by
  have hz : 0 ≤ shi d 0 := Int.ediv_nonneg (by omega) (by omega)
  by_cases h : τ ≤ t
  · obtain ⟨g1, g2⟩ := shown_fits hd st rs h0 h
    generalize shown d st rs t - shown d st rs τ = n at *
    obtain ⟨g3, g4⟩ := (fits_iff hd g1 (by omega)).1 g2
    have e2 : gH d n = shi d n := if_neg (by omega)
    rw [e2]
    refine ⟨?_, by omega⟩
    by_cases hn : 0 < n
    · have e1 : hL d n = slo d n := if_pos hn
      rw [e1]; omega
    · have e1 : hL d n = - shi d (-n) := if_neg hn
      have e0 : -n = 0 := by omega
      rw [e1, e0]; omega
  · obtain ⟨g1, g2⟩ := shown_fits hd st rs h1 (by omega : t ≤ τ)
    have e : shown d st rs t - shown d st rs τ = -(shown d st rs τ - shown d st rs t) := by omega
    rw [e]
    generalize shown d st rs τ - shown d st rs t = n at *
    obtain ⟨g3, g4⟩ := (fits_iff hd g1 (by omega)).1 g2
    have e1 : hL d (-n) = - shi d n := by
      have : hL d (-n) = - shi d (-(-n)) := if_neg (by omega)
      rw [this, Int.neg_neg]
    rw [e1]
    refine ⟨by omega, ?_⟩
    by_cases hn : 0 < n
    · have e2 : gH d (-n) = - slo d n := by
        have : gH d (-n) = - slo d (-(-n)) := if_pos (by omega)
        rw [this, Int.neg_neg]
      rw [e2]; omega
    · have e0 : n = 0 := by omega
      have e2 : gH d (-n) = shi d (-n) := if_neg (by omega)
      rw [e2, e0]
      show t ≤ hi + shi d (-0)
      rw [Int.neg_zero]; omega
theorem made_at {d st : Int} (hd : 0 ≤ d ∧ d ≤ 100) {rs : List Int} {l : List Rd} (h : MadeOK d st rs l) {t : Int} (ht : 0 ≤ t ∧ t ≤ 10000000) : lowOf d (shown d st rs t) l ≤ t ∧ t ≤ highOf d (shown d st rs t) l := by
  refine ⟨low_le.2 ⟨ht.1, fun r hr => ?_⟩, high_ge.2 ⟨ht.2, fun r hr => ?_⟩⟩
  · obtain ⟨τ, g1, _, g2, _, g3, g4, _⟩ := h.mem r hr
    rw [g2]
    exact (reading_ok (st := st) (rs := rs) hd g1 ht.1 g3 g4).1
  · obtain ⟨τ, g1, _, g2, _, g3, g4, _⟩ := h.mem r hr
    rw [g2]
    exact (reading_ok (st := st) (rs := rs) hd g1 ht.1 g3 g4).2
theorem law4_ok (x : Int × Int × List Int × List Rd × Int × Int) (h1 : i64 x.1) (h2 : i64 x.2.1) (h3 : ∀ v ∈ x.2.2.1, i64 v) (h4 : ∀ c ∈ x.2.2.2.1, i64 c.1 ∧ i64 c.2.1 ∧ i64 c.2.2) (h5 : i64 x.2.2.2.2.1) (h6 : i64 x.2.2.2.2.2) : m4 x = some true := by
  obtain ⟨l, g1, g2, g3⟩ := m16_eq h1 h2 h3 h4
  have p1 := pk_lo (c := x.1) (n := 101) (by omega)
  have p2 := pk_hi (c := x.1) (n := 101) (by omega)
  have hd : 0 ≤ pk x.1 101 ∧ pk x.1 101 ≤ 100 := by omega
  have h28 := fun t (ht : 0 ≤ t ∧ t ≤ 100000) => m28_eq h1 h2 h3 ht
  have hv := g2.vld hd g3
  unfold m4
  refine bind_of sane_ok ?_
  rw [notT, cond_false]
  refine bind_of g1 ?_
  generalize pk x.1 101 = d at *
  have p3 := pk_lo (c := x.2.2.2.2.1) (n := 5000) (by omega)
  have p4 := pk_hi (c := x.2.2.2.2.1) (n := 5000) (by omega)
  refine bind_of (m19_eq h5 (by omega)) ?_
  generalize pk x.2.2.2.2.1 5000 = t at *
  have hsz := shown_sz hd x.2.1 x.2.2.1 (t := t) (by omega)
  have hat := made_at hd g2 (t := t) (by omega)
  refine bind_of (h28 t (by omega)) ?_
  generalize shown d x.2.1 x.2.2.1 t = s at *
  have hR : atR (d, l) s = (lowOf d s l, highOf d s l, 0) := by
    unfold atR
    rw [hv, Bool.true_and, decide_eq_true (show 0 ≤ s ∧ s ≤ 10000000 ∧ lowOf d s l ≤ highOf d s l from ⟨by omega, by omega, by omega⟩)]
    rfl
  obtain ⟨f, b, f1, f2, b1, b2, f3, b3, hrd⟩ := reads_eq hv (t := t) (by omega)
  have hf := (f3 s (by omega) (by omega)).2 hat.2
  have hb : ¬ b ≤ s := fun h => by have : t < lowOf d s l := (b3 s (by omega) (by omega)).1 h; omega
  rw [if_neg (by omega)] at hrd
  refine bind_of (m20_eq (d, l) s) (bind_of hrd ?_)
  have h24 := m24_eq (d, l) s
  have h26 := m26_eq (d, l) s
  rw [hR] at h24 h26 ⊢
  dsimp only at h24 h26 ⊢
  rw [eqI rfl, notT, orF, notF, cond_true]
  refine bind_of (m17_eq (d, l)) ?_
  rw [hv, notT, orF, cond_false]
  have p5 := pk_lo (c := x.2.2.2.2.2) (n := 201) (by omega)
  have p6 := pk_hi (c := x.2.2.2.2.2) (n := 201) (by omega)
  refine bind_of (m19_eq h6 (by omega)) ?_
  rw [wrap_in (n := t + pk x.2.2.2.2.2 201) (by omega) (by omega), wrap_in (n := t + pk x.2.2.2.2.2 201 - 100) (by omega) (by omega)]
  generalize t + pk x.2.2.2.2.2 201 - 100 = near
  rw [eqI rfl] at h24 h26
  have c1 : ∀ o : Int, PE.andM (PE.andM true (ltM (highOf d s l) o)) (leM o t) = false := fun o => by
    unfold PE.andM
    rw [Bool.true_and, Bool.and_eq_false_iff]
    by_cases ho : o ≤ t
    · exact .inl (decide_eq_false (by omega))
    · exact .inr (decide_eq_false ho)
  have c2 : ∀ o : Int, PE.andM (PE.andM true (ltM o (lowOf d s l))) (leM t o) = false := fun o => by
    unfold PE.andM
    rw [Bool.true_and, Bool.and_eq_false_iff]
    by_cases ho : t ≤ o
    · exact .inl (decide_eq_false (by omega))
    · exact .inr (decide_eq_false ho)
  refine bind_of (h24 _) ?_
  rw [c1, notF, cond_true]
  refine bind_of (h26 _) ?_
  rw [c2, orF, notF, cond_true]
  refine bind_of (h24 _) ?_
  rw [c1, orF, notF, cond_true]
  refine bind_of (h26 _) ?_
  rw [c2, orF, cond_false, leI hat.1, leI hat.2, leI hf, leI (show s ≤ b - 1 by omega)]
  rfl
theorem law7_ok (x : Int × Int × List Int × List Rd × Int × Int) (h1 : i64 x.1) (h2 : i64 x.2.1) (h3 : ∀ v ∈ x.2.2.1, i64 v) (h4 : ∀ c ∈ x.2.2.2.1, i64 c.1 ∧ i64 c.2.1 ∧ i64 c.2.2) (h5 : i64 x.2.2.2.2.1) (h6 : i64 x.2.2.2.2.2) : m7 x = some true := by
  obtain ⟨l, g1, g2, g3⟩ := m16_eq h1 h2 h3 h4
  have p1 := pk_lo (c := x.1) (n := 101) (by omega)
  have p2 := pk_hi (c := x.1) (n := 101) (by omega)
  have hd : 0 ≤ pk x.1 101 ∧ pk x.1 101 ≤ 100 := by omega
  have h28 := fun t (ht : 0 ≤ t ∧ t ≤ 100000) => m28_eq h1 h2 h3 ht
  have hv := g2.vld hd g3
  unfold m7
  refine bind_of sane_ok ?_
  rw [notT, cond_false]
  refine bind_of g1 ?_
  generalize pk x.1 101 = d at *
  have p3 := pk_lo (c := x.2.2.2.2.1) (n := 5000) (by omega)
  have p4 := pk_hi (c := x.2.2.2.2.1) (n := 5000) (by omega)
  have p5 := pk_lo (c := x.2.2.2.2.2) (n := 5000) (by omega)
  have p6 := pk_hi (c := x.2.2.2.2.2) (n := 5000) (by omega)
  have p7 := pk_lo (c := x.2.2.2.2.1) (n := 21) (by omega)
  have p8 := pk_hi (c := x.2.2.2.2.1) (n := 21) (by omega)
  refine bind_of (m19_eq h5 (by omega)) (bind_of (m19_eq h6 (by omega)) ?_)
  generalize pk x.2.2.2.2.2 5000 = t at *
  generalize pk x.2.2.2.2.1 5000 = u at *
  have hsz := shown_sz hd x.2.1 x.2.2.1 (t := t) (by omega)
  obtain ⟨f, b, f1, f2, b1, b2, f3, b3, hrd⟩ := reads_eq hv (t := t) (by omega)
  refine bind_of hrd (bind_of (h28 t (by omega)) (bind_of (m19_eq h5 (by omega)) ?_))
  generalize shown d x.2.1 x.2.2.1 t = s at *
  generalize pk x.2.2.2.2.1 21 = q at *
  have hRb : 0 ≤ (if b ≤ f then ((0 : Int), (0 : Int), (50 : Int)) else (f, b - 1, 0)).1 ∧ (if b ≤ f then ((0 : Int), (0 : Int), (50 : Int)) else (f, b - 1, 0)).1 ≤ 10000001 ∧ -1 ≤ (if b ≤ f then ((0 : Int), (0 : Int), (50 : Int)) else (f, b - 1, 0)).2.1 ∧ (if b ≤ f then ((0 : Int), (0 : Int), (50 : Int)) else (f, b - 1, 0)).2.1 ≤ 10000001 := by
    split
    · dsimp only; omega
    · dsimp only; omega
  have hRk : ∀ v : Int, PE.andM (PE.andM (eqM (if b ≤ f then ((0 : Int), (0 : Int), (50 : Int)) else (f, b - 1, 0)).2.2 0) (leM (if b ≤ f then ((0 : Int), (0 : Int), (50 : Int)) else (f, b - 1, 0)).1 v)) (leM v (if b ≤ f then ((0 : Int), (0 : Int), (50 : Int)) else (f, b - 1, 0)).2.1) = decide (f ≤ v ∧ v < b) := fun v => by
    by_cases hbf : b ≤ f
    · rw [if_pos hbf, decide_eq_false (by omega)]
      rfl
    · rw [if_neg hbf]
      dsimp only
      rw [eqI rfl, andT]
      unfold PE.andM
      rw [Bool.eq_iff_iff, Bool.and_eq_true]
      simp only [decide_eq_true_eq]
      omega
  generalize (if b ≤ f then ((0 : Int), (0 : Int), (50 : Int)) else (f, b - 1, 0)) = R at hRb hRk ⊢
  rw [wrap_in (n := R.1 - 1) (by omega) (by omega), wrap_in (n := R.2.1 + 1) (by omega) (by omega), wrap_in (n := s + q) (by omega) (by omega), wrap_in (n := s + q - 10) (by omega) (by omega)]
  generalize hl : [u, R.1 - 1, R.1, R.2.1, R.2.1 + 1, s + q - 10] = vs
  have hlen : vs.length = 6 := by rw [← hl]; rfl
  refine bind_of (x := Sum.inl ()) (loopM_is (fun k s => s = (k : Int)) 6 rfl fun k s hk hs => ?_) rfl
  subst hs
  by_cases hlt : k < 6
  · have hkl : k < vs.length := by omega
    refine .inl ⟨((k + 1 : Nat) : Int), hlt, ?_, rfl⟩
    have ek : IntKind.wrap IntKind.i64 ((k : Int) + 1) = ((k + 1 : Nat) : Int) := by rw [wrap_in (by omega) (by omega)]; rfl
    rw [ltI (a := (k : Int)) (b := lenM vs) (by show (k : Int) < (vs.length : Int); omega), cond_true, idxM_lt hkl, Option.bind_some]
    generalize vs[k] = v
    refine bind_of (x := Sum.inl ()) ?_ (by show some (Sum.inl (IntKind.wrap IntKind.i64 ((k : Int) + 1))) = _; rw [ek])
    by_cases hv0 : v < 0
    · rw [ltI hv0, notT, cond_false, Option.bind_some, orT, cond_true]
    · rw [geI (by omega), notF, cond_true, Option.bind_some, orF]
      by_cases hv1 : 10000000 < v
      · rw [ltI hv1, cond_true]
      · rw [geI (by omega), cond_false, Option.bind_some]
        refine bind_of (m20_eq (d, l) v) ?_
        have hone : PE.andM (PE.andM (eqM (atR (d, l) v).2.2 0) (leM (atR (d, l) v).1 t)) (leM t (atR (d, l) v).2.1) = decide (f ≤ v ∧ v < b) := by
          have k1 : f ≤ v ↔ t ≤ highOf d v l := f3 v (by omega) (by omega)
          have k2 : b ≤ v ↔ t < lowOf d v l := b3 v (by omega) (by omega)
          unfold atR
          rw [hv, Bool.true_and]
          by_cases hc : lowOf d v l ≤ highOf d v l
          · rw [decide_eq_true (show 0 ≤ v ∧ v ≤ 10000000 ∧ lowOf d v l ≤ highOf d v l from ⟨by omega, by omega, hc⟩), cond_true]
            dsimp only
            rw [eqI rfl, andT]
            unfold PE.andM
            rw [Bool.eq_iff_iff, Bool.and_eq_true]
            simp only [decide_eq_true_eq]
            omega
          · rw [decide_eq_false (show ¬ (0 ≤ v ∧ v ≤ 10000000 ∧ lowOf d v l ≤ highOf d v l) from fun h => hc h.2.2), cond_false, decide_eq_false (by omega)]
            rfl
        have hsame : ∀ {β : Type} (c : Bool) (F : Int → Option β) (r : Option β), (∀ z, (c = true → z = v) → F z = r) → Option.bind (bif c then some v else some 0) F = r := fun c F r hF => by
          cases c with
          | true => exact hF v fun _ => rfl
          | false => exact hF 0 fun h => by cases h
        refine hsame _ _ _ fun z1 hz1 => ?_
        refine hsame _ _ _ fun z2 hz2 => ?_
        have htest : PE.andM (PE.andM (eqM R.2.2 0) (leM R.1 z1)) (leM z2 R.2.1) = decide (f ≤ v ∧ v < b) := by
          rw [← hRk v]
          cases c1 : eqM R.2.2 0 with
          | false => rfl
          | true =>
            have hz1 := hz1 c1
            subst hz1
            rw [c1] at hz2
            cases c2 : leM R.1 z1 with
            | false => rfl
            | true =>
              rw [c2] at hz2
              have hz2 := hz2 rfl
              rw [hz2]
        rw [hone, htest, show ∀ b : Bool, eqbM b b = true from fun b => decide_eq_true rfl, notT, cond_false]
  · refine .inr ?_
    have e : k = 6 := by omega
    rw [e, geI (by show (vs.length : Int) ≤ ((6 : Nat) : Int); omega), cond_false]
end Go.Proofs.Ytpledmmfkbcelaa
/-
  Clock: Agree, and the count of spells that have a second.
  No conditions.
-/
namespace Go.Proofs.Ytpledmmfkbcelaa
open Go Go.Abs Go.PE Go.Sort
open Go.Proofs (ltOf)
set_option linter.unusedVariables false
abbrev Sp := Int × Int
/-- How many spells have a second. -/
def cnt : List Sp → Int → Int
  | [], _ => 0
  | p :: l, s => (if p.1 ≤ s ∧ s < p.2 then 1 else 0) + cnt l s
theorem cnt_app (s : Int) : ∀ (a b : List Sp), cnt (a ++ b) s = cnt a s + cnt b s
  | [], b => by simp [cnt]
  | p :: a, b => by
    show (if p.1 ≤ s ∧ s < p.2 then 1 else 0) + cnt (a ++ b) s = (if p.1 ≤ s ∧ s < p.2 then 1 else 0) + cnt a s + cnt b s
    rw [cnt_app s a b]; omega
theorem cnt_lo (s : Int) : ∀ l : List Sp, 0 ≤ cnt l s ∧ cnt l s ≤ l.length
  | [] => ⟨Int.le_refl _, Int.le_refl _⟩
  | p :: l => by
    have := cnt_lo s l
    unfold cnt
    rw [List.length_cons]
    split <;> omega
theorem cnt_pos {s : Int} : ∀ {l : List Sp}, 0 < cnt l s → ∃ p ∈ l, p.1 ≤ s ∧ s < p.2
  | [], h => by unfold cnt at h; omega
  | p :: l, h => by
    unfold cnt at h
    by_cases hp : p.1 ≤ s ∧ s < p.2
    · exact ⟨p, List.mem_cons_self .., hp⟩
    · rw [if_neg hp] at h
      obtain ⟨q, hq, h2⟩ := cnt_pos (l := l) (s := s) (by omega)
      exact ⟨q, List.mem_cons_of_mem _ hq, h2⟩
theorem cnt_of {s : Int} : ∀ {l : List Sp} {p : Sp}, p ∈ l → p.1 ≤ s → s < p.2 → 0 < cnt l s
  | q :: l, p, h, h1, h2 => by
    unfold cnt
    have := (cnt_lo s l).1
    rcases List.mem_cons.1 h with rfl | h
    · rw [if_pos ⟨h1, h2⟩]; omega
    · have := cnt_of h h1 h2
      split <;> omega
theorem cnt_congr {s t : Int} : ∀ {l : List Sp}, (∀ p ∈ l, (p.1 ≤ s ∧ s < p.2) ↔ (p.1 ≤ t ∧ t < p.2)) → cnt l s = cnt l t
  | [], _ => rfl
  | p :: l, h => by
    unfold cnt
    rw [cnt_congr (l := l) fun q hq => h q (List.mem_cons_of_mem _ hq)]
    have := h p (List.mem_cons_self ..)
    by_cases h1 : p.1 ≤ s ∧ s < p.2
    · rw [if_pos h1, if_pos (this.1 h1)]
    · rw [if_neg h1, if_neg fun h2 => h1 (this.2 h2)]
theorem cnt_snoc {l : List Sp} {k : Nat} (hk : k < l.length) (s : Int) : cnt (l.take (k + 1)) s = cnt (l.take k) s + (if l[k].1 ≤ s ∧ s < l[k].2 then 1 else 0) := by
  rw [List.take_succ_eq_append_getElem hk, cnt_app]
  show cnt (l.take k) s + ((if l[k].1 ≤ s ∧ s < l[k].2 then 1 else 0) + 0) = _
  rw [Int.add_zero]
theorem cnt_body {l : List Sp} (hl : l.length ≤ 1000) (s : Int) {body : Int × Int → Option ((Int × Int) ⊕ Int)} (hb : body = fun (z : Int × Int) =>
          bif ltM z.2 (lenM l) then
            Option.bind
              (Option.bind (idxM l z.2) fun (r : Int × Int) =>
                Option.bind (bif leM r.1 s then idxM l z.2 else some ((0 : Int), (0 : Int))) fun (r_1 : Int × Int) =>
                  bif PE.andM (leM r.1 s) (ltM s r_1.2) then some (IntKind.wrap IntKind.i64 (z.1 + (1 : Int)))
                  else some z.1)
              fun (o : Int) => some (Sum.inl (o, IntKind.wrap IntKind.i64 (z.2 + (1 : Int))))
          else some (Sum.inr z.1)) : loopM body (0, 0) = some (cnt l s) := by
  have h := loopM_fn (body := body) (r := cnt l s) (fun k => (cnt (l.take k) s, (k : Int))) l.length (fun k hk => by
    have hc := cnt_lo s (l.take k)
    have hlen : (l.take k).length ≤ k := by rw [List.length_take]; exact Nat.min_le_left _ _
    rw [hb]
    dsimp only
    have ek : IntKind.wrap IntKind.i64 ((k : Int) + 1) = ((k + 1 : Nat) : Int) := by rw [wrap_in (by omega) (by omega)]; rfl
    rw [ltI (by show (k : Int) < (l.length : Int); omega), cond_true, idxM_lt hk, Option.bind_some, cnt_snoc hk, ek]
    by_cases h1 : l[k].1 ≤ s
    · rw [leI h1, cond_true, Option.bind_some, andT]
      by_cases h2 : s < l[k].2
      · rw [ltI h2, cond_true, wrap_in (by omega) (by omega), if_pos ⟨h1, h2⟩]; rfl
      · rw [geI (by omega), cond_false, if_neg fun h => h2 h.2, Int.add_zero]; rfl
    · rw [gtI (by omega), cond_false, Option.bind_some, andF, cond_false, if_neg fun h => h1 h.1, Int.add_zero]; rfl) (by
    rw [hb]
    dsimp only
    rw [geI (Int.le_refl _), cond_false, List.take_length])
  exact h
theorem m41_eq {l : List Sp} (hl : l.length ≤ 1000) (s : Int) : m41 (l, s) = some (cnt l s) := by
  unfold m41
  exact bind_of (cnt_body hl s rfl) rfl
theorem m34_eq {l : List Sp} (hl : l.length ≤ 1000) (s : Int) : m34 (l, s) = some (cnt l s) := by
  unfold m34
  exact bind_of (cnt_body hl s rfl) rfl
/-! ### edges -/
def edg : List Sp → List Sp
  | [] => []
  | p :: l => (if p.1 < p.2 then [(p.1, 1), (p.2, -1)] else []) ++ edg l
theorem edg_app : ∀ (a b : List Sp), edg (a ++ b) = edg a ++ edg b
  | [], _ => rfl
  | p :: a, b => by
    show (if p.1 < p.2 then [(p.1, 1), (p.2, -1)] else []) ++ edg (a ++ b) = ((if p.1 < p.2 then [(p.1, 1), (p.2, -1)] else []) ++ edg a) ++ edg b
    rw [edg_app a b, List.append_assoc]
theorem edg_len : ∀ l : List Sp, (edg l).length ≤ 2 * l.length
  | [] => Nat.le_refl _
  | p :: l => by
    have := edg_len l
    unfold edg
    rw [List.length_append, List.length_cons]
    split
    · show 2 + _ ≤ _; omega
    · show 0 + _ ≤ _; omega
theorem edg_mem : ∀ {l : List Sp} {q : Sp}, q ∈ edg l → (q.2 = 1 ∨ q.2 = -1) ∧ ∃ p ∈ l, q.1 = p.1 ∨ q.1 = p.2
  | p :: l, q, h => by
    unfold edg at h
    rcases List.mem_append.1 h with h | h
    · split at h
      · rcases List.mem_cons.1 h with rfl | h
        · exact ⟨.inl rfl, p, List.mem_cons_self .., .inl rfl⟩
        · rw [List.mem_singleton.1 h]
          exact ⟨.inr rfl, p, List.mem_cons_self .., .inr rfl⟩
      · cases h
    · obtain ⟨h1, p', h2, h3⟩ := edg_mem h
      exact ⟨h1, p', List.mem_cons_of_mem _ h2, h3⟩
/-- The edges up to a second, summed up; all edges. -/
def wgt : List Sp → Int → Int
  | [], _ => 0
  | q :: e, s => (if q.1 ≤ s then q.2 else 0) + wgt e s
def tot : List Sp → Int
  | [] => 0
  | q :: e => q.2 + tot e
theorem wgt_app (s : Int) : ∀ (a b : List Sp), wgt (a ++ b) s = wgt a s + wgt b s
  | [], b => by simp [wgt]
  | p :: a, b => by
    show (if p.1 ≤ s then p.2 else 0) + wgt (a ++ b) s = (if p.1 ≤ s then p.2 else 0) + wgt a s + wgt b s
    rw [wgt_app s a b]; omega
theorem tot_app : ∀ (a b : List Sp), tot (a ++ b) = tot a + tot b
  | [], b => by simp [tot]
  | p :: a, b => by
    show p.2 + tot (a ++ b) = p.2 + tot a + tot b
    rw [tot_app a b]; omega
theorem wgt_edg (s : Int) : ∀ l : List Sp, wgt (edg l) s = cnt l s
  | [] => rfl
  | p :: l => by
    unfold edg cnt
    rw [wgt_app, wgt_edg s l]
    split
    · show (if p.1 ≤ s then 1 else 0) + ((if p.2 ≤ s then -1 else 0) + 0) + _ = _
      split <;> split <;> split <;> omega
    · show 0 + _ = _
      split <;> omega
theorem wgt_perm {a b : List Sp} (s : Int) (h : a.Perm b) : wgt a s = wgt b s := by
  induction h with
  | nil => rfl
  | cons x _ ih => unfold wgt; rw [ih]
  | swap x y l => show (if y.1 ≤ s then y.2 else 0) + ((if x.1 ≤ s then x.2 else 0) + wgt l s) = (if x.1 ≤ s then x.2 else 0) + ((if y.1 ≤ s then y.2 else 0) + wgt l s); omega
  | trans _ _ h1 h2 => exact h1.trans h2
theorem wgt_all {s : Int} : ∀ {e : List Sp}, (∀ q ∈ e, q.1 ≤ s) → wgt e s = tot e
  | [], _ => rfl
  | q :: e, h => by
    unfold wgt tot
    rw [if_pos (h q (List.mem_cons_self ..)), wgt_all fun r hr => h r (List.mem_cons_of_mem _ hr)]
theorem wgt_none {s : Int} : ∀ {e : List Sp}, (∀ q ∈ e, s < q.1) → wgt e s = 0
  | [], _ => rfl
  | q :: e, h => by
    unfold wgt
    have := h q (List.mem_cons_self ..)
    rw [if_neg (by omega), wgt_none fun r hr => h r (List.mem_cons_of_mem _ hr)]; rfl
theorem tot_sz : ∀ {e : List Sp}, (∀ q ∈ e, q.2 = 1 ∨ q.2 = -1) → -(e.length : Int) ≤ tot e ∧ tot e ≤ e.length
  | [], _ => ⟨Int.le_refl _, Int.le_refl _⟩
  | q :: e, h => by
    have h1 := tot_sz fun r hr => h r (List.mem_cons_of_mem q hr)
    have h2 := h q (List.mem_cons_self ..)
    unfold tot
    rw [List.length_cons]
    omega
theorem edg_loop {l : List Sp} (hl : l.length ≤ 100) {body : Int × List Sp → Option ((Int × List Sp) ⊕ List Sp)} (hb : body = fun (s : Int × List (Int × Int)) =>
          bif ltM s.1 (lenM l) then
            Option.bind (idxM l s.1) fun (r : Int × Int) =>
              bif ltM r.1 r.2 then
                Option.bind (appM (nat_lit 16) s.2 [(r.1, (1 : Int)), (r.2, (-1 : Int))]) fun (r : List (Int × Int)) =>
                  some (Sum.inl (IntKind.wrap IntKind.i64 (s.1 + (1 : Int)), r))
              else some (Sum.inl (IntKind.wrap IntKind.i64 (s.1 + (1 : Int)), s.2))
          else some (Sum.inr s.2)) : loopM body (0, []) = some (edg l) := by
  have h := count_loop (body := body) (r := edg l) (fun k => edg (l.take k)) l.length (fun k hk => by
    have hlen : (l.take k).length ≤ k := by rw [List.length_take]; exact Nat.min_le_left _ _
    have he := edg_len (l.take k)
    rw [hb]
    dsimp only
    rw [ltI (by show (k : Int) < (l.length : Int); omega), cond_true, idxM_lt hk, Option.bind_some, wrap_in (n := (k : Int) + 1) (by omega) (by omega), List.take_succ_eq_append_getElem hk, edg_app]
    have e1 : edg [l[k]] = if l[k].1 < l[k].2 then [(l[k].1, 1), (l[k].2, -1)] else [] := by
      unfold edg edg
      exact List.append_nil _
    rw [e1]
    by_cases h : l[k].1 < l[k].2
    · rw [ltI h, cond_true, if_pos h, appM_of (by show (_ + 2) * 16 ≤ 140737488355328; omega)]; rfl
    · rw [geI (by omega), cond_false, if_neg h, List.append_nil]) (by
    rw [hb]
    dsimp only
    rw [geI (Int.le_refl _), cond_false, List.take_length])
  exact h
/-! ### sorting -/
theorem sorted_ok {xs : List Sp} (hin : ∀ q ∈ xs, i64 q.1 ∧ i64 q.2) (hl : xs.length ≤ 100000) : ∃ ys : List Sp, sortM (Ty.pair (Ty.int IntKind.i64) (Ty.int IntKind.i64)) cf32 xs = some ys ∧ ys.Perm xs ∧ ∀ i j (hij : i < j) (hj : j < ys.length), (ys[i]'(Nat.lt_trans hij hj)).1 ≤ ys[j].1 := by
  have hs := Go.Sort.pdq_sorts (ltOf (cmpC (Ty.pair (Ty.int IntKind.i64) (Ty.int IntKind.i64)) cf32)) (swo_cmpC swo32) xs.toArray 0 xs.length (Lib.bitLen xs.length) true true (Nat.zero_le _) (by simp) (Or.inl rfl)
  have key : ∀ d : Array Sp, PermIn 0 xs.length xs.toArray d ∧ SortedIn (ltOf (cmpC (Ty.pair (Ty.int IntKind.i64) (Ty.int IntKind.i64)) cf32)) 0 xs.length d → d.toList.Perm xs ∧ ∀ i j (hij : i < j) (hj : j < d.toList.length), (d.toList[i]'(Nat.lt_trans hij hj)).1 ≤ d.toList[j].1 := fun d hs => by
    obtain ⟨⟨h1, _, h3⟩, h4⟩ := hs
    have hsz : d.size = xs.length := by simpa using h1
    have hp : d.toList.Perm xs := by
      have e1 : d.extract 0 xs.length = d := by rw [← hsz]; simp
      have e2 : xs.toArray.extract 0 xs.length = xs.toArray := by simp
      rw [e1, e2] at h3
      simpa using h3
    refine ⟨hp, fun i j hij hj => ?_⟩
    have hj' : j < d.size := by simpa using hj
    have h5 := h4 i j (Nat.zero_le _) hij (by omega)
    rw [getElem!_pos d j hj', getElem!_pos d i (by omega)] at h5
    have m1 := hin _ (hp.mem_iff.1 (List.getElem_mem (show i < d.toList.length from Nat.lt_trans hij hj)))
    have m2 := hin _ (hp.mem_iff.1 (List.getElem_mem hj))
    have g1 : d.toList[i]'(Nat.lt_trans hij hj) = d[i]'(by omega) := Array.getElem_toList ..
    have g2 : d.toList[j] = d[j] := Array.getElem_toList ..
    rw [g1] at m1 ⊢
    rw [g2] at m2 ⊢
    have e : ltOf (cmpC (Ty.pair (Ty.int IntKind.i64) (Ty.int IntKind.i64)) cf32) d[j] (d[i]'(by omega)) = ltOf cf32 (clampT (Ty.pair (Ty.int IntKind.i64) (Ty.int IntKind.i64)) d[j]) (clampT (Ty.pair (Ty.int IntKind.i64) (Ty.int IntKind.i64)) (d[i]'(by omega))) := rfl
    rw [e, lt32] at h5
    have h5 := of_decide_eq_false h5
    have w1 : (clampT (Ty.pair (Ty.int IntKind.i64) (Ty.int IntKind.i64)) d[j]).1 = d[j].1 := wrap_in m2.1.1 m2.1.2
    have w2 : (clampT (Ty.pair (Ty.int IntKind.i64) (Ty.int IntKind.i64)) (d[i]'(by omega))).1 = (d[i]'(by omega)).1 := wrap_in m1.1.1 m1.1.2
    rw [w1, w2] at h5
    exact Int.not_lt.1 h5
  unfold sortM
  rw [decide_eq_true (by omega)]
  exact ⟨_, rfl, key _ hs⟩
/-! ### what Agree answers -/
def Agr (l : List Sp) (o : Sp × Int) : Prop := (o.2 = 0 ∧ o.1 = (0, 0) ∧ ∀ s, cnt l s ≤ 0) ∨
  (0 < o.2 ∧ cnt l o.1.1 = o.2 ∧ (∀ s, s < o.1.1 → cnt l s < o.2) ∧ o.1.1 < o.1.2 ∧ cnt l o.1.2 < o.2 ∧ (∀ s, o.1.1 ≤ s → s < o.1.2 → cnt l s = o.2) ∧ ∀ s, cnt l s ≤ o.2)
theorem Agr.unique {l : List Sp} {o o' : Sp × Int} (h : Agr l o) (h' : Agr l o') : o = o' := by
  obtain ⟨⟨F, T⟩, M⟩ := o
  obtain ⟨⟨F', T'⟩, M'⟩ := o'
  rcases h with ⟨a1, a2, a3⟩ | ⟨a1, a2, a3, a4, a5, a6, a7⟩ <;> rcases h' with ⟨b1, b2, b3⟩ | ⟨b1, b2, b3, b4, b5, b6, b7⟩
  · simp only at a1 a2 b1 b2
    rw [a1, a2, b1, b2]
  · have := a3 F'
    simp only at b1 b2
    omega
  · have := b3 F
    simp only at a1 a2
    omega
  · simp only at a1 a2 a3 a4 a5 a6 a7 b1 b2 b3 b4 b5 b6 b7
    have eM : M = M' := by have := a7 F'; have := b7 F; omega
    subst eM
    have eF : F = F' := by
      rcases Int.lt_trichotomy F F' with h | h | h
      · have := b3 F h; omega
      · exact h
      · have := a3 F' h; omega
    subst eF
    have eT : T = T' := by
      rcases Int.lt_trichotomy T T' with h | h | h
      · have := b6 T (by omega) h; omega
      · exact h
      · have := a6 T' (by omega) h; omega
    rw [eT]
theorem m13_ok {l : List Sp} (hl : l.length ≤ 20) (hin : ∀ p ∈ l, i64 p.1 ∧ i64 p.2) : Ans (m13 l) (Agr l) := by
  unfold m13
  refine Ans.seq (edg_loop (by omega) rfl) ?_
  have hel := edg_len l
  obtain ⟨r, r1, r2, r3⟩ := sorted_ok (xs := edg l) (fun q hq => by
    obtain ⟨h1, p, hp, h2⟩ := edg_mem hq
    have h3 := hin p hp
    refine ⟨?_, by unfold i64; omega⟩
    rcases h2 with h | h
    · rw [h]; exact h3.1
    · rw [h]; exact h3.2) (by omega)
  refine Ans.seq r1 ?_
  have hrl : r.length ≤ 40 := by rw [r2.length_eq]; omega
  have hby : ∀ q ∈ r, q.2 = 1 ∨ q.2 = -1 := fun q hq => (edg_mem (r2.mem_iff.1 hq)).1
  have hc : ∀ s, wgt r s = cnt l s := fun s => (wgt_perm s r2).trans (wgt_edg s l)
  have hdrop : ∀ {k : Nat} {q : Sp}, q ∈ r.drop k → ∃ j, ∃ hj : j < r.length, k ≤ j ∧ r[j] = q := fun {k q} hq => by
    obtain ⟨i, hi, e⟩ := List.getElem_of_mem hq
    rw [List.getElem_drop] at e
    exact ⟨k + i, by rw [List.length_drop] at hi; omega, by omega, e⟩
  have hmono : ∀ i j (hij : i ≤ j) (hj : j < r.length), (r[i]'(Nat.lt_of_le_of_lt hij hj)).1 ≤ r[j].1 := fun i j hij hj => by
    rcases Nat.lt_or_ge i j with h | h
    · exact r3 i j h hj
    · have : i = j := by omega
      subst this; exact Int.le_refl _
  refine Ans.bind (P := fun o => Agr l ((o.2.1, o.2.2), o.1)) ?_ fun o ho => Ans.some ho
  refine Ans.loop (fun k (s : Int × Int × Bool × Int × Int × Int) => s.2.2.2.1 = (k : Int) ∧ s.2.1 = tot (r.take k) ∧ 0 ≤ s.1 ∧ s.1 ≤ (k : Int) ∧ (∀ z, (∀ q ∈ r.drop k, z < q.1) → cnt l z ≤ s.1) ∧
    (s.1 = 0 → s.2.2.1 = false ∧ s.2.2.2.2.1 = 0 ∧ s.2.2.2.2.2 = 0) ∧
    (0 < s.1 → cnt l s.2.2.2.2.1 = s.1 ∧ (∀ q ∈ r.drop k, s.2.2.2.2.1 < q.1) ∧ ∀ z, z < s.2.2.2.2.1 → cnt l z < s.1) ∧
    (s.2.2.1 = true → 0 < s.1 ∧ ∀ z, (∀ q ∈ r.drop k, z < q.1) → s.2.2.2.2.1 ≤ z → cnt l z = s.1) ∧
    (s.2.2.1 = false → 0 < s.1 → s.2.2.2.2.1 < s.2.2.2.2.2 ∧ cnt l s.2.2.2.2.2 < s.1 ∧ ∀ z, s.2.2.2.2.1 ≤ z → z < s.2.2.2.2.2 → cnt l z = s.1)) r.length
    ⟨rfl, rfl, Int.le_refl _, Int.le_refl _, fun z hz => (by
      have hz : ∀ q ∈ r, z < q.1 := hz
      have e := wgt_none hz
      rw [hc] at e
      exact Int.le_of_eq e), fun _ => ⟨rfl, rfl, rfl⟩, fun h => (Int.lt_irrefl _ h).elim, fun h => Bool.noConfusion h, fun _ h => (Int.lt_irrefl _ h).elim⟩ fun k s hk hs => ?_
  obtain ⟨M, now, op, i, F, T⟩ := s
  obtain ⟨g1, g2, g3, g4, g5, g6, g7, g8, g9⟩ := hs
  simp only at g1 g2 g3 g4 g5 g6 g7 g8 g9
  subst g1
  dsimp only
  by_cases hlt : k < r.length
  · have ek : IntKind.wrap IntKind.i64 ((k : Int) + 1) = ((k + 1 : Nat) : Int) := by rw [wrap_in (by omega) (by omega)]; rfl
    have htk : tot (r.take (k + 1)) = tot (r.take k) + r[k].2 := by
      rw [List.take_succ_eq_append_getElem hlt, tot_app]
      show _ + (r[k].2 + 0) = _
      rw [Int.add_zero]
    have hsz := tot_sz (e := r.take (k + 1)) fun q hq => hby q (List.mem_of_mem_take hq)
    have hlen : (r.take (k + 1)).length = k + 1 := by rw [List.length_take]; omega
    rw [hlen] at hsz
    have hnow : IntKind.wrap IntKind.i64 (now + r[k].2) = tot (r.take (k + 1)) := by rw [g2, ← htk]; exact wrap_in (by omega) (by omega)
    have hchk : chkM (k : Int) (lenM r) = some () := by
      unfold chkM
      rw [decide_eq_true (by omega), decide_eq_true (by show (k : Int) < (r.length : Int); omega)]
    have D1 : ∀ z, (∀ q ∈ r.drop k, z < q.1) → z < r[k].1 := fun z hz => hz _ (by rw [List.drop_eq_getElem_cons hlt]; exact List.mem_cons_self ..)
    have D2 : ∀ z, (∀ q ∈ r.drop k, z < q.1) → ∀ q ∈ r.drop (k + 1), z < q.1 := fun z hz q hq => hz q (by rw [List.drop_eq_getElem_cons hlt]; exact List.mem_cons_of_mem _ hq)
    have D3 : ∀ z, z < r[k].1 → ∀ q ∈ r.drop k, z < q.1 := fun z hz q hq => by
      obtain ⟨j, hj, hkj, e⟩ := hdrop hq
      have := hmono k j hkj hj
      rw [← e]; omega
    have D4 : ∀ z, (∀ q ∈ r.drop (k + 1), z < q.1) → r[k].1 ≤ z → cnt l z = tot (r.take (k + 1)) := fun z hz hkz => by
      have e : wgt (r.take (k + 1) ++ r.drop (k + 1)) z = cnt l z := by rw [List.take_append_drop]; exact hc z
      rw [← e, wgt_app, wgt_none hz, wgt_all (e := r.take (k + 1)) fun q hq => by
        obtain ⟨j, hj, e⟩ := List.getElem_of_mem hq
        rw [List.getElem_take] at e
        rw [hlen] at hj
        have := hmono j k (by omega) hlt
        rw [← e]; omega]
      omega
    rw [ltI (by show (k : Int) < (r.length : Int); omega), cond_true, hchk, Option.bind_some, idxM_lt hlt, Option.bind_some, ek, hnow]
    have fin : ∀ (hend : ∀ q ∈ r.drop (k + 1), r[k].1 < q.1), Ans (bif ltM M (tot (r.take (k + 1))) then
            some (Sum.inl (tot (r.take (k + 1)), tot (r.take (k + 1)), true, ((k + 1 : Nat) : Int), r[k].1, T))
          else
            bif PE.andM op (ltM (tot (r.take (k + 1))) M) then
              some (Sum.inl (M, tot (r.take (k + 1)), false, ((k + 1 : Nat) : Int), F, r[k].1))
            else some (Sum.inl (M, tot (r.take (k + 1)), op, ((k + 1 : Nat) : Int), F, T))) (Nxt (fun (s : Int × Int × Bool × Int × Int × Int) => k < r.length ∧ s.2.2.2.1 = ((k + 1 : Nat) : Int) ∧ s.2.1 = tot (r.take (k + 1)) ∧ 0 ≤ s.1 ∧ s.1 ≤ ((k + 1 : Nat) : Int) ∧ (∀ z, (∀ q ∈ r.drop (k + 1), z < q.1) → cnt l z ≤ s.1) ∧
    (s.1 = 0 → s.2.2.1 = false ∧ s.2.2.2.2.1 = 0 ∧ s.2.2.2.2.2 = 0) ∧
    (0 < s.1 → cnt l s.2.2.2.2.1 = s.1 ∧ (∀ q ∈ r.drop (k + 1), s.2.2.2.2.1 < q.1) ∧ ∀ z, z < s.2.2.2.2.1 → cnt l z < s.1) ∧
    (s.2.2.1 = true → 0 < s.1 ∧ ∀ z, (∀ q ∈ r.drop (k + 1), z < q.1) → s.2.2.2.2.1 ≤ z → cnt l z = s.1) ∧
    (s.2.2.1 = false → 0 < s.1 → s.2.2.2.2.1 < s.2.2.2.2.2 ∧ cnt l s.2.2.2.2.2 < s.1 ∧ ∀ z, s.2.2.2.2.1 ≤ z → z < s.2.2.2.2.2 → cnt l z = s.1)) fun (o : Int × Int × Int) => Agr l ((o.2.1, o.2.2), o.1)) := fun hend => by
      have hN := D4 r[k].1 hend (Int.le_refl _)
      generalize tot (r.take (k + 1)) = N at *
      by_cases h1 : M < N
      · rw [ltI h1, cond_true]
        refine Ans.some ⟨hlt, rfl, rfl, by show 0 ≤ N; omega, by show N ≤ _; omega, fun z hz => ?_, fun h => ?_, fun _ => ⟨hN, hend, fun z hz => ?_⟩, fun _ => ⟨by show 0 < N; omega, fun z hz hF => D4 z hz hF⟩, fun h => Bool.noConfusion h⟩
        · show cnt l z ≤ N
          rcases Int.lt_or_le z r[k].1 with h | h
          · have := g5 z (D3 z h); omega
          · have := D4 z hz h; omega
        · have h : N = 0 := h
          omega
        · have := g5 z (D3 z hz)
          show cnt l z < N
          omega
      · rw [geI (by omega), cond_false]
        cases op with
        | true =>
          obtain ⟨k1, k2⟩ := g8 rfl
          obtain ⟨k3, k4, k5⟩ := g7 k1
          rw [andT]
          by_cases h2 : N < M
          · rw [ltI h2, cond_true]
            refine Ans.some ⟨hlt, rfl, rfl, g3, by show M ≤ _; omega, fun z hz => ?_, fun h => ?_, fun _ => ⟨k3, D2 _ k4, k5⟩, fun h => Bool.noConfusion h, fun _ _ => ⟨D1 _ k4, by show cnt l r[k].1 < M; omega, fun z hz1 hz2 => k2 z (D3 z hz2) hz1⟩⟩
            · show cnt l z ≤ M
              rcases Int.lt_or_le z r[k].1 with h | h
              · exact g5 z (D3 z h)
              · have := D4 z hz h; omega
            · have h : M = 0 := h
              omega
          · rw [geI (by omega), cond_false]
            refine Ans.some ⟨hlt, rfl, rfl, g3, by show M ≤ _; omega, fun z hz => ?_, g6, fun _ => ⟨k3, D2 _ k4, k5⟩, fun _ => ⟨k1, fun z hz hF => ?_⟩, fun h => Bool.noConfusion h⟩
            · show cnt l z ≤ M
              rcases Int.lt_or_le z r[k].1 with h | h
              · exact g5 z (D3 z h)
              · have := D4 z hz h; omega
            · show cnt l z = M
              rcases Int.lt_or_le z r[k].1 with h | h
              · exact k2 z (D3 z h) hF
              · have := D4 z hz h; omega
        | false =>
          rw [andF, cond_false]
          refine Ans.some ⟨hlt, rfl, rfl, g3, by show M ≤ _; omega, fun z hz => ?_, g6, fun h => ⟨(g7 h).1, D2 _ (g7 h).2.1, (g7 h).2.2⟩, fun h => Bool.noConfusion h, g9⟩
          show cnt l z ≤ M
          rcases Int.lt_or_le z r[k].1 with h | h
          · exact g5 z (D3 z h)
          · have := D4 z hz h; omega
    by_cases hn : k + 1 < r.length
    · have hchk2 : chkM (((k + 1 : Nat) : Int)) (lenM r) = some () := by
        unfold chkM
        rw [decide_eq_true (by omega), decide_eq_true (by show ((k + 1 : Nat) : Int) < (r.length : Int); omega)]
      rw [ltI (a := ((k + 1 : Nat) : Int)) (by show ((k + 1 : Nat) : Int) < (r.length : Int); omega), cond_true, hchk2, Option.bind_some, cond_true, idxM_lt hn, Option.bind_some, Option.bind_some, andT]
      by_cases he : r[k + 1].1 = r[k].1
      · rw [eqI he, cond_true]
        have D5 : ∀ z, (∀ q ∈ r.drop (k + 1), z < q.1) → ∀ q ∈ r.drop k, z < q.1 := fun z hz => D3 z (by rw [← he]; exact hz _ (by rw [List.drop_eq_getElem_cons hn]; exact List.mem_cons_self ..))
        exact Ans.some ⟨hlt, rfl, rfl, g3, by show M ≤ _; omega, fun z hz => g5 z (D5 z hz), g6, fun h => ⟨(g7 h).1, D2 _ (g7 h).2.1, (g7 h).2.2⟩, fun h => ⟨(g8 h).1, fun z hz => (g8 h).2 z (D5 z hz)⟩, g9⟩
      · rw [neI he, cond_false]
        refine fin fun q hq => ?_
        obtain ⟨j, hj, hkj, e⟩ := hdrop hq
        have h1 := hmono (k + 1) j hkj hj
        have h2 := hmono k (k + 1) (by omega) hn
        rw [← e]; omega
    · rw [geI (a := ((k + 1 : Nat) : Int)) (by show (r.length : Int) ≤ ((k + 1 : Nat) : Int); omega), cond_false, Option.bind_some, cond_false, Option.bind_some, andF, cond_false]
      refine fin fun q hq => ?_
      rw [List.drop_eq_nil_of_le (by omega)] at hq
      cases hq
  · have e : k = r.length := by omega
    have hD : ∀ z : Int, ∀ q ∈ r.drop k, z < q.1 := fun z q hq => by
      rw [List.drop_eq_nil_of_le (by omega)] at hq
      cases hq
    rw [geI (by show (r.length : Int) ≤ (k : Int); omega), cond_false]
    refine Ans.some ?_
    have hop : op = false := by
      cases op with
      | false => rfl
      | true =>
        obtain ⟨k1, k2⟩ := g8 rfl
        have h1 := k2 (max F 9223372036854775807) (hD _) (by omega)
        obtain ⟨p, hp, _, h3⟩ := cnt_pos (l := l) (s := max F 9223372036854775807) (by omega)
        have := (hin p hp).2.2
        omega
    by_cases hM : 0 < M
    · obtain ⟨k3, _, k5⟩ := g7 hM
      obtain ⟨k6, k7, k8⟩ := g9 hop hM
      exact .inr ⟨hM, k3, k5, k6, k7, k8, fun s => g5 s (hD s)⟩
    · have h0 : M = 0 := by omega
      obtain ⟨_, k2, k3⟩ := g6 h0
      refine .inl ⟨h0, by show (F, T) = (0, 0); rw [k2, k3], fun s => ?_⟩
      have := g5 s (hD s)
      omega
end Go.Proofs.Ytpledmmfkbcelaa
/-
  Clock: the law ClockAgrees.
  No conditions.
-/
namespace Go.Proofs.Ytpledmmfkbcelaa
open Go Go.Abs Go.PE
set_option linter.unusedVariables false
theorem chk_ok {i n : Int} (h0 : 0 ≤ i) (h : i < n) : chkM i n = some () := by
  unfold chkM
  rw [decide_eq_true h0, decide_eq_true h]
theorem agrees_ok {l : List Sp} (hl : l.length ≤ 12) (hin : ∀ p ∈ l, i64 p.1 ∧ i64 p.2) (s : Int) : m29 (l, s) = some true := by
  obtain ⟨⟨⟨F, T⟩, M⟩, e, A⟩ := m13_ok (l := l) (by omega) hin
  unfold m29
  refine bind_of e ?_
  dsimp only
  refine Ans.is (Ans.bind (P := fun o : List Int => o.length ≤ 30) ?_ ?_)
  · refine Ans.loop (fun k (z : Int × List Int) => z.1 = (k : Int) ∧ z.2.length = 1 + 2 * k) l.length ⟨rfl, rfl⟩ fun k z hk hz => ?_
    obtain ⟨i, o⟩ := z
    obtain ⟨h1, h2⟩ := hz
    simp only at h1 h2
    subst h1
    dsimp only
    by_cases hlt : k < l.length
    · rw [ltI (by show (k : Int) < (l.length : Int); omega), cond_true, idxM_lt hlt, Option.bind_some, Option.bind_some, appM_of (by show (o.length + 2) * 8 ≤ 140737488355328; omega), Option.bind_some]
      refine Ans.some ⟨hlt, ?_, ?_⟩
      · show IntKind.wrap IntKind.i64 ((k : Int) + 1) = _
        rw [wrap_in (by omega) (by omega)]; rfl
      · show (o ++ _).length = _
        rw [List.length_append, h2]
        show 1 + 2 * k + 2 = _
        omega
    · rw [geI (by show (l.length : Int) ≤ (k : Int); omega), cond_false]
      exact Ans.some (by show o.length ≤ 30; omega)
  · intro o ho
    rcases A with ⟨a1, a2, a3⟩ | ⟨a1, a2, a3, a4, a5, a6, a7⟩
    · simp only at a1 a2
      obtain ⟨hF, hT⟩ := Prod.mk.inj a2
      subst a1 hF hT
      rw [eqI rfl, cond_true]
      refine Ans.of (bind_of (x := .inl ()) ?_ ?_) rfl
      · exact loopM_fn (fun k => (k : Int)) l.length (fun k hk => by
          have hge : l[k].2 ≤ l[k].1 := Classical.byContradiction fun h => by
            have h1 := cnt_of (s := l[k].1) (List.getElem_mem hk) (Int.le_refl _) (by omega)
            have := a3 l[k].1
            omega
          rw [ltI (by show (k : Int) < (l.length : Int); omega), cond_true, idxM_lt hk, Option.bind_some, Option.bind_some, geI hge, cond_false, wrap_in (by omega) (by omega)]
          rfl) (by
          rw [geI (Int.le_refl _), cond_false])
      · rfl
    · simp only at a1 a2 a3 a4 a5 a6 a7
      rw [neI (show M ≠ 0 by omega), cond_false, geI (show (0 : Int) ≤ M by omega), gtI a4, orF, notF, cond_true, m41_eq (by omega) F, Option.bind_some, a2, eqI rfl, notT, orF, notF, cond_true, m41_eq (by omega) T, Option.bind_some, gtI a5, orF, cond_false]
      refine Ans.of (bind_of (x := .inl ()) ?_ ?_) rfl
      · exact loopM_fn (fun k => (k : Int)) o.length (fun k hk => by
          have hlt : (k : Int) < lenM o := by show (k : Int) < (o.length : Int); omega
          have b1 := a7 o[k]
          have b2 := a6 o[k]
          have b3 := a3 o[k]
          rw [ltI hlt, cond_true, chk_ok (by omega) hlt, Option.bind_some, idxM_lt hk, Option.bind_some, m41_eq (by omega), Option.bind_some, Option.bind_some, Option.bind_some, geI b1]
          by_cases h1 : F ≤ o[k]
          · rw [leI h1, cond_true, cond_true, Option.bind_some, Option.bind_some, orF, andT]
            have hf : PE.andM (ltM o[k] T) (PE.notM (eqM (cnt l o[k]) M)) = false := by
              by_cases h2 : o[k] < T
              · rw [ltI h2, eqI (b2 h1 h2)]; rfl
              · rw [geI (by omega), andF]
            rw [hf, notF, cond_true, cond_true, Option.bind_some, Option.bind_some, orF, geI h1, andF, cond_false, wrap_in (by omega) (by omega)]
            rfl
          · rw [gtI (by omega), cond_false, cond_false, Option.bind_some, Option.bind_some, andF, andF, orF, notF, cond_true, cond_true, Option.bind_some, Option.bind_some, orF, ltI (by omega), andT, neI (by have := b3 (by omega); omega), cond_false, wrap_in (by omega) (by omega)]
            rfl) (by
          rw [geI (Int.le_refl _), cond_false])
      · rfl
theorem law8_ok (x : List (Int × Int) × Int) (h1 : ∀ p ∈ x.1, i64 p.1 ∧ i64 p.2) (h2 : i64 x.2) : m8 x = some true := by
  unfold m8
  refine bind_of sane_ok ?_
  rw [notT, cond_false]
  have hm : min (lenM x.1) 12 ≤ (x.1.length : Int) := Int.min_le_left _ _
  have hm0 : 0 ≤ min (lenM x.1) 12 := by
    have : 0 ≤ lenM x.1 := Int.natCast_nonneg _
    omega
  refine bind_of (sliceM_of (Int.le_refl _) hm0 hm) ?_
  rw [show (0 : Int).toNat = 0 from rfl, List.drop_zero]
  have hl : (x.1.take (min (lenM x.1) 12).toNat).length ≤ 12 := by
    rw [List.length_take]
    have := Int.min_le_right (lenM x.1) 12
    omega
  have hin : ∀ p ∈ x.1.take (min (lenM x.1) 12).toNat, i64 p.1 ∧ i64 p.2 := fun p hp => h1 p (List.mem_of_mem_take hp)
  generalize x.1.take (min (lenM x.1) 12).toNat = l at *
  refine Ans.is (Ans.bind (P := fun o : List Sp => o.length ≤ 12 ∧ ∀ p ∈ o, i64 p.1 ∧ i64 p.2) ?_ ?_)
  · refine Ans.loop (fun k (z : Int × List Sp) => z.1 = (k : Int) ∧ z.2.length = k ∧ ∀ p ∈ z.2, i64 p.1 ∧ i64 p.2) l.length ⟨rfl, rfl, fun p hp => (List.not_mem_nil hp).elim⟩ fun k z hk hz => ?_
    obtain ⟨i, o⟩ := z
    obtain ⟨g1, g2, g3⟩ := hz
    simp only at g1 g2 g3
    subst g1
    dsimp only
    by_cases hlt : k < l.length
    · have hp := hin _ (List.getElem_mem hlt)
      rw [ltI (by show (k : Int) < (l.length : Int); omega), cond_true, idxM_lt hlt, Option.bind_some, m19_eq hp.1 (by omega), Option.bind_some, Option.bind_some, m19_eq hp.2 (by omega), Option.bind_some, appM_of (by show (o.length + 1) * 16 ≤ 140737488355328; omega), Option.bind_some]
      refine Ans.some ⟨hlt, ?_, ?_, ?_⟩
      · show IntKind.wrap IntKind.i64 ((k : Int) + 1) = _
        rw [wrap_in (by omega) (by omega)]; rfl
      · show (o ++ _).length = _
        rw [List.length_append, g2]; rfl
      · intro p hp
        rcases List.mem_append.1 hp with hp | hp
        · exact g3 p hp
        · rw [List.mem_singleton.1 hp]
          have a1 := pk_lo (c := l[k].1) (n := 40) (by omega)
          have a2 := pk_hi (c := l[k].1) (n := 40) (by omega)
          have a3 := pk_lo (c := l[k].2) (n := 40) (by omega)
          have a4 := pk_hi (c := l[k].2) (n := 40) (by omega)
          unfold i64
          dsimp only
          omega
    · rw [geI (by show (l.length : Int) ≤ (k : Int); omega), cond_false]
      exact Ans.some ⟨by show o.length ≤ 12; omega, g3⟩
  · intro o ho
    refine Ans.of (bind_of (agrees_ok hl hin _) ?_) rfl
    rw [cond_true]
    exact bind_of (m19_eq h2 (by omega)) (bind_of (agrees_ok ho.1 ho.2 _) rfl)
end Go.Proofs.Ytpledmmfkbcelaa
/-
  Clock: the reference's Spread, Valid, At and Reads compute what Clock's compute.
  No conditions.
-/
namespace Go.Proofs.Ytpledmmfkbcelaa
open Go Go.Abs Go.PE
set_option linter.unusedVariables false
instance fitsDec (d x n : Int) : Decidable (fits d x n) := inferInstanceAs (Decidable (_ ∧ _))
theorem up_loop {body : Int → Option (Int ⊕ Int)} {a b : Int} (hab : a ≤ b) (h : ∀ s, a ≤ s → s < b → body s = some (.inl (s + 1))) (he : body b = some (.inr b)) : loopM body a = some b := by
  have hk := loopM_fn (body := body) (r := b) (fun k => a + (k : Int)) (b - a).toNat (fun k hk => by
    have := h (a + k) (by omega) (by omega)
    rw [this]
    have e : a + (k : Int) + 1 = a + ((k + 1 : Nat) : Int) := by omega
    rw [e]) (by
    have e : a + ((b - a).toNat : Int) = b := by omega
    rw [e, he])
  have e : a + ((0 : Nat) : Int) = a := Int.add_zero a
  rw [e] at hk
  exact hk
theorem m30_eq {d x n : Int} (hd : 0 ≤ d ∧ d ≤ 100) (hx : 0 ≤ x ∧ x ≤ 20000000000) (hn : 0 ≤ n ∧ n ≤ 10000000) : m30 (d, x, n) = some (decide (fits d x n)) := by
  have a1 : 0 ≤ (1000 - d) * x := Int.mul_nonneg (by omega) hx.1
  have a2 : (1000 - d) * x ≤ 1000 * x := Int.mul_le_mul_of_nonneg_right (by omega) hx.1
  have a3 : 0 ≤ (1000 + d) * x := Int.mul_nonneg (by omega) hx.1
  have a4 : (1000 + d) * x ≤ 1100 * x := Int.mul_le_mul_of_nonneg_right (by omega) hx.1
  unfold m30
  dsimp only
  rw [wrap_in (n := 1000 - d) (by omega) (by omega), wrap_in (n := (1000 - d) * x) (by omega) (by omega), wrap_in (n := (1000 - d) * x - 1000) (by omega) (by omega), wrap_in (n := 1000 * n) (by omega) (by omega), wrap_in (n := 1000 + d) (by omega) (by omega), wrap_in (n := (1000 + d) * x) (by omega) (by omega), wrap_in (n := (1000 + d) * x + 1000) (by omega) (by omega)]
  refine congrArg some (Bool.eq_iff_iff.2 ?_)
  unfold PE.andM
  rw [Bool.and_eq_true, decide_eq_true_iff, decide_eq_true_iff, decide_eq_true_iff]
  exact Iff.rfl
theorem m12_in {d n : Int} (hd : 0 ≤ d ∧ d ≤ 100) (hn : 0 ≤ n ∧ n ≤ 10000000) : m12 (d, n) = some (slo d n, shi d n) := by
  have s1 := slo_sz hd hn
  have s2 := shi_sz hd hn
  have s3 := slo_le_shi hd hn.1
  unfold m12
  dsimp only
  rw [geI (a := d) (b := 0) (by omega), geI (a := 100) (b := d) (by omega), geI (a := n) (b := 0) (by omega), geI (a := 10000000) (b := n) (by omega), orF, orF, orF, cond_false, wrap_in (n := n - 1) (by omega) (by omega), wrap_in (n := 1000 * (n - 1)) (by omega) (by omega), wrap_in (n := 1000 + d) (by omega) (by omega), divM_pos (by omega), Option.bind_some]
  have hq : -1000 ≤ (1000 * (n - 1)).tdiv (1000 + d) ∧ (1000 * (n - 1)).tdiv (1000 + d) ≤ 10000000000 ∧ max ((1000 * (n - 1)).tdiv (1000 + d) - 1) 0 ≤ slo d n := by
    by_cases h : 0 < n
    · have h2 := ediv_sz (a := 1000 * (n - 1)) (b := 1000 + d) (by omega) (by omega)
      rw [Int.tdiv_eq_ediv_of_nonneg (by omega)]
      have e : slo d n = 1000 * (n - 1) / (1000 + d) + 1 := if_pos h
      omega
    · have e : n = 0 := by omega
      subst e
      have h2 := ediv_sz (a := 1000) (b := 1000 + d) (by omega) (by omega)
      have e1 : (1000 * ((0 : Int) - 1)) = -1000 := rfl
      rw [e1, Int.neg_tdiv, Int.tdiv_eq_ediv_of_nonneg (by omega)]
      omega
  generalize (1000 * (n - 1)).tdiv (1000 + d) = q at *
  rw [wrap_in (n := q) (by omega) (by omega), wrap_in (n := q - 1) (by omega) (by omega)]
  refine bind_of (x := slo d n) (up_loop hq.2.2 (fun s h1 h2 => ?_) ?_) ?_
  · rw [m30_eq hd (by omega) hn, Option.bind_some, decide_eq_false (fun h => by have := (fits_iff hd hn.1 (by omega)).1 h; omega), notF, cond_true, wrap_in (by omega) (by omega)]
  · rw [m30_eq hd (by omega) hn, Option.bind_some, decide_eq_true ((fits_iff hd hn.1 (by omega)).2 ⟨Int.le_refl _, s3⟩), notT, cond_false]
  have h2 := ediv_sz (a := 1000 * n) (b := 1000 - d) (by omega) (by omega)
  have h3 : 1000 * n / (1000 - d) * (1000 - d) ≤ 1000 * n := Int.ediv_mul_le _ (by omega)
  have h4 : 1000 * n / (1000 - d) - 1 ≤ shi d n := (shi_iff hd).2 (by
    rw [Int.mul_sub, Int.mul_comm]; omega)
  rw [wrap_in (n := 1000 * n) (by omega) (by omega), wrap_in (n := 1000 - d) (by omega) (by omega), divM_of (by omega) (by omega) (by omega), Option.bind_some]
  generalize 1000 * n / (1000 - d) = q2 at *
  rw [wrap_in (n := q2 - 1) (by omega) (by omega)]
  refine bind_of (x := shi d n) (up_loop (by omega) (fun s h1 h2 => ?_) ?_) rfl
  · rw [wrap_in (n := s + 1) (by omega) (by omega), m30_eq hd (by omega) hn, Option.bind_some, decide_eq_true ((fits_iff hd hn.1 (by omega)).2 ⟨by omega, by omega⟩), cond_true]
  · rw [wrap_in (n := shi d n + 1) (by omega) (by omega), m30_eq hd (by omega) hn, Option.bind_some, decide_eq_false (fun h => by have := (fits_iff hd hn.1 (by omega)).1 h; omega), cond_false]
theorem m12_eq (d n : Int) : m12 (d, n) = m11 (d, n) := by
  by_cases h : 0 ≤ d ∧ d ≤ 100 ∧ 0 ≤ n ∧ n ≤ 10000000
  · rw [m12_in ⟨h.1, h.2.1⟩ h.2.2, spr_ok ⟨h.1, h.2.1⟩ h.2.2]
  · rw [spr_out h]
    unfold m12
    dsimp only
    have e : PE.orM (PE.orM (PE.orM (ltM d (0 : Int)) (ltM (100 : Int) d)) (ltM n (0 : Int))) (ltM (10000000 : Int) n) = true := by
      unfold PE.orM
      simp only [Bool.or_eq_true, decide_eq_true_eq]
      omega
    rw [e, cond_true]
theorem m11_any (d n : Int) : ∃ r, m11 (d, n) = some r := by
  by_cases h : 0 ≤ d ∧ d ≤ 100 ∧ 0 ≤ n ∧ n ≤ 10000000
  · exact ⟨_, spr_ok ⟨h.1, h.2.1⟩ h.2.2⟩
  · exact ⟨_, spr_out h⟩
/-! ### Valid -/
def rdBad (r : Rd) : Bool := PE.orM (PE.orM (PE.orM (PE.orM (ltM r.1 (0 : Int)) (ltM (10000000 : Int) r.1)) (ltM r.2.1 (0 : Int))) (ltM r.2.2 r.2.1)) (ltM (10000000 : Int) r.2.2)
theorem rdBad_false {r : Rd} : rdBad r = false ↔ 0 ≤ r.1 ∧ r.1 ≤ 10000000 ∧ 0 ≤ r.2.1 ∧ r.2.1 ≤ r.2.2 ∧ r.2.2 ≤ 10000000 := by
  unfold rdBad PE.orM
  simp only [Bool.or_eq_false_iff, decide_eq_false_iff_not]
  omega
theorem m18_eq (x : Clk) : m18 x = some (vld x) := by
  unfold m18 vld
  by_cases h : 0 ≤ x.1 ∧ x.1 ≤ 100 ∧ x.2.length ≤ 12
  · obtain ⟨h0, h1, h2⟩ := h
    rw [geI h0, geI h1, geI (a := 12) (b := lenM x.2) (by show (x.2.length : Int) ≤ 12; omega), decide_eq_true ⟨h0, h1, h2⟩, Bool.true_and]
    show Option.bind (loopM _ _) _ = _
    have key : ∀ (body : Int → Option (Int ⊕ (Unit ⊕ Bool))), (body = fun (s : Int) =>
            bif ltM s (lenM x.2) then
              Option.bind (idxM x.2 s) fun (r : Int × Int × Int) =>
                Option.bind
                  (bif PE.andM (PE.notM (rdBad r)) (ltM (0 : Int) s) then
                    idxM x.2 (IntKind.wrap IntKind.i64 (s - (1 : Int)))
                  else some ((0 : Int), (0 : Int), (0 : Int)))
                  fun (r_1 : Int × Int × Int) =>
                  bif PE.orM (rdBad r) (PE.andM (ltM (0 : Int) s) (leM r.1 r_1.1)) then
                    some (Sum.inr (Sum.inr false))
                  else some (Sum.inl (IntKind.wrap IntKind.i64 (s + (1 : Int))))
            else some (Sum.inr (Sum.inl ()))) → ∀ (d k : Nat) (last : Int), k + d = x.2.length → -1 ≤ last → (k = 0 → last = -1) → (∀ j (hj : j < x.2.length), k = j + 1 → last = x.2[j].1) → loopM body (k : Int) = some (bif vldR last (x.2.drop k) then .inl () else .inr false) := by
      intro body hbody d
      induction d with
      | zero =>
        intro k last hk _ _ _
        have hstep : body (k : Int) = some (.inr (.inl ())) := by
          rw [hbody]
          dsimp only
          rw [geI (by show (x.2.length : Int) ≤ (k : Int); omega), cond_false]
        rw [loopM_eq, hstep, List.drop_eq_nil_of_le (by omega)]
        rfl
      | succ d ih =>
        intro k last hk hl hz hj
        have hkl : k < x.2.length := by omega
        rw [List.drop_eq_getElem_cons hkl]
        unfold vldR
        rw [loopM_eq]
        cases hB : rdBad x.2[k] with
        | true =>
          have hstep : body (k : Int) = some (.inr (.inr false)) := by
            rw [hbody]
            dsimp only
            rw [ltI (by show (k : Int) < (x.2.length : Int); omega), cond_true, idxM_lt hkl, Option.bind_some, hB, notT, andF, cond_false, Option.bind_some, orT, cond_true]
          have hf : decide (last < x.2[k].1 ∧ x.2[k].1 ≤ 10000000 ∧ 0 ≤ x.2[k].2.1 ∧ x.2[k].2.1 ≤ x.2[k].2.2 ∧ x.2[k].2.2 ≤ 10000000) = false := decide_eq_false fun h => by
            have := rdBad_false.2 (show 0 ≤ x.2[k].1 ∧ _ from ⟨by omega, h.2⟩)
            rw [hB] at this; cases this
          rw [hstep, hf]
          rfl
        | false =>
          have hB' := rdBad_false.1 hB
          have ek : IntKind.wrap IntKind.i64 ((k : Int) + 1) = ((k + 1 : Nat) : Int) := by rw [wrap_in (by omega) (by omega)]; rfl
          by_cases hlt : last < x.2[k].1
          · have hstep : body (k : Int) = some (.inl ((k + 1 : Nat) : Int)) := by
              rw [hbody]
              dsimp only
              rw [ltI (by show (k : Int) < (x.2.length : Int); omega), cond_true, idxM_lt hkl, Option.bind_some, hB, notF, andT, ek]
              cases k with
              | zero => rfl
              | succ j =>
                have hlast := hj j (by omega) rfl
                have ej : IntKind.wrap IntKind.i64 (((j + 1 : Nat) : Int) - 1) = (j : Int) := by rw [wrap_in (by omega) (by omega)]; omega
                rw [ltI (show (0 : Int) < ((j + 1 : Nat) : Int) by omega), cond_true, ej, idxM_lt (by omega), Option.bind_some, orF, andT, gtI (by omega), cond_false]
            have ht : decide (last < x.2[k].1 ∧ x.2[k].1 ≤ 10000000 ∧ 0 ≤ x.2[k].2.1 ∧ x.2[k].2.1 ≤ x.2[k].2.2 ∧ x.2[k].2.2 ≤ 10000000) = true := decide_eq_true ⟨hlt, hB'.2⟩
            rw [hstep, ht]
            show loopM body _ = _
            rw [ih (k + 1) x.2[k].1 (by omega) (by omega) (fun h => by omega) (fun j hj' e => (by
              have e : k = j := by omega
              subst e
              rfl))]
            rfl
          · have hstep : body (k : Int) = some (.inr (.inr false)) := by
              rw [hbody]
              dsimp only
              rw [ltI (by show (k : Int) < (x.2.length : Int); omega), cond_true, idxM_lt hkl, Option.bind_some, hB, notF, andT]
              cases k with
              | zero =>
                have := hz rfl
                omega
              | succ j =>
                have hlast := hj j (by omega) rfl
                have ej : IntKind.wrap IntKind.i64 (((j + 1 : Nat) : Int) - 1) = (j : Int) := by rw [wrap_in (by omega) (by omega)]; omega
                rw [ltI (show (0 : Int) < ((j + 1 : Nat) : Int) by omega), cond_true, ej, idxM_lt (by omega), Option.bind_some, orF, andT, leI (by omega), cond_true]
            rw [hstep, decide_eq_false fun h => hlt h.1]
            rfl
    refine bind_of (key _ rfl x.2.length 0 (-1) (by omega) (Int.le_refl _) (fun _ => rfl) (fun j _ e => by omega)) ?_
    rw [List.drop_zero]
    cases vldR (-1) x.2 <;> rfl
  · have e : PE.orM (PE.orM (ltM x.1 (0 : Int)) (ltM (100 : Int) x.1)) (ltM (12 : Int) (lenM x.2)) = true := by
      unfold PE.orM
      simp only [Bool.or_eq_true, decide_eq_true_eq]
      show (x.1 < 0 ∨ 100 < x.1) ∨ 12 < (x.2.length : Int)
      omega
    rw [e, decide_eq_false h]
    rfl
/-! ### bounds, At -/
theorem m37_eq {x : Clk} (hx : Vld x) {l : Int} (hl : 0 ≤ l ∧ l ≤ 10000000) : m37 (x, l) = some (lowOf x.1 l x.2, highOf x.1 l x.2) := by
  unfold m37
  dsimp only
  have hlen := hx.len
  refine bind_of (x := (lowOf x.1 l x.2, highOf x.1 l x.2)) ?_ rfl
  refine loopM_fn (fun k => (lowOf x.1 l (x.2.take k), highOf x.1 l (x.2.take k), (k : Int))) x.2.length (fun k hk => ?_) ?_
  · have hm := hx.mem _ (List.getElem_mem hk)
    have t1 : ∀ {β : Type} (f : β → Rd → β) (z : β), (x.2.take (k + 1)).foldl f z = f ((x.2.take k).foldl f z) x.2[k] := fun f z => by
      rw [List.take_succ_eq_append_getElem hk, List.foldl_append]; rfl
    unfold lowOf highOf
    rw [t1, t1]
    dsimp only
    have s1 := hL_sz hx.d (k := l - x.2[k].1) (by omega)
    have s2 := gH_sz hx.d (k := l - x.2[k].1) (by omega)
    have ek : IntKind.wrap IntKind.i64 ((k : Int) + 1) = ((k + 1 : Nat) : Int) := by rw [wrap_in (by omega) (by omega)]; rfl
    rw [ltI (by show (k : Int) < (x.2.length : Int); omega), cond_true, idxM_lt hk, Option.bind_some, ek]
    by_cases h2 : l = x.2[k].1
    · have e0 : l - x.2[k].1 = 0 := by omega
      have eL : hL x.1 0 = - shi x.1 0 := rfl
      have eG : gH x.1 0 = shi x.1 0 := rfl
      rw [e0, eL] at s1
      rw [e0, eL, eG]
      have s3 := shi_sz hx.d (n := 0) (by omega)
      rw [eqI h2, cond_true, m12_in hx.d (by omega), Option.bind_some, wrap_in (n := x.2[k].2.1 - shi x.1 0) (by omega) (by omega), wrap_in (n := x.2[k].2.2 + shi x.1 0) (by omega) (by omega), Int.sub_eq_add_neg]
      rfl
    · rw [neI h2, cond_false]
      by_cases h1 : x.2[k].1 < l
      · have eL : hL x.1 (l - x.2[k].1) = slo x.1 (l - x.2[k].1) := if_pos (by omega)
        have eG : gH x.1 (l - x.2[k].1) = shi x.1 (l - x.2[k].1) := if_neg (by omega)
        rw [eL] at s1 ⊢
        rw [eG] at s2 ⊢
        rw [ltI h1, cond_true, wrap_in (n := l - x.2[k].1) (by omega) (by omega), m12_in hx.d (by omega), Option.bind_some, wrap_in (n := x.2[k].2.1 + slo x.1 (l - x.2[k].1)) (by omega) (by omega), wrap_in (n := x.2[k].2.2 + shi x.1 (l - x.2[k].1)) (by omega) (by omega)]
        rfl
      · have e0 : -(l - x.2[k].1) = x.2[k].1 - l := by omega
        have eL : hL x.1 (l - x.2[k].1) = - shi x.1 (x.2[k].1 - l) := by rw [← e0]; exact if_neg (by omega)
        have eG : gH x.1 (l - x.2[k].1) = - slo x.1 (x.2[k].1 - l) := by rw [← e0]; exact if_pos (by omega)
        rw [eL] at s1 ⊢
        rw [eG] at s2 ⊢
        rw [geI (by omega), cond_false, wrap_in (n := x.2[k].1 - l) (by omega) (by omega), m12_in hx.d (by omega), Option.bind_some, wrap_in (n := x.2[k].2.1 - shi x.1 (x.2[k].1 - l)) (by omega) (by omega), wrap_in (n := x.2[k].2.2 - slo x.1 (x.2[k].1 - l)) (by omega) (by omega), Int.sub_eq_add_neg, Int.sub_eq_add_neg]
        rfl
  · dsimp only
    rw [geI (Int.le_refl _), cond_false, List.take_length]
theorem m21_eq (x : Clk) (l : Int) : m21 (x, l) = some (atR x l) := by
  unfold m21 atR
  dsimp only
  rw [show (x.1, x.2) = x from rfl, m18_eq, Option.bind_some]
  cases hv : vld x with
  | false => rfl
  | true =>
    rw [notT, orF, Bool.true_and]
    by_cases h : 0 ≤ l ∧ l ≤ 10000000
    · rw [geI h.1, geI h.2, orF, cond_false, m37_eq (vld_of hv) h, Option.bind_some]
      dsimp only
      by_cases h2 : lowOf x.1 l x.2 ≤ highOf x.1 l x.2
      · rw [geI h2, cond_false, decide_eq_true ⟨h.1, h.2, h2⟩]; rfl
      · rw [ltI (by omega), cond_true, decide_eq_false (by omega)]; rfl
    · have e : PE.orM (ltM l 0) (ltM 10000000 l) = true := by
        unfold PE.orM
        simp only [Bool.or_eq_true, decide_eq_true_eq]
        omega
      rw [e, cond_true, decide_eq_false (by omega)]; rfl
theorem m25_eq (x : Clk) (l t : Int) : m25 (x, l, t) = some (PE.andM (eqM (atR x l).2.2 0) (ltM (atR x l).2.1 t)) := by
  unfold m25
  exact bind_of (m21_eq x l) rfl
theorem m27_eq (x : Clk) (l t : Int) : m27 (x, l, t) = some (PE.andM (eqM (atR x l).2.2 0) (ltM t (atR x l).1)) := by
  unfold m27
  exact bind_of (m21_eq x l) rfl
/-! ### Reads -/
theorem down_loop {N : Nat} {p : Int → Bool} (hN : N ≤ 100000000) (mono : ∀ a b : Int, 0 ≤ a → a ≤ b → b < N → p a = true → p b = true) {body : Int × Int → Option ((Int × Int) ⊕ Int)}
    (h1 : ∀ j i : Int, -1 ≤ i → i + 1 < j → j ≤ N → body (j, i) = some (.inl (bif p ((i + j) / 2) then ((i + j) / 2, i) else (j, (i + j) / 2)))) (h2 : ∀ i : Int, -1 ≤ i → i ≤ N → body (i + 1, i) = some (.inr i)) :
    ∃ r, loopM body ((N : Int), -1) = some r ∧ -1 ≤ r ∧ r < N ∧ ∀ a : Int, 0 ≤ a → a < N → (r + 1 ≤ a ↔ p a = true) := by
  obtain ⟨r, e, q⟩ := loopM_from (body := body) (fun k s => -1 ≤ s.2 ∧ s.2 + 1 ≤ s.1 ∧ s.1 ≤ N ∧ s.1 - (s.2 + 1) ≤ N - k ∧ (∀ a : Int, 0 ≤ a → a ≤ s.2 → p a = false) ∧ ∀ a : Int, s.1 ≤ a → a < N → p a = true)
    (fun r => -1 ≤ r ∧ r < N ∧ ∀ a : Int, 0 ≤ a → a < N → (r + 1 ≤ a ↔ p a = true)) N (s := ((N : Int), -1)) ⟨Int.le_refl _, by show (-1 : Int) + 1 ≤ N; omega, Int.le_refl _, by show (N : Int) - (-1 + 1) ≤ N - ((0 : Nat) : Int); omega, fun a h0 h => by have h : a ≤ -1 := h; omega, fun a h h0 => by have h : (N : Int) ≤ a := h; omega⟩ fun k s hk hs => by
    obtain ⟨j, i⟩ := s
    obtain ⟨g1, g2, g3, g4, g5, g6⟩ := hs
    simp only at g1 g2 g3 g4 g5 g6
    by_cases hij : i + 1 < j
    · refine .inl ⟨_, ?_, h1 j i g1 hij g3, ?_⟩
      · exact Int.ofNat_lt.1 (by omega)
      · have m1 : i < (i + j) / 2 := by omega
        have m2 : (i + j) / 2 < j := by omega
        cases hp : p ((i + j) / 2) with
        | true =>
          refine ⟨g1, by show i + 1 ≤ (i + j) / 2; omega, by show (i + j) / 2 ≤ N; omega, by show (i + j) / 2 - (i + 1) ≤ N - ((k + 1 : Nat) : Int); omega, g5, fun a ha hb => ?_⟩
          have ha : (i + j) / 2 ≤ a := ha
          exact mono _ _ (by omega) ha hb hp
        | false =>
          refine ⟨by show -1 ≤ (i + j) / 2; omega, by show (i + j) / 2 + 1 ≤ j; omega, g3, by show j - ((i + j) / 2 + 1) ≤ N - ((k + 1 : Nat) : Int); omega, fun a ha hb => ?_, g6⟩
          have hb : a ≤ (i + j) / 2 := hb
          cases hpa : p a with
          | false => rfl
          | true =>
            have := mono a ((i + j) / 2) ha hb (by omega) hpa
            rw [hp] at this; cases this
    · have e : j = i + 1 := by omega
      subst e
      refine .inr ⟨i, h2 i g1 (by omega), g1, by omega, fun a ha hb => ?_⟩
      constructor
      · intro h; exact g6 a h hb
      · intro h
        refine Classical.byContradiction fun hn => ?_
        rw [g5 a ha (by omega)] at h; cases h
  exact ⟨r, e, q⟩
theorem half2 {i j : Int} (h0 : 0 ≤ i + j) (h : i + j ≤ 1000000000) : divM IntKind.i64 (IntKind.wrap IntKind.i64 (i + j)) 2 = some ((i + j) / 2) := by
  rw [wrap_in (n := i + j) (by omega) (by omega), divM_of h0 (by omega) (by omega)]
theorem cut_unique {f g : Int} {P : Int → Prop} (hf : 0 ≤ f ∧ f ≤ 10000001) (hg : 0 ≤ g ∧ g ≤ 10000001) (h1 : ∀ l, 0 ≤ l → l < 10000001 → (f ≤ l ↔ P l)) (h2 : ∀ l, 0 ≤ l → l < 10000001 → (g ≤ l ↔ P l)) : f = g := by
  rcases Int.lt_trichotomy f g with h | h | h
  · have := (h2 f hf.1 (by omega)).2 ((h1 f hf.1 (by omega)).1 (Int.le_refl _)); omega
  · exact h
  · have := (h1 g hg.1 (by omega)).2 ((h2 g hg.1 (by omega)).1 (Int.le_refl _)); omega
theorem m23_eq (x : Clk) (t : Int) : ∃ r, m22 (x, t) = some r ∧ m23 (x, t) = some r := by
  by_cases h : vld x = true ∧ 0 ≤ t ∧ t ≤ 10000000
  · obtain ⟨hv, ht⟩ := h
    have hx := vld_of hv
    obtain ⟨f, b, f1, f2, b1, b2, f3, b3, e⟩ := reads_eq hv ht
    refine ⟨_, e, ?_⟩
    obtain ⟨f', q1, q2, q3, q4⟩ := search_loop (N := 10000001) (p := fun l => leM t (highOf x.1 l x.2)) (by omega) (fun a b h0 hab _ h => by
      have := of_decide_eq_true h
      exact decide_eq_true (Int.le_trans this (high_mono hx.d hab))) (body := fun (s : Int × Int) =>
              bif ltM s.1 s.2 then
                Option.bind (divM IntKind.i64 (IntKind.wrap IntKind.i64 (s.1 + s.2)) (2 : Int)) fun (r_1 : Int) =>
                  Option.bind (m37 ((x.1, x.2), r_1)) fun (r : Int × Int) =>
                    bif leM t r.2 then some (Sum.inl (s.1, r_1))
                    else some (Sum.inl (IntKind.wrap IntKind.i64 (r_1 + (1 : Int)), s.2))
              else some (Sum.inr s.1)) (fun i j h0 hij hj => by
      have hj : j ≤ 10000001 := hj
      dsimp only
      rw [ltI hij, cond_true, half2 (by omega) (by omega), Option.bind_some, wrap_in (n := (i + j) / 2 + 1) (by omega) (by omega), show (x.1, x.2) = x from rfl, m37_eq hx (by omega), Option.bind_some]
      dsimp only
      cases leM t (highOf x.1 ((i + j) / 2) x.2) <;> rfl) (fun i => by dsimp only; rw [geI (Int.le_refl _), cond_false])
    obtain ⟨b', q5, q6, q7, q8⟩ := down_loop (N := 10000001) (p := fun l => ltM t (lowOf x.1 l x.2)) (by omega) (fun a b h0 hab _ h => by
      have := of_decide_eq_true h
      exact decide_eq_true (Int.lt_of_lt_of_le this (low_mono hx.d hab))) (body := fun (s : Int × Int) =>
                bif ltM (IntKind.wrap IntKind.i64 (s.2 + (1 : Int))) s.1 then
                  Option.bind (divM IntKind.i64 (IntKind.wrap IntKind.i64 (s.2 + s.1)) (2 : Int)) fun (r_1 : Int) =>
                    Option.bind (m37 ((x.1, x.2), r_1)) fun (r : Int × Int) =>
                      bif leM r.1 t then some (Sum.inl (s.1, r_1)) else some (Sum.inl (r_1, s.2))
                else some (Sum.inr s.2)) (fun j i h0 hij hj => by
      have hj : j ≤ 10000001 := hj
      dsimp only
      rw [wrap_in (n := i + 1) (by omega) (by omega), ltI hij, cond_true, half2 (by omega) (by omega), Option.bind_some, show (x.1, x.2) = x from rfl, m37_eq hx (by omega), Option.bind_some]
      dsimp only
      by_cases h : t < lowOf x.1 ((i + j) / 2) x.2
      · rw [ltI h, gtI h]; rfl
      · rw [geI (by omega), leI (by omega)]; rfl) (fun i h0 h1 => by
      have h1 : i ≤ 10000001 := h1
      dsimp only
      rw [wrap_in (n := i + 1) (by omega) (by omega), geI (Int.le_refl _), cond_false])
    have q3 : f' ≤ 10000001 := q3
    have q7 : b' < 10000001 := q7
    have ef : f' = f := cut_unique ⟨q2, q3⟩ ⟨f1, f2⟩ (fun l h0 hl => (q4 l h0 hl).trans decide_eq_true_iff) f3
    have eb : b' + 1 = b := cut_unique ⟨by omega, by omega⟩ ⟨b1, b2⟩ (fun l h0 hl => (q8 l h0 hl).trans decide_eq_true_iff) b3
    subst ef eb
    unfold m23
    dsimp only
    rw [show (x.1, x.2) = x from rfl, m18_eq, Option.bind_some, hv, notT, orF, geI ht.1, geI ht.2, orF, cond_false]
    refine bind_of q1 (bind_of q5 ?_)
    by_cases h : b' < f'
    · rw [ltI h, cond_true, if_pos (by omega)]
    · rw [geI (by omega), cond_false, if_neg (by omega), Int.add_sub_cancel]
  · refine ⟨_, reads_bad h, ?_⟩
    unfold m23
    dsimp only
    rw [show (x.1, x.2) = x from rfl, m18_eq, Option.bind_some]
    have e : PE.orM (PE.orM (PE.notM (vld x)) (ltM t 0)) (ltM 10000000 t) = true := by
      unfold PE.orM PE.notM
      simp only [Bool.or_eq_true, decide_eq_true_eq, Bool.not_eq_true']
      cases hv : vld x with
      | false => exact .inl (.inl rfl)
      | true =>
        have : ¬ (0 ≤ t ∧ t ≤ 10000000) := fun h' => h ⟨hv, h'⟩
        rcases Int.lt_or_le t 0 with h0 | h0
        · exact .inl (.inr h0)
        · exact .inr (by omega)
    rw [e, cond_true]
end Go.Proofs.Ytpledmmfkbcelaa
/-
  Clock: the reference's Agree answers what Clock's answers.
  No conditions.
-/
namespace Go.Proofs.Ytpledmmfkbcelaa
open Go Go.Abs Go.PE
set_option linter.unusedVariables false
/-- The next bound above a second, if there is one. -/
def upd (to next v : Int) : Int := if to < v ∧ (next = to ∨ v < next) then v else next
def Near (to next : Int) (vs : List Int) : Prop := (next = to ∧ ∀ v ∈ vs, v ≤ to) ∨ (to < next ∧ next ∈ vs ∧ ∀ v ∈ vs, to < v → next ≤ v)
theorem near_upd {to next : Int} {vs : List Int} (h : Near to next vs) (v : Int) : Near to (upd to next v) (vs ++ [v]) := by
  unfold upd
  rcases h with ⟨h1, h2⟩ | ⟨h1, h2, h3⟩
  · by_cases hv : to < v
    · rw [if_pos ⟨hv, .inl h1⟩]
      refine .inr ⟨hv, List.mem_append.2 (.inr (List.mem_cons_self ..)), fun w hw hw2 => ?_⟩
      rcases List.mem_append.1 hw with hw | hw
      · have := h2 w hw; omega
      · rw [List.mem_singleton.1 hw]; exact Int.le_refl _
    · rw [if_neg fun h => hv h.1]
      refine .inl ⟨h1, fun w hw => ?_⟩
      rcases List.mem_append.1 hw with hw | hw
      · exact h2 w hw
      · rw [List.mem_singleton.1 hw]; omega
  · by_cases hv : to < v ∧ v < next
    · rw [if_pos ⟨hv.1, .inr hv.2⟩]
      refine .inr ⟨hv.1, List.mem_append.2 (.inr (List.mem_cons_self ..)), fun w hw hw2 => ?_⟩
      rcases List.mem_append.1 hw with hw | hw
      · have := h3 w hw hw2; omega
      · rw [List.mem_singleton.1 hw]; exact Int.le_refl _
    · rw [if_neg fun h => by omega]
      refine .inr ⟨h1, List.mem_append.2 (.inl h2), fun w hw hw2 => ?_⟩
      rcases List.mem_append.1 hw with hw | hw
      · exact h3 w hw hw2
      · rw [List.mem_singleton.1 hw] at hw2 ⊢; omega
def bnd : List Sp → List Int
  | [] => []
  | p :: l => p.1 :: p.2 :: bnd l
theorem bnd_app : ∀ (a : List Sp) (p : Sp), bnd (a ++ [p]) = (bnd a ++ [p.1]) ++ [p.2]
  | [], _ => rfl
  | q :: a, p => by
    show q.1 :: q.2 :: bnd (a ++ [p]) = q.1 :: q.2 :: ((bnd a ++ [p.1]) ++ [p.2])
    rw [bnd_app a p]
theorem bnd_mem : ∀ {l : List Sp} {v : Int}, v ∈ bnd l ↔ ∃ p ∈ l, v = p.1 ∨ v = p.2
  | [], v => by simp [bnd]
  | p :: l, v => by
    show v ∈ p.1 :: p.2 :: bnd l ↔ _
    rw [List.mem_cons, List.mem_cons, bnd_mem (l := l)]
    constructor
    · rintro (h | h | ⟨q, hq, h⟩)
      · exact ⟨p, List.mem_cons_self .., .inl h⟩
      · exact ⟨p, List.mem_cons_self .., .inr h⟩
      · exact ⟨q, List.mem_cons_of_mem _ hq, h⟩
    · rintro ⟨q, hq, h⟩
      rcases List.mem_cons.1 hq with rfl | hq
      · rcases h with h | h
        · exact .inl h
        · exact .inr (.inl h)
      · exact .inr (.inr ⟨q, hq, h⟩)
/-- How many bounds lie above a second. -/
def lft : List Int → Int → Nat
  | [], _ => 0
  | v :: l, t => (if t < v then 1 else 0) + lft l t
theorem lft_mono {t u : Int} (h : t ≤ u) : ∀ l : List Int, lft l u ≤ lft l t
  | [] => Nat.le_refl _
  | v :: l => by
    have := lft_mono h l
    unfold lft
    split <;> split <;> omega
theorem lft_lt {t u : Int} (h : t < u) : ∀ {l : List Int}, u ∈ l → lft l u < lft l t
  | v :: l, hu => by
    have h1 := lft_mono (show t ≤ u by omega) l
    unfold lft
    rcases List.mem_cons.1 hu with rfl | hu
    · rw [if_neg (Int.lt_irrefl _), if_pos h]; omega
    · have := lft_lt h hu
      split <;> split <;> omega
theorem cnt_le {s t : Int} : ∀ {l : List Sp}, (∀ p ∈ l, p.1 ≤ s → s < p.2 → p.1 ≤ t ∧ t < p.2) → cnt l s ≤ cnt l t
  | [], _ => Int.le_refl _
  | p :: l, h => by
    have h1 := cnt_le (l := l) fun q hq => h q (List.mem_cons_of_mem _ hq)
    have h2 := h p (List.mem_cons_self ..)
    unfold cnt
    by_cases hp : p.1 ≤ s ∧ s < p.2
    · rw [if_pos hp, if_pos (h2 hp.1 hp.2)]; omega
    · rw [if_neg hp]; split <;> omega
/-- The spell that began last, of those that have a second. -/
theorem last_of {s : Int} : ∀ {l : List Sp}, (∃ p ∈ l, p.1 ≤ s ∧ s < p.2) → ∃ p ∈ l, (p.1 ≤ s ∧ s < p.2) ∧ ∀ q ∈ l, q.1 ≤ s → s < q.2 → q.1 ≤ p.1
  | [], h => by obtain ⟨p, hp, _⟩ := h; cases hp
  | x :: l, h => by
    by_cases hl : ∃ p ∈ l, p.1 ≤ s ∧ s < p.2
    · obtain ⟨p, hp, h1, h2⟩ := last_of hl
      by_cases hx : (x.1 ≤ s ∧ s < x.2) ∧ p.1 < x.1
      · refine ⟨x, List.mem_cons_self .., hx.1, fun q hq a b => ?_⟩
        rcases List.mem_cons.1 hq with rfl | hq
        · exact Int.le_refl _
        · have := h2 q hq a b; omega
      · refine ⟨p, List.mem_cons_of_mem _ hp, h1, fun q hq a b => ?_⟩
        rcases List.mem_cons.1 hq with rfl | hq
        · omega
        · exact h2 q hq a b
    · obtain ⟨p, hp, h1⟩ := h
      rcases List.mem_cons.1 hp with e | hp
      · subst e
        refine ⟨p, List.mem_cons_self .., h1, fun q hq a b => ?_⟩
        rcases List.mem_cons.1 hq with rfl | hq
        · exact Int.le_refl _
        · exact (hl ⟨q, hq, a, b⟩).elim
      · exact (hl ⟨p, hp, h1⟩).elim
theorem cnt_top {l : List Sp} {s : Int} (h : 0 < cnt l s) : ∃ p ∈ l, p.1 ≤ s ∧ cnt l s ≤ cnt l p.1 := by
  obtain ⟨p, hp, h1, h2⟩ := last_of (cnt_pos h)
  exact ⟨p, hp, h1.1, cnt_le fun q hq a b => ⟨h2 q hq a b, by omega⟩⟩
theorem one_upd {l : List Sp} {k : Nat} (hk : k < l.length) (t nx v : Int) (f : Sp → Int) (hf : f l[k] = v) {β : Type} {g : Int → Option β} {r : Option β} (h : g (upd t nx v) = r) :
    Option.bind
      (Option.bind (bif PE.andM (ltM t v) (PE.notM (eqM nx t)) then idxM l (k : Int) else some ((0 : Int), (0 : Int))) fun (r_2 : Int × Int) =>
        bif PE.andM (ltM t v) (PE.orM (eqM nx t) (ltM (f r_2) nx)) then Option.bind (idxM l (k : Int)) fun (r : Int × Int) => some (f r) else some nx) g = r := by
  rw [idxM_lt hk]
  unfold upd at h
  by_cases h1 : t < v
  · rw [ltI h1, andT]
    by_cases h2 : nx = t
    · rw [eqI h2, notT, cond_false, Option.bind_some, orT, andT, cond_true, Option.bind_some, Option.bind_some, hf]
      rw [if_pos ⟨h1, .inl h2⟩] at h
      exact h
    · rw [neI h2, notF, cond_true, Option.bind_some, orF, andT, hf]
      by_cases h3 : v < nx
      · rw [ltI h3, cond_true, Option.bind_some, Option.bind_some, hf]
        rw [if_pos ⟨h1, .inr h3⟩] at h
        exact h
      · rw [geI (by omega), cond_false, Option.bind_some]
        rw [if_neg fun hh => by omega] at h
        exact h
  · rw [geI (by omega), andF, cond_false, Option.bind_some, andF, cond_false, Option.bind_some]
    rw [if_neg fun hh => h1 hh.1] at h
    exact h
theorem m14_ok {l : List Sp} (hl : l.length ≤ 20) : Ans (m14 l) (Agr l) := by
  unfold m14
  refine Ans.bind (P := fun o : Int × Int => 0 ≤ o.1 ∧ (∀ s, cnt l s ≤ o.1) ∧ (0 < o.1 → cnt l o.2 = o.1 ∧ ∀ s, s < o.2 → cnt l s < o.1)) ?_ ?_
  · refine Ans.loop (fun k (s : Int × Int × Int) => s.2.2 = (k : Int) ∧ 0 ≤ s.1 ∧ (∀ p ∈ l.take k, cnt l p.1 ≤ s.1) ∧ (0 < s.1 → cnt l s.2.1 = s.1 ∧ ∀ p ∈ l.take k, cnt l p.1 = s.1 → s.2.1 ≤ p.1)) l.length ⟨rfl, Int.le_refl _, fun p hp => (List.not_mem_nil hp).elim, fun h => (Int.lt_irrefl _ h).elim⟩ fun k s hk hs => ?_
    obtain ⟨M, F, i⟩ := s
    obtain ⟨g1, g2, g3, g4⟩ := hs
    simp only at g1 g2 g3 g4
    subst g1
    dsimp only
    by_cases hlt : k < l.length
    · have ek : IntKind.wrap IntKind.i64 ((k : Int) + 1) = ((k + 1 : Nat) : Int) := by rw [wrap_in (by omega) (by omega)]; rfl
      have hmem : ∀ p, p ∈ l.take (k + 1) → p ∈ l.take k ∨ p = l[k] := fun p hp => by
        rw [List.take_succ_eq_append_getElem hlt] at hp
        rcases List.mem_append.1 hp with hp | hp
        · exact .inl hp
        · exact .inr (List.mem_singleton.1 hp)
      rw [ltI (by show (k : Int) < (l.length : Int); omega), cond_true, idxM_lt hlt, Option.bind_some, m34_eq (by omega), Option.bind_some, ek]
      generalize hc : cnt l l[k].1 = c at *
      have hc0 : 0 ≤ c := by rw [← hc]; exact (cnt_lo _ _).1
      by_cases h1 : M < c
      · rw [ltI h1, notT, andF, cond_false, Option.bind_some, orT, cond_true, Option.bind_some, Option.bind_some]
        refine Ans.some ⟨hlt, rfl, by show 0 ≤ c; omega, fun p hp => ?_, fun _ => ⟨hc, fun p hp e => ?_⟩⟩
        · show cnt l p.1 ≤ c
          rcases hmem p hp with hp | rfl
          · have := g3 p hp; omega
          · omega
        · rcases hmem p hp with hp | rfl
          · have := g3 p hp
            have e : cnt l p.1 = c := e
            omega
          · exact Int.le_refl _
      · rw [geI (by omega), notF, andT]
        by_cases h2 : c = M
        · rw [eqI h2, cond_true, Option.bind_some, orF, andT]
          by_cases h3 : l[k].1 < F
          · rw [ltI h3, cond_true, Option.bind_some, Option.bind_some]
            refine Ans.some ⟨hlt, rfl, by show 0 ≤ c; omega, fun p hp => ?_, fun h => ⟨hc, fun p hp e => ?_⟩⟩
            · show cnt l p.1 ≤ c
              rcases hmem p hp with hp | rfl
              · have := g3 p hp; omega
              · omega
            · have e : cnt l p.1 = c := e
              have h : 0 < c := h
              show l[k].1 ≤ p.1
              rcases hmem p hp with hp | rfl
              · have := (g4 (by omega)).2 p hp (by omega); omega
              · exact Int.le_refl _
          · rw [geI (by omega), cond_false, Option.bind_some]
            refine Ans.some ⟨hlt, rfl, g2, fun p hp => ?_, fun h => ⟨(g4 h).1, fun p hp e => ?_⟩⟩
            · show cnt l p.1 ≤ M
              rcases hmem p hp with hp | rfl
              · exact g3 p hp
              · omega
            · rcases hmem p hp with hp | rfl
              · exact (g4 h).2 p hp e
              · show F ≤ l[k].1; omega
        · rw [neI h2, cond_false, Option.bind_some, orF, andF, cond_false, Option.bind_some]
          refine Ans.some ⟨hlt, rfl, g2, fun p hp => ?_, fun h => ⟨(g4 h).1, fun p hp e => ?_⟩⟩
          · show cnt l p.1 ≤ M
            rcases hmem p hp with hp | rfl
            · exact g3 p hp
            · omega
          · have e : cnt l p.1 = M := e
            rcases hmem p hp with hp | rfl
            · exact (g4 h).2 p hp e
            · omega
    · rw [geI (by show (l.length : Int) ≤ (k : Int); omega), cond_false]
      rw [List.take_of_length_le (by omega)] at g3 g4
      have hmax : ∀ s, cnt l s ≤ M := fun s => by
        by_cases h : 0 < cnt l s
        · obtain ⟨p, hp, _, h2⟩ := cnt_top h
          have := g3 p hp
          omega
        · omega
      refine Ans.some ⟨g2, hmax, fun h => ⟨(g4 h).1, fun s hs => ?_⟩⟩
      show cnt l s < M
      have hs : s < F := hs
      have h1 := hmax s
      refine Classical.byContradiction fun hn => ?_
      have h : 0 < M := h
      obtain ⟨p, hp, h3, h4⟩ := cnt_top (l := l) (s := s) (by omega)
      have h5 := g3 p hp
      have := (g4 h).2 p hp (by omega)
      omega
  · intro o ho
    obtain ⟨M, F⟩ := o
    obtain ⟨a1, a2, a3⟩ := ho
    simp only at a1 a2 a3
    dsimp only
    by_cases hM : M = 0
    · rw [eqI hM, cond_true]
      exact Ans.some (.inl ⟨rfl, rfl, fun s => by have := a2 s; omega⟩)
    · rw [neI hM, cond_false]
      obtain ⟨b1, b2⟩ := a3 (by omega)
      refine Ans.bind (P := fun T => F < T ∧ cnt l T < M ∧ ∀ s, F ≤ s → s < T → cnt l s = M) ?_ fun T hT => Ans.some (.inr ⟨by show 0 < M; omega, b1, b2, hT.1, hT.2.1, hT.2.2, a2⟩)
      refine Ans.loop (fun k T => F ≤ T ∧ lft (bnd l) T + k ≤ lft (bnd l) F ∧ ∀ s, F ≤ s → s < T → cnt l s = M) (lft (bnd l) F) ⟨Int.le_refl _, Nat.le_refl _, fun s h1 h2 => by omega⟩ fun k T hk hT => ?_
      obtain ⟨t1, t2, t3⟩ := hT
      rw [m34_eq (by omega), Option.bind_some]
      by_cases hc : cnt l T = M
      · rw [eqI hc, cond_true]
        have hin : ∀ nxt, Near T nxt (bnd l) → T < nxt ∧ nxt ∈ bnd l ∧ ∀ v ∈ bnd l, T < v → nxt ≤ v := fun nxt hn => by
          rcases hn with ⟨_, h2⟩ | h
          · obtain ⟨p, hp, h3, h4⟩ := cnt_pos (l := l) (s := T) (by omega)
            have := h2 p.2 (bnd_mem.2 ⟨p, hp, .inr rfl⟩)
            omega
          · exact h
        refine Ans.bind (P := fun nxt => Near T nxt (bnd l)) ?_ fun nxt hn => ?_
        · refine Ans.loop (fun j (s : Int × Int) => s.2 = (j : Int) ∧ Near T s.1 (bnd (l.take j))) l.length ⟨rfl, .inl ⟨rfl, fun v hv => (List.not_mem_nil hv).elim⟩⟩ fun j s hj hs => ?_
          obtain ⟨nx, i⟩ := s
          obtain ⟨g1, g2⟩ := hs
          simp only at g1 g2
          subst g1
          dsimp only
          by_cases hlt : j < l.length
          · have ek : IntKind.wrap IntKind.i64 ((j : Int) + 1) = ((j + 1 : Nat) : Int) := by rw [wrap_in (by omega) (by omega)]; rfl
            refine Ans.of (r := Sum.inl (upd T (upd T nx l[j].1) l[j].2, ((j + 1 : Nat) : Int))) ?_ ?_
            · rw [ltI (by show (j : Int) < (l.length : Int); omega), cond_true, ek]
              refine bind_of (x := upd T (upd T nx l[j].1) l[j].2) ?_ rfl
              have e0 := idxM_lt hlt
              rw [e0]
              refine bind_of (x := upd T nx l[j].1) ?_ ?_
              · rw [Option.bind_some]
                have := one_upd hlt T nx l[j].1 (fun p => p.1) rfl (g := fun z => some z) (r := some (upd T nx l[j].1)) rfl
                rw [e0, Option.bind_fun_some] at this
                exact this
              · rw [Option.bind_some]
                have := one_upd hlt T (upd T nx l[j].1) l[j].2 (fun p => p.2) rfl (g := fun z => some z) (r := some (upd T (upd T nx l[j].1) l[j].2)) rfl
                rw [e0, Option.bind_fun_some] at this
                exact this
            · refine ⟨hlt, rfl, ?_⟩
              rw [List.take_succ_eq_append_getElem hlt, bnd_app]
              exact near_upd (near_upd g2 _) _
          · rw [geI (by show (l.length : Int) ≤ (j : Int); omega), cond_false]
            rw [List.take_of_length_le (by omega)] at g2
            exact Ans.some g2
        · obtain ⟨c1, c2, c3⟩ := hin nxt hn
          have c4 := lft_lt c1 c2
          refine Ans.some ⟨by omega, by omega, by omega, fun s h1 h2 => ?_⟩
          by_cases h3 : s < T
          · exact t3 s h1 h3
          · rw [← hc]
            refine cnt_congr fun p hp => ?_
            have d1 := c3 p.1 (bnd_mem.2 ⟨p, hp, .inl rfl⟩)
            have d2 := c3 p.2 (bnd_mem.2 ⟨p, hp, .inr rfl⟩)
            omega
      · rw [neI hc, cond_false]
        have hle := a2 T
        refine Ans.some ⟨?_, by omega, t3⟩
        rcases Int.lt_or_eq_of_le t1 with h | h
        · exact h
        · subst h; exact absurd b1 hc
end Go.Proofs.Ytpledmmfkbcelaa
/-
  Clock: the law ClockMatchesReference.
  No conditions.
-/
namespace Go.Proofs.Ytpledmmfkbcelaa
open Go Go.Abs Go.PE
set_option linter.unusedVariables false
theorem eqbT (b : Bool) : eqbM b b = true := decide_eq_true rfl
theorem law3_ok (x : (Int × List Rd) × Int × Int × List Int × List Rd × Int × Int × List Sp) (h1 : i64 x.2.1) (h2 : i64 x.2.2.1) (h3 : ∀ v ∈ x.2.2.2.1, i64 v) (h4 : ∀ c ∈ x.2.2.2.2.1, i64 c.1 ∧ i64 c.2.1 ∧ i64 c.2.2) (h5 : i64 x.2.2.2.2.2.1) (h6 : i64 x.2.2.2.2.2.2.1) (h7 : ∀ p ∈ x.2.2.2.2.2.2.2, i64 p.1 ∧ i64 p.2) : m3 x = some true := by
  unfold m3
  refine bind_of sane_ok ?_
  rw [notT, cond_false]
  obtain ⟨ab, hab⟩ := m11_any x.2.1 x.2.2.2.2.2.1
  refine bind_of hab (bind_of ((m12_eq _ _).trans hab) ?_)
  have hm : min (lenM x.2.2.2.2.2.2.2) 20 ≤ (x.2.2.2.2.2.2.2.length : Int) := Int.min_le_left _ _
  have hm0 : 0 ≤ min (lenM x.2.2.2.2.2.2.2) 20 := by
    have : 0 ≤ lenM x.2.2.2.2.2.2.2 := Int.natCast_nonneg _
    omega
  have hsl := sliceM_of (xs := x.2.2.2.2.2.2.2) (Int.le_refl 0) hm0 hm
  rw [show (0 : Int).toNat = 0 from rfl, List.drop_zero] at hsl
  have hl : (x.2.2.2.2.2.2.2.take (min (lenM x.2.2.2.2.2.2.2) 20).toNat).length ≤ 20 := by
    rw [List.length_take]
    have := Int.min_le_right (lenM x.2.2.2.2.2.2.2) 20
    omega
  have hin : ∀ p ∈ x.2.2.2.2.2.2.2.take (min (lenM x.2.2.2.2.2.2.2) 20).toNat, i64 p.1 ∧ i64 p.2 := fun p hp => h7 p (List.mem_of_mem_take hp)
  generalize x.2.2.2.2.2.2.2.take (min (lenM x.2.2.2.2.2.2.2) 20).toNat = l at *
  obtain ⟨o, ho, hA⟩ := m13_ok hl hin
  obtain ⟨o', ho', hA'⟩ := m14_ok hl
  have eo := hA.unique hA'
  subst eo
  refine bind_of hsl (bind_of ho (bind_of hsl (bind_of ho' ?_)))
  rw [eqI (rfl : ab.1 = ab.1), eqI (rfl : ab.2 = ab.2), eqI (rfl : o.1.1 = o.1.1), eqI (rfl : o.1.2 = o.1.2), eqI (rfl : o.2 = o.2), andT, notT, orF, orF, orF, cond_false]
  have hf : m15 (x.1.1, x.1.2) = some (x.1.1, x.1.2.take (min (lenM x.1.2) 13).toNat) := by
    unfold m15
    have hm : min (lenM x.1.2) 13 ≤ (x.1.2.length : Int) := Int.min_le_left _ _
    have hm0 : 0 ≤ min (lenM x.1.2) 13 := by
      have : 0 ≤ lenM x.1.2 := Int.natCast_nonneg _
      omega
    exact bind_of (sliceM_of (Int.le_refl 0) hm0 hm) (by rw [show (0 : Int).toNat = 0 from rfl, List.drop_zero])
  refine bind_of hf ?_
  obtain ⟨rs, g1, _, _⟩ := m16_eq h1 h2 h3 h4
  refine bind_of g1 ?_
  dsimp only
  generalize hC : [((x.1.1, x.1.2.take (min (lenM x.1.2) 13).toNat) : Int × List (Int × Int × Int)), (pk x.2.1 101, rs)] = C
  have hCl : C.length = 2 := by rw [← hC]; rfl
  refine bind_of (x := Sum.inl ()) ?_ rfl
  refine loopM_fn (fun k => (k : Int)) 2 (fun k hk => ?_) ?_
  · rw [ltI (by omega), cond_true, idxM_lt (by omega : k < C.length), Option.bind_some]
    generalize C[k] = c
    rw [show (c.1, c.2) = c from rfl, m17_eq, Option.bind_some, m18_eq, Option.bind_some, eqbT, notT, cond_false, m19_eq h5 (by omega), Option.bind_some, m19_eq h6 (by omega), Option.bind_some]
    generalize hX : [x.2.2.2.2.2.1, pk x.2.2.2.2.2.1 5000] = X
    generalize hY : [x.2.2.2.2.2.2.1, pk x.2.2.2.2.2.2.1 5000] = Y
    have hXl : X.length = 2 := by rw [← hX]; rfl
    have hYl : Y.length = 2 := by rw [← hY]; rfl
    refine bind_of (x := Sum.inl ()) ?_ ?_
    · refine loopM_fn (fun k => (k : Int)) 2 (fun j hj => ?_) ?_
      · have e1 := idxM_lt (xs := X) (i := j) (by omega)
        have e2 := idxM_lt (xs := Y) (i := j) (by omega)
        rw [e1, e2]
        generalize X[j] = u
        generalize Y[j] = v
        obtain ⟨r, r1, r2⟩ := m23_eq c v
        rw [ltI (by omega), cond_true, Option.bind_some]
        simp only [Option.bind_some, m20_eq, m21_eq, m24_eq, m25_eq, m26_eq, m27_eq, r1, r2, eqbT, notT, notF, cond_true, cond_false, orF, eqI rfl]
        rw [wrap_in (by omega) (by omega)]
        rfl
      · rfl
    · show some (Sum.inl (IntKind.wrap IntKind.i64 ((k : Int) + 1))) = _
      rw [wrap_in (by omega) (by omega)]
      rfl
  · rfl
end Go.Proofs.Ytpledmmfkbcelaa
/-
  Clock: the plain law of ClockMatchesReference, as the frame asks for it.
  No conditions.
-/
namespace Go.Proofs.Ytpledmmfkbcelaa
open Go Go.Abs Go.PE
theorem pairs3 {xs : List Sp} (h : InR (.list (.pair tI tI)) xs) : ∀ c ∈ xs, i64 c.1 ∧ i64 c.2 := fun c hc => by
  obtain ⟨i, hi, rfl⟩ := List.mem_iff_getElem.1 hc
  obtain ⟨a, b⟩ := h.2 i _ (List.getElem?_eq_getElem hi)
  exact ⟨a, b⟩
theorem law3 : ∀ (S : Cells) (w : World) (η : Eta) (vs : List Value) x, All2 (RM S w η) (rvs as3 x) vs → m3 x = some true :=
  law_of_ok fun x h => law3_ok x h.2.1 h.2.2.1 (i64_mem h.2.2.2.1) (triples h.2.2.2.2.1) h.2.2.2.2.2.1 h.2.2.2.2.2.2.1 (pairs3 h.2.2.2.2.2.2.2)
end Go.Proofs.Ytpledmmfkbcelaa
