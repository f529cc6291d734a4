/-
 Texts of this proof, put together: Oe, Of, Og, Oh, Oi, Oj, Ok, Ol, Om, On, Oo, Op, F, Os, Oq, Ot, Ow, Ov, Ox, Or, LawDatingBlames.
 No conditions.
-/
import Derived.Test.YthfgccfaildmfaaGreatDoorZ5
import Derived.Test.YthfgccfaildmfaaGreatDoorZ4
set_option linter.all false
/-
 Dating: what comes before what; valid clues, valid datings.
 No conditions.
-/
namespace Go.Proofs.YthfgccfaildmfaaGreatDoor
open Go Go.Abs Go.PE
open Ord (Rel clos)
set_option linter.unusedVariables false
set_option maxRecDepth 10000
abbrev Clu := Int × Int × Int × Int × Int
abbrev Dat := (Int × List (Int × Int)) × List Clu
def vcl (n : Int) (c : Clu) : Bool := decide (0 ≤ c.2.1 ∧ c.2.1 < n ∧
  ((c.1 = 1 ∧ c.2.2.1 = 0 ∧ 0 ≤ c.2.2.2.1 ∧ c.2.2.2.1 < c.2.2.2.2 ∧ c.2.2.2.2 ≤ 2101) ∨
   ((c.1 = 2 ∨ c.1 = 3) ∧ c.2.2.1 = 0 ∧ 0 ≤ c.2.2.2.1 ∧ c.2.2.2.1 ≤ 2100 ∧ c.2.2.2.2 = 0) ∨
   (c.1 = 4 ∧ 0 ≤ c.2.2.1 ∧ c.2.2.1 < n ∧ c.2.2.2.1 = 0 ∧ c.2.2.2.2 = 0) ∨
   (c.1 = 5 ∧ 0 ≤ c.2.2.1 ∧ c.2.2.1 < n ∧ -200 ≤ c.2.2.2.1 ∧ c.2.2.2.1 ≤ c.2.2.2.2 ∧ c.2.2.2.2 ≤ 200)))
theorem m54_eq (a b c : Int) : m54 (a, b, c) = some (decide (b ≤ a ∧ a ≤ c)) := by
 unfold m54
 show some (decide _ && decide _) = _
 rw [← Bool.decide_and]
theorem cond_bit (c : Bool) (x : Bool) : (bif c then some x else some false) = some (c && x) := by cases c <;> rfl
theorem m59_eq {n : Int} (h0 : 0 ≤ n) (h1 : n ≤ 8) (c : Clu) : m59 (c, n) = some (vcl n c) := by
 unfold m59
 dsimp only
 rw [wrap_in (by omega) (by omega), m54_eq, Option.bind_some]
 by_cases k1 : c.1 = 1
 ·rw [eqI k1, cond_true]
  congr 1
  rw [Bool.eq_iff_iff]
  unfold vcl
  show ((((decide _ && decide _) && decide _) && decide _) && decide _) = true ↔ _
  simp only [Bool.and_eq_true, decide_eq_true_eq]
  omega
 ·rw [neI k1, cond_false, cond_some]
  by_cases k2 : c.1 = 2 ∨ c.1 = 3
  ·have e : (bif eqM c.1 2 then eqM c.1 2 else eqM c.1 3) = true := by
    rcases k2 with k | k
    ·rw [eqI k]; rfl
    ·rw [neI (by omega), cond_false, eqI k]
   rw [e, cond_true, m54_eq, cond_bit, Option.bind_some]
   congr 1
   rw [Bool.eq_iff_iff]
   unfold vcl
   show (((decide _ && decide _) && ((decide _ && decide _) && decide _)) && decide _) = true ↔ _
   simp only [Bool.and_eq_true, decide_eq_true_eq]
   omega
  ·have e : (bif eqM c.1 2 then eqM c.1 2 else eqM c.1 3) = false := by
    rw [neI (by omega), cond_false, neI (by omega)]
   rw [e, cond_false, m54_eq]
   by_cases k4 : c.1 = 4
   ·rw [eqI k4, cond_true, cond_bit, Option.bind_some]
    congr 1
    rw [Bool.eq_iff_iff]
    unfold vcl
    show (((decide _ && (decide _ && decide _)) && decide _) && decide _) = true ↔ _
    simp only [Bool.and_eq_true, decide_eq_true_eq]
    omega
   ·rw [neI k4, cond_false]
    by_cases k5 : c.1 = 5
    ·rw [eqI k5, cond_true, cond_bit, Option.bind_some]
     congr 1
     rw [Bool.eq_iff_iff]
     unfold vcl
     show ((((decide _ && (decide _ && decide _)) && decide _) && decide _) && decide _) = true ↔ _
     simp only [Bool.and_eq_true, decide_eq_true_eq]
     omega
    ·rw [neI k5, cond_false]
     congr 1
     symm
     unfold vcl
     exact decide_eq_false (by omega)
def vld (d : Dat) : Bool := (okO d.1 && decide (d.2.length ≤ 14)) && d.2.all (vcl d.1.1)
theorem m20_eq (d : Dat) : m20 d = some (vld d) := by
 unfold m20
 rw [show ((d.1.1, d.1.2) : Int × List (Int × Int)) = d.1 from rfl, m60_eq, Option.bind_some]
 have e : leM (lenM d.2) (14 : Int) = decide (d.2.length ≤ 14) := by
  show decide ((d.2.length : Int) ≤ 14) = _
  rw [Bool.eq_iff_iff, decide_eq_true_eq, decide_eq_true_eq]
  omega
 rw [e, show PE.andM (okO d.1) (decide (d.2.length ≤ 14)) = (okO d.1 && decide (d.2.length ≤ 14)) from rfl]
 unfold vld
 by_cases h : (okO d.1 && decide (d.2.length ≤ 14)) = true
 ·rw [h, cond_true, Bool.true_and]
  rw [Bool.and_eq_true, decide_eq_true_eq] at h
  obtain ⟨ho, hl⟩ := h
  unfold okO at ho
  rw [Bool.and_eq_true] at ho
  obtain ⟨h0, h1, h2, h3⟩ := frm_of ho.1
  refine bind_of (x := d.2.any fun c => !vcl d.1.1 c) ?_ ?_
  ·refine any_loop (xs := d.2) (fun c => !vcl d.1.1 c) (fun k hk => ?_) ?_
   ·rw [ltI (by show (k : Int) < (d.2.length : Int); omega), cond_true, idxM_lt hk, Option.bind_some, show ((d.2[k].1, d.2[k].2.1, d.2[k].2.2.1, d.2[k].2.2.2.1, d.2[k].2.2.2.2) : Clu) = d.2[k] from rfl, m59_eq h0 h1, Option.bind_some, wrap_in (by omega) (by omega)]
    show (bif !vcl d.1.1 d.2[k] then _ else _) = _
    cases vcl d.1.1 d.2[k] <;> rfl
   ·rw [geI (by show (d.2.length : Int) ≤ (d.2.length : Int); omega)]; rfl
  ·show some (true && !(d.2.any fun c => !vcl d.1.1 c)) = _
   rw [Bool.true_and, List.not_any_eq_all_not]
   simp
 ·have h : (okO d.1 && decide (d.2.length ≤ 14)) = false := by simpa using h
  rw [h, cond_false, Bool.false_and, Option.bind_some]
  rfl
end Go.Proofs.YthfgccfaildmfaaGreatDoor
/-
 Dating: the bounds of a dating.
 No conditions.
-/
namespace Go.Proofs.YthfgccfaildmfaaGreatDoor
open Go Go.Abs Go.PE
open Ord (Rel clos)
set_option linter.unusedVariables false
set_option maxRecDepth 10000
abbrev Bnd := Int × Int × Int
def obs (n : Int) (i : Nat) : List Bnd := (List.range i).flatMap fun (a : Nat) => [((a : Int), n, (0 : Int)), (n, (a : Int), (2100 : Int))]
def clb (n : Int) (c : Clu) : List Bnd :=
 if c.1 = 1 then [(c.2.1, n, -c.2.2.2.1), (n, c.2.1, c.2.2.2.2 - 1)]
 else if c.1 = 2 then [(c.2.1, n, -c.2.2.2.1), (n, c.2.1, 2100)]
 else if c.1 = 3 then [(c.2.1, n, 0), (n, c.2.1, c.2.2.2.1)]
 else [(c.2.1, c.2.2.1, c.2.2.2.2), (c.2.2.1, c.2.1, -c.2.2.2.1)]
def prs (l : List (Int × Int)) : List Bnd := l.map fun p => (p.2, p.1, (0 : Int))
def rpr (o : Int × List (Int × Int)) : List (Int × Int) := lst o.1.toNat (rdc o) o.1.toNat
def bds (d : Dat) : Int × List Bnd := (d.1.1 + 1, obs d.1.1 d.1.1.toNat ++ d.2.flatMap (clb d.1.1) ++ prs (rpr d.1))
theorem obs_succ (n : Int) (i : Nat) : obs n (i + 1) = obs n i ++ [((i : Int), n, (0 : Int)), (n, (i : Int), (2100 : Int))] := by
 unfold obs
 rw [List.range_succ, List.flatMap_append]
 simp
theorem obs_len (n : Int) : ∀ i, (obs n i).length = 2 * i
 | 0 => rfl
 | i + 1 => by rw [obs_succ, List.length_append, obs_len n i]; show 2 * i + 2 = _; omega
theorem clb_len (n : Int) (c : Clu) : (clb n c).length = 2 := by
 unfold clb
 split
 ·rfl
 ·split
  ·rfl
  ·split <;> rfl
theorem clbs_len (n : Int) : ∀ l : List Clu, (l.flatMap (clb n)).length = 2 * l.length
 | [] => rfl
 | c :: r => by rw [List.flatMap_cons, List.length_append, clb_len, clbs_len n r, List.length_cons]; omega
theorem vld_of {d : Dat} (h : vld d = true) : okO d.1 = true ∧ d.2.length ≤ 14 ∧ ∀ c ∈ d.2, vcl d.1.1 c = true := by
 unfold vld at h
 simp only [Bool.and_eq_true, decide_eq_true_eq, List.all_eq_true] at h
 exact ⟨h.1.1, h.1.2, h.2⟩
theorem okO_of {o : Int × List (Int × Int)} (h : okO o = true) : 0 ≤ o.1 ∧ o.1 ≤ 8 ∧ o.2.length ≤ 28 ∧ ∀ p ∈ o.2, pok o.1 p = true := by
 unfold okO at h
 rw [Bool.and_eq_true] at h
 exact frm_of h.1
theorem vcl_of {n : Int} {c : Clu} (h : vcl n c = true) : 0 ≤ c.2.1 ∧ c.2.1 < n ∧
  ((c.1 = 1 ∧ c.2.2.1 = 0 ∧ 0 ≤ c.2.2.2.1 ∧ c.2.2.2.1 < c.2.2.2.2 ∧ c.2.2.2.2 ≤ 2101) ∨
   ((c.1 = 2 ∨ c.1 = 3) ∧ c.2.2.1 = 0 ∧ 0 ≤ c.2.2.2.1 ∧ c.2.2.2.1 ≤ 2100 ∧ c.2.2.2.2 = 0) ∨
   (c.1 = 4 ∧ 0 ≤ c.2.2.1 ∧ c.2.2.1 < n ∧ c.2.2.2.1 = 0 ∧ c.2.2.2.2 = 0) ∨
   (c.1 = 5 ∧ 0 ≤ c.2.2.1 ∧ c.2.2.1 < n ∧ -200 ≤ c.2.2.2.1 ∧ c.2.2.2.1 ≤ c.2.2.2.2 ∧ c.2.2.2.2 ≤ 200)) := of_decide_eq_true h
theorem rpr_len (o : Int × List (Int × Int)) (h : okO o = true) : (rpr o).length ≤ 64 := by
 obtain ⟨h0, h1, _, _⟩ := okO_of h
 have h2 := lst_len o.1.toNat (rdc o) o.1.toNat
 have h3 : o.1.toNat * o.1.toNat ≤ 8 * 8 := Nat.mul_le_mul (by omega) (by omega)
 unfold rpr
 omega
theorem prs_len (l : List (Int × Int)) : (prs l).length = l.length := List.length_map ..
theorem app24 {xs : List Bnd} {y : Bnd} (h : xs.length ≤ 200) : appM (nat_lit 24) xs [y] = some (xs ++ [y]) := appM_of (by
 show (xs.length + 1) * 24 ≤ _
 omega)
theorem prs_append (a b : List (Int × Int)) : prs (a ++ b) = prs a ++ prs b := List.map_append ..
theorem m24_eq (d : Dat) : m24 d = some (if vld d = true then (bds d, 0) else ((0, []), 220)) := by
 unfold m24
 rw [show (((d.1.1, d.1.2), d.2) : Dat) = d from rfl, m20_eq, Option.bind_some]
 by_cases h : vld d = true
 ·rw [h, if_pos rfl, notT, cond_false]
  obtain ⟨hO, hl, hc⟩ := vld_of h
  obtain ⟨n0, n8, _, _⟩ := okO_of hO
  refine bind_of (x := bds d) ?_ rfl
  generalize hn : d.1.1.toNat = n
  have on : d.1.1 = (n : Int) := by omega
  have ow : IntKind.wrap IntKind.i64 (d.1.1 + 1) = d.1.1 + 1 := wrap_in (by omega) (by omega)
  rw [ow]
  refine bind_of (x := .inl (d.1.1 + 1, obs d.1.1 n)) ?_ ?_
  ·refine count_from (fun i => (d.1.1 + 1, obs d.1.1 i)) n rfl (fun i hi => ?_) ?_
   ·rw [ltI (by dsimp only; omega), cond_true]
    have hx := obs_len d.1.1 i
    dsimp only
    rw [app24 (by omega), Option.bind_some, app24 (by rw [List.length_append]; show _ + 1 ≤ _; omega), Option.bind_some, wrap_in (by omega) (by omega), obs_succ, List.append_assoc]
    rfl
   ·rw [geI (by dsimp only; omega), cond_false]
  ·rw [Sum.elim_inl]
   have hL : obs d.1.1 n ++ (d.2.take d.2.length).flatMap (clb d.1.1) = obs d.1.1 n ++ d.2.flatMap (clb d.1.1) := by rw [List.take_length]
   refine bind_of (x := .inl (d.1.1 + 1, obs d.1.1 n ++ d.2.flatMap (clb d.1.1))) ?_ ?_
   ·refine count_from (fun i => (d.1.1 + 1, obs d.1.1 n ++ (d.2.take i).flatMap (clb d.1.1))) d.2.length (by rw [List.take_zero, List.flatMap_nil, List.append_nil]) (fun i hi => ?_) ?_
    ·rw [ltI (by show (i : Int) < (d.2.length : Int); omega), cond_true, idxM_lt hi, Option.bind_some]
     dsimp only
     have hx := obs_len d.1.1 n
     have hy := clbs_len d.1.1 (d.2.take i)
     rw [List.length_take] at hy
     have hs : (obs d.1.1 n ++ (d.2.take i).flatMap (clb d.1.1)).length ≤ 100 := by rw [List.length_append]; omega
     have et : (d.2.take (i + 1)).flatMap (clb d.1.1) = (d.2.take i).flatMap (clb d.1.1) ++ clb d.1.1 d.2[i] := by
      rw [List.take_succ_eq_append_getElem hi, List.flatMap_append]
      simp
     rw [et, ← List.append_assoc]
     have hv := vcl_of (hc _ (List.getElem_mem hi))
     generalize d.2[i] = c at hv ⊢
     generalize obs d.1.1 n ++ (d.2.take i).flatMap (clb d.1.1) = acc at hs ⊢
     obtain ⟨v1, v2, hv⟩ := hv
     have e138 : m138 c = some (c.2.2.2.1, IntKind.wrap IntKind.i64 (c.2.2.2.2 - 1)) := rfl
     have e139 : m139 c = some (c.2.2.2.1, 2100) := rfl
     have e140 : m140 c = some (0, c.2.2.2.1) := rfl
     have e141 : m141 c = some (c.2.2.2.1, c.2.2.2.2) := rfl
     have two : ∀ (y z : Bnd), Option.bind (appM (nat_lit 24) acc [y]) (fun r => Option.bind (appM (nat_lit 24) r [z]) fun r => (some (Sum.inr (d.1.1 + 1, r)) : Option ((Int × List Bnd) ⊕ (Int × List Bnd)))) = some (.inr (d.1.1 + 1, acc ++ [y, z])) := fun y z => by
      rw [app24 (by omega), Option.bind_some, app24 (by rw [List.length_append]; show _ + 1 ≤ _; omega), Option.bind_some, List.append_assoc]
      rfl
     refine bind_of (x := .inr (d.1.1 + 1, acc ++ clb d.1.1 c)) ?_ ?_
     ·unfold clb
      by_cases k1 : c.1 = 1
      ·rw [if_pos k1, show PE.orM (eqM c.1 (1 : Int)) (PE.orM (eqM c.1 (2 : Int)) (eqM c.1 (3 : Int))) = true by rw [eqI k1]; rfl, cond_true, eqI k1, cond_true]
       refine bind_of e138 ?_
       dsimp only
       rw [show PE.negM c.2.2.2.1 = -c.2.2.2.1 from rfl, wrap_in (n := -c.2.2.2.1) (by omega) (by omega), wrap_in (n := c.2.2.2.2 - 1) (by omega) (by omega)]
       exact two _ _
      ·rw [if_neg k1]
       by_cases k2 : c.1 = 2
       ·rw [if_pos k2, show PE.orM (eqM c.1 (1 : Int)) (PE.orM (eqM c.1 (2 : Int)) (eqM c.1 (3 : Int))) = true by rw [neI k1, eqI k2]; rfl, cond_true, neI k1, cond_false, eqI k2, cond_true]
        refine bind_of e139 ?_
        dsimp only
        rw [show PE.negM c.2.2.2.1 = -c.2.2.2.1 from rfl, wrap_in (by omega) (by omega)]
        exact two _ _
       ·rw [if_neg k2]
        by_cases k3 : c.1 = 3
        ·rw [if_pos k3, show PE.orM (eqM c.1 (1 : Int)) (PE.orM (eqM c.1 (2 : Int)) (eqM c.1 (3 : Int))) = true by rw [neI k1, neI k2, eqI k3]; rfl, cond_true, neI k1, cond_false, neI k2, cond_false, eqI k3, cond_true]
         refine bind_of e140 ?_
         dsimp only
         rw [show IntKind.wrap IntKind.i64 (PE.negM 0) = 0 from rfl]
         exact two _ _
        ·rw [if_neg k3, show PE.orM (eqM c.1 (1 : Int)) (PE.orM (eqM c.1 (2 : Int)) (eqM c.1 (3 : Int))) = false by rw [neI k1, neI k2, neI k3]; rfl, cond_false]
         have e45 : (bif eqM c.1 (4 : Int) then m141 c else bif eqM c.1 (5 : Int) then m141 c else none) = some (c.2.2.2.1, c.2.2.2.2) := by
          by_cases k4 : c.1 = 4
          ·rw [eqI k4, cond_true, e141]
          ·have k5 : c.1 = 5 := by omega
           rw [neI k4, cond_false, eqI k5, cond_true, e141]
         refine bind_of e45 ?_
         dsimp only
         rw [show PE.negM c.2.2.2.1 = -c.2.2.2.1 from rfl, wrap_in (by omega) (by omega)]
         exact two _ _
     ·rw [Sum.elim_inr, wrap_in (by omega) (by omega)]
    ·rw [geI (by show (d.2.length : Int) ≤ (d.2.length : Int); omega), cond_false, hL]
   ·rw [Sum.elim_inl, show ((d.1.1, d.1.2) : Int × List (Int × Int)) = d.1 from rfl, m28_eq hO, Option.bind_some]
    show Option.bind (loopM _ _) _ = _
    have hr := rpr_len d.1 hO
    have hx := obs_len d.1.1 n
    have hy := clbs_len d.1.1 d.2
    refine bind_of (x := bds d) ?_ rfl
    unfold bds
    rw [hn]
    generalize hacc : obs d.1.1 n ++ d.2.flatMap (clb d.1.1) = acc
    have hs : acc.length ≤ 60 := by rw [← hacc, List.length_append]; omega
    have hu : lst d.1.1.toNat (rdc d.1) d.1.1.toNat = rpr d.1 := rfl
    generalize hlr : rpr d.1 = R at hr hu ⊢
    rw [← hn, hu]
    refine count_from (fun i => (d.1.1 + 1, acc ++ prs (R.take i))) R.length (by rw [List.take_zero]; show _ = (_, acc ++ []); rw [List.append_nil]) (fun i hi => ?_) ?_
    ·rw [ltI (by show (i : Int) < (R.length : Int); omega), cond_true, idxM_lt hi, Option.bind_some]
     dsimp only
     rw [app24 (by rw [List.length_append, prs_len, List.length_take]; omega), Option.bind_some, wrap_in (by omega) (by omega), List.take_succ_eq_append_getElem hi, prs_append, List.append_assoc]
     rfl
    ·rw [geI (by show (R.length : Int) ≤ (R.length : Int); omega), cond_false, List.take_length]
 ·have h : vld d = false := by simpa using h
  rw [h, if_neg (by decide)]
  rfl
end Go.Proofs.YthfgccfaildmfaaGreatDoor
/-
 Dating: the bounds of a valid dating are a valid system; what Ranges and Allowed answer.
 No conditions.
-/
namespace Go.Proofs.YthfgccfaildmfaaGreatDoor
open Go Go.Abs Go.PE
open Ord (Rel clos)
set_option linter.unusedVariables false
set_option maxRecDepth 10000
theorem rl_tri {o : Int × List (Int × Int)} (h : frm o = true) {a b c : Nat} (h1 : rl o a b = true) (h2 : rl o b c = true) : rl o a c = true :=
 Ord.clos_tri _ b a c (clos_in h h1).2 h1 h2
theorem red_pair {o : Int × List (Int × Int)} (h : frm o = true) {a b : Nat} (hr : rdc o a b = true) : ((a : Int), (b : Int)) ∈ o.2 := by
 rw [rdc, Ord.red_iff] at hr
 obtain ⟨h1, h2⟩ := hr
 have := Ord.clos_ind (d := rel0 o.2) (P := fun a b => rl o a b = true ∧ (rel0 o.2 a b = true ∨ ∃ k, k < o.1.toNat ∧ rl o a k = true ∧ rl o k b = true)) (fun a b hab => ⟨Ord.clos_sub hab _, .inl hab⟩)
  (fun a b c g1 g2 => ⟨rl_tri h g1.1 g2.1, .inr ⟨b, (clos_in h g1.1).2, g1.1, g2.1⟩⟩) o.1.toNat a b h1
 rcases this.2 with g | ⟨k, g1, g2, g3⟩
 ·exact rel0_iff.1 g
 ·exact absurd ⟨g2, g3⟩ (h2 k g1)
theorem nodup_sub {α : Type} [DecidableEq α] : ∀ (m l : List α), m.Nodup → (∀ x ∈ m, x ∈ l) → m.length ≤ l.length
 | [], l, _, _ => by simp
 | x :: m, l, hn, hs => by
  rw [List.nodup_cons] at hn
  have hx := hs x (List.mem_cons_self ..)
  have := nodup_sub m (l.erase x) hn.2 fun y hy => by
   have hne : y ≠ x := fun e => hn.1 (e ▸ hy)
   exact (List.mem_erase_of_ne hne).2 (hs y (List.mem_cons_of_mem _ hy))
  rw [List.length_erase_of_mem hx] at this
  have hp := List.length_pos_of_mem hx
  rw [List.length_cons]
  omega
theorem lsr_nodup (n : Nat) (d : Rel) (a j : Nat) : (lsr n d a j).Nodup := by
 unfold lsr
 rw [List.nodup_iff_pairwise_ne, List.pairwise_map]
 have h : ((List.range j).filter fun b => d a b).Pairwise (· < ·) := (List.pairwise_lt_range).filter _
 refine h.imp fun {x y} hxy he => ?_
 have := (Prod.mk.inj he).2
 omega
theorem lst_nodup (n : Nat) (d : Rel) : ∀ i, (lst n d i).Nodup
 | 0 => by simp [lst]
 | i + 1 => by
  rw [lst_succ, List.nodup_append]
  refine ⟨lst_nodup n d i, lsr_nodup n d i n, fun x hx y hy he => ?_⟩
  subst he
  unfold lst at hx
  rw [List.mem_flatMap] at hx
  obtain ⟨a, ha, hx⟩ := hx
  rw [List.mem_range] at ha
  unfold lsr at hx hy
  rw [List.mem_map] at hx hy
  obtain ⟨b, _, rfl⟩ := hx
  obtain ⟨c, _, e⟩ := hy
  have := (Prod.mk.inj e).1
  omega
theorem mem_rpr {o : Int × List (Int × Int)} {p : Int × Int} : p ∈ rpr o ↔ ∃ a b : Nat, a < o.1.toNat ∧ b < o.1.toNat ∧ rdc o a b = true ∧ p = ((a : Int), (b : Int)) := mem_lst
theorem rpr_le {o : Int × List (Int × Int)} (h : okO o = true) : (rpr o).length ≤ o.2.length := by
 have hf : frm o = true := by unfold okO at h; rw [Bool.and_eq_true] at h; exact h.1
 refine nodup_sub _ _ (lst_nodup _ _ _) fun p hp => ?_
 obtain ⟨a, b, _, _, hr, rfl⟩ := mem_rpr.1 hp
 exact red_pair hf hr
theorem mem_bds {d : Dat} {c : Bnd} : c ∈ (bds d).2 ↔ (∃ a : Nat, a < d.1.1.toNat ∧ (c = ((a : Int), d.1.1, 0) ∨ c = (d.1.1, (a : Int), 2100))) ∨ (∃ q ∈ d.2, c ∈ clb d.1.1 q) ∨ ∃ a b : Nat, a < d.1.1.toNat ∧ b < d.1.1.toNat ∧ rdc d.1 a b = true ∧ c = ((b : Int), (a : Int), 0) := by
 unfold bds
 simp only [List.mem_append, List.mem_flatMap]
 rw [or_assoc]
 refine or_congr ?_ (or_congr Iff.rfl ?_)
 ·unfold obs
  rw [List.mem_flatMap]
  constructor
  ·rintro ⟨a, ha, hc⟩
   rw [List.mem_range] at ha
   simp only [List.mem_cons, List.not_mem_nil, or_false] at hc
   exact ⟨a, ha, hc⟩
  ·rintro ⟨a, ha, hc⟩
   exact ⟨a, List.mem_range.2 ha, by simpa using hc⟩
 ·unfold prs
  rw [List.mem_map]
  constructor
  ·rintro ⟨p, hp, rfl⟩
   obtain ⟨a, b, ha, hb, hr, rfl⟩ := mem_rpr.1 hp
   exact ⟨a, b, ha, hb, hr, rfl⟩
  ·rintro ⟨a, b, ha, hb, hr, rfl⟩
   exact ⟨_, mem_rpr.2 ⟨a, b, ha, hb, hr, rfl⟩, rfl⟩
theorem clb_bnd {n : Int} {q : Clu} (hn : n ≤ 8) (h : vcl n q = true) {c : Bnd} (hc : c ∈ clb n q) : 0 ≤ c.1 ∧ c.1 < n + 1 ∧ 0 ≤ c.2.1 ∧ c.2.1 < n + 1 ∧ -2101 ≤ c.2.2 ∧ c.2.2 ≤ 2101 := by
 obtain ⟨v1, v2, hv⟩ := vcl_of h
 unfold clb at hc
 split at hc
 ·simp only [List.mem_cons, List.not_mem_nil, or_false] at hc
  rcases hc with rfl | rfl <;> dsimp only <;> omega
 ·split at hc
  ·simp only [List.mem_cons, List.not_mem_nil, or_false] at hc
   rcases hc with rfl | rfl <;> dsimp only <;> omega
  ·split at hc <;>
   ·simp only [List.mem_cons, List.not_mem_nil, or_false] at hc
    rcases hc with rfl | rfl <;> dsimp only <;> omega
structure DOK (d : Dat) : Prop where
 v : vld d = true
 c : d.2.length ≤ 11
 p : d.1.2.length ≤ 20
theorem DOK.n0 {d : Dat} (h : DOK d) : 0 ≤ d.1.1 ∧ d.1.1 ≤ 8 := by
 obtain ⟨a, b, _, _⟩ := okO_of (vld_of h.v).1
 exact ⟨a, b⟩
theorem DOK.f {d : Dat} (h : DOK d) : frm d.1 = true := by
 have := (vld_of h.v).1
 unfold okO at this
 rw [Bool.and_eq_true] at this
 exact this.1
theorem bds_in {d : Dat} (h : DOK d) {c : Bnd} (hc : c ∈ (bds d).2) : 0 ≤ c.1 ∧ c.1 < d.1.1 + 1 ∧ 0 ≤ c.2.1 ∧ c.2.1 < d.1.1 + 1 ∧ -2101 ≤ c.2.2 ∧ c.2.2 ≤ 2101 := by
 have hn := h.n0
 rcases mem_bds.1 hc with ⟨a, ha, rfl | rfl⟩ | ⟨q, hq, hc⟩ | ⟨a, b, ha, hb, _, rfl⟩
 ·dsimp only; omega
 ·dsimp only; omega
 ·exact clb_bnd hn.2 ((vld_of h.v).2.2 q hq) hc
 ·dsimp only; omega
theorem DOK.s {d : Dat} (h : DOK d) : sys (bds d) = true := by
 have hn := h.n0
 unfold sys
 rw [Bool.and_eq_true]
 constructor
 ·refine decide_eq_true ⟨?_, ?_, ?_⟩
  ·show 0 ≤ d.1.1 + 1; omega
  ·show d.1.1 + 1 ≤ 16; omega
  ·have h1 := rpr_le (vld_of h.v).1
   have h2 := h.c
   have h3 := h.p
   unfold bds
   simp only [List.length_append, obs_len, clbs_len, prs_len]
   omega
 ·refine List.all_eq_true.2 fun c hc => decide_eq_true ?_
  have := bds_in h hc
  show 0 ≤ c.1 ∧ c.1 < d.1.1 + 1 ∧ 0 ≤ c.2.1 ∧ c.2.1 < d.1.1 + 1 ∧ -1000000000 ≤ c.2.2 ∧ c.2.2 ≤ 1000000000
  omega
def og (d : Dat) : Nat := d.1.1.toNat
theorem bds_n {d : Dat} (h : DOK d) : (bds d).1.toNat = og d + 1 := by
 have hn := h.n0
 show (d.1.1 + 1).toNat = d.1.1.toNat + 1
 omega
theorem og_is {d : Dat} (h : DOK d) : ((og d : Nat) : Int) = d.1.1 := by
 have hn := h.n0
 unfold og
 omega
def lo (d : Dat) (a : Nat) : Int := -fwS (bds d) a (og d)
def hi (d : Dat) (a : Nat) : Int := fwS (bds d) (og d) a
end Go.Proofs.YthfgccfaildmfaaGreatDoor
/-
 Dating: what Allowed, Certain and Check answer.
 No conditions.
-/
namespace Go.Proofs.YthfgccfaildmfaaGreatDoor
open Go Go.Abs Go.PE
set_option linter.unusedVariables false
set_option maxRecDepth 10000
def ask (d : Dat) (a b k : Int) : Bool := vld d && decide ((0 ≤ a ∧ a < d.1.1) ∧ (0 ≤ b ∧ b < d.1.1) ∧ -2100 ≤ k ∧ k ≤ 2100)
end Go.Proofs.YthfgccfaildmfaaGreatDoor
/-
 Dating: the order that integers determine is valid.
 No conditions.
-/
namespace Go.Proofs.YthfgccfaildmfaaGreatDoor
open Go Go.Abs Go.PE
open Ord (Rel clos)
set_option linter.unusedVariables false
set_option maxRecDepth 10000
theorem m86_eq {c n : Int} (hc : IntKind.i64.has c) (hn : 0 < n) : m86 (c, n) = some (pk c n) := pk_text hc hn
theorem m37_eq {c n : Int} (hc : IntKind.i64.has c) (hn : 0 < n) : m37 (c, n) = some (pk c n) := pk_text hc hn
theorem m13_eq {c n : Int} (hc : IntKind.i64.has c) (hn : 0 < n) : m13 (c, n) = some (pk c n) := pk_text hc hn
theorem m38_eq (a b c : Int) : m38 (a, b, c) = some (decide (b ≤ a ∧ a ≤ c)) := m54_eq a b c
def has2 (p : Int × Int) : Prop := IntKind.i64.has p.1 ∧ IntKind.i64.has p.2
def lp (n : Int) (x : List (Int × Int)) (i : Nat) : Int × Int := match x[i]? with
 | some p => (pk p.1 n, (pk p.1 n + 1 + pk p.2 (n - 1)) % n)
 | none => (0, 1)
theorem lp_ok {n : Int} (hn : 1 < n) (x : List (Int × Int)) (i : Nat) : pok n (lp n x i) = true := by
 refine decide_eq_true ?_
 unfold lp
 split
 ·rename_i p _
  have h1 := pk_lo (c := p.1) (n := n) (by omega)
  have h2 := pk_hi (c := p.1) (n := n) (by omega)
  have h3 := pk_lo (c := p.2) (n := n - 1) (by omega)
  have h4 := pk_hi (c := p.2) (n := n - 1) (by omega)
  generalize pk p.1 n = a at *
  generalize pk p.2 (n - 1) = t at *
  dsimp only
  have h5 := Int.emod_nonneg (a + 1 + t) (show n ≠ 0 by omega)
  have h6 := Int.emod_lt_of_pos (a + 1 + t) (show 0 < n by omega)
  refine ⟨h1, h2, h5, h6, fun h => ?_⟩
  by_cases hlt : a + 1 + t < n
  ·rw [Int.emod_eq_of_lt (by omega) hlt] at h
   omega
  ·have e : (a + 1 + t) % n = a + 1 + t - n := by
    rw [← Int.sub_emod_right (a + 1 + t) n]
    exact Int.emod_eq_of_lt (by omega) (by omega)
   rw [e] at h
   omega
 ·dsimp only; omega
theorem loose_loop {n : Int} (h0 : 0 ≤ n) (h8 : n ≤ 8) {x : List (Int × Int)} (hx : ∀ p ∈ x, has2 p) :
  ∃ l, (l.length ≤ 20 ∧ ∀ p ∈ l, pok n p = true) ∧ loopM (fun (s : Int × Int × List (Int × Int)) => bif
 PE.andM (PE.andM (ltM s.1 (lenM x)) (ltM s.1 (20 : Int))) (ltM (1 : Int) s.2.1) then Option.bind (idxM x s.1) fun (r_1 : Int × Int) => Option.bind
 (m86 (r_1.1, s.2.1)) fun (r_2 : Int) => Option.bind (idxM x s.1) fun (r_3 : Int × Int) => Option.bind (m86 (r_3.2, IntKind.wrap IntKind.i64 (s.2.1 - (1 :
 Int)))) fun (r_4 : Int) => Option.bind (remM (IntKind.wrap IntKind.i64 (IntKind.wrap IntKind.i64 (r_2 + (1 : Int)) + r_4)) s.2.1) fun (r_5 : Int) =>
 Option.bind (appM (nat_lit 16) s.2.2 [(r_2, r_5)]) fun (r : List (Int × Int)) => some (Sum.inl (IntKind.wrap IntKind.i64 (s.1 + (1 : Int)), s.2.1, r)) else
 some (Sum.inr (s.2.1, s.2.2))) ((0 : Int), n, []) = some (n, l) := by
 let K : Nat := if 1 < n then min x.length 20 else 0
 have hK : K ≤ 20 ∧ K ≤ x.length ∧ (0 < K → 1 < n) := by
  show (if 1 < n then min x.length 20 else 0) ≤ 20 ∧ (if 1 < n then min x.length 20 else 0) ≤ x.length ∧ (0 < (if 1 < n then min x.length 20 else 0) → 1 < n)
  split
  ·rename_i h; exact ⟨by omega, by omega, fun _ => h⟩
  ·exact ⟨by omega, by omega, fun h => absurd h (by omega)⟩
 refine ⟨row K (lp n x), ⟨by rw [row_length]; omega, fun p hp => ?_⟩, ?_⟩
 ·obtain ⟨i, hi, rfl⟩ := row_mem hp
  exact lp_ok (hK.2.2 (by omega)) x i
 ·refine count_from (fun k => (n, row k (lp n x))) K rfl (fun k hk => ?_) ?_
  ·have h1 := hK.2.2 (by omega)
   dsimp only
   rw [ltI (show (k : Int) < lenM x by show (k : Int) < (x.length : Int); omega), ltI (show (k : Int) < 20 by omega), ltI h1, andT, andT, cond_true, idxM_lt (show k < x.length by omega), Option.bind_some]
   have hm := hx _ (List.getElem_mem (show k < x.length by omega))
   have p1 := pk_lo (c := x[k].1) (n := n) (by omega)
   have p2 := pk_hi (c := x[k].1) (n := n) (by omega)
   have p3 := pk_lo (c := x[k].2) (n := n - 1) (by omega)
   have p4 := pk_hi (c := x[k].2) (n := n - 1) (by omega)
   rw [m86_eq hm.1 (by omega), Option.bind_some, Option.bind_some, wrap_in (n := n - 1) (by omega) (by omega), m86_eq hm.2 (by omega), Option.bind_some, wrap_in (n := pk x[k].1 n + 1) (by omega) (by omega), wrap_in (n := pk x[k].1 n + 1 + pk x[k].2 (n - 1)) (by omega) (by omega), remM_of (by omega) (by omega), Option.bind_some]
   have e : (pk x[k].1 n, (pk x[k].1 n + 1 + pk x[k].2 (n - 1)) % n) = lp n x k := by
    unfold lp
    rw [List.getElem?_eq_getElem (show k < x.length by omega)]
   rw [e, app_row (g := lp n x) (by omega), Option.bind_some, wrap_in (by omega) (by omega)]
  ·dsimp only
   have e : PE.andM (PE.andM (ltM (K : Int) (lenM x)) (ltM (K : Int) (20 : Int))) (ltM (1 : Int) n) = false := by
    show ((decide ((K : Int) < (x.length : Int)) && decide _) && decide _) = false
    rw [Bool.and_eq_false_iff, Bool.and_eq_false_iff, decide_eq_false_iff_not, decide_eq_false_iff_not, decide_eq_false_iff_not]
    show (¬ ((if 1 < n then min x.length 20 else 0 : Nat) : Int) < x.length ∨ ¬ ((if 1 < n then min x.length 20 else 0 : Nat) : Int) < 20) ∨ ¬ 1 < n
    split <;> omega
   rw [e, cond_false]
theorem place_loop {n : Nat} (h8 : n ≤ 8) {left : List Int} (hl : left.length = n) (hd : left.Nodup) {m : Int} (hm0 : 0 ≤ m) (hm : m ≤ 1000000) :
  ∃ pl, (pl.length = n ∧ pl.Nodup) ∧ loopM (fun (s : Int × List Int × List Int)
 => bif ltM (0 : Int) (lenM s.2.1) then Option.bind (remM s.1 (lenM s.2.1)) fun (r_2 : Int) => Option.bind (divM IntKind.i64 s.1 (lenM s.2.1)) fun (r_3 : Int)
 => Option.bind (idxM s.2.1 r_2) fun (r_4 : Int) => Option.bind (appM (nat_lit 8) s.2.2 [r_4]) fun (r_5 : List Int) => Option.bind (Option.bind (sameM r_2 r_2)
 fun (x : Unit) => sliceM s.2.1 (0 : Int) r_2) fun (r_6 : List Int) => Option.bind (sliceM s.2.1 (IntKind.wrap IntKind.i64 (r_2 + (1 : Int))) (lenM s.2.1)) fun
 (r_7 : List Int) => Option.bind (appM (nat_lit 8) r_6 r_7) fun (r : List Int) => some (Sum.inl (r_3, r, r_5)) else some (Sum.inr s.2.2)) (m, left, []) = some pl := by
 obtain ⟨r, hr, hq⟩ := loopM_from (body := fun (s : Int × List Int × List Int)
 => bif ltM (0 : Int) (lenM s.2.1) then Option.bind (remM s.1 (lenM s.2.1)) fun (r_2 : Int) => Option.bind (divM IntKind.i64 s.1 (lenM s.2.1)) fun (r_3 : Int)
 => Option.bind (idxM s.2.1 r_2) fun (r_4 : Int) => Option.bind (appM (nat_lit 8) s.2.2 [r_4]) fun (r_5 : List Int) => Option.bind (Option.bind (sameM r_2 r_2)
 fun (x : Unit) => sliceM s.2.1 (0 : Int) r_2) fun (r_6 : List Int) => Option.bind (sliceM s.2.1 (IntKind.wrap IntKind.i64 (r_2 + (1 : Int))) (lenM s.2.1)) fun
 (r_7 : List Int) => Option.bind (appM (nat_lit 8) r_6 r_7) fun (r : List Int) => some (Sum.inl (r_3, r, r_5)) else some (Sum.inr s.2.2))
  (fun k s => (0 ≤ s.1 ∧ s.1 ≤ 1000000) ∧ s.2.1.length + k = n ∧ s.2.2.length = k ∧ (s.2.2 ++ s.2.1).Nodup) (fun pl => pl.length = n ∧ pl.Nodup) n (s := (m, left, [])) ⟨⟨hm0, hm⟩, by dsimp only; omega, rfl, hd⟩ (fun k s hk hP => by
  obtain ⟨m, L, P⟩ := s
  obtain ⟨⟨q0, q1⟩, q2, q3, q4⟩ := hP
  dsimp only at q0 q1 q2 q3 q4 ⊢
  by_cases hL : 0 < L.length
  ·have e0 : lenM L = (L.length : Int) := rfl
   have r0 := Int.emod_nonneg m (show (L.length : Int) ≠ 0 by omega)
   have r1 := Int.emod_lt_of_pos m (show 0 < (L.length : Int) by omega)
   have d0 : 0 ≤ m.tdiv L.length := Int.tdiv_nonneg q0 (by omega)
   have d1 : m.tdiv L.length ≤ m := by
    rw [Int.tdiv_eq_ediv_of_nonneg q0]
    exact Int.ediv_le_self _ q0
   rw [e0, ltI (by omega), cond_true, remM_of q0 (by omega), Option.bind_some, divM_pos (by omega), Option.bind_some, wrap_in (by omega) (by omega)]
   obtain ⟨j, hj⟩ := Int.eq_ofNat_of_zero_le r0
   rw [hj] at r1 ⊢
   have hjl : j < L.length := by omega
   rw [idxM_lt hjl, Option.bind_some, appM_of (by show (P.length + 1) * 8 ≤ _; omega), Option.bind_some, sameM_self, Option.bind_some, sliceM_of (by omega) (by omega) (by omega), Option.bind_some, wrap_in (by omega) (by omega), sliceM_of (by omega) (by omega) (by omega), Option.bind_some]
   have e1 : ((L.take (j : Int).toNat).drop (0 : Int).toNat) = L.take j := by simp
   have e2 : ((L.take (L.length : Int).toNat).drop ((j : Int) + 1).toNat) = L.drop (j + 1) := by
    rw [show ((j : Int) + 1).toNat = j + 1 by omega]; simp
   rw [e1, e2, appM_of (by rw [List.length_take, List.length_drop]; show _ * 8 ≤ _; omega), Option.bind_some]
   refine .inl ⟨_, by omega, rfl, ⟨d0, by omega⟩, ?_, ?_, ?_⟩
   ·dsimp only; rw [List.length_append, List.length_take, List.length_drop]; omega
   ·dsimp only; rw [List.length_append]; show P.length + 1 = k + 1; omega
   ·dsimp only
    have hp : (P ++ [L[j]] ++ (L.take j ++ L.drop (j + 1))).Perm (P ++ L) := by
     rw [List.append_assoc]
     refine List.Perm.append_left _ ?_
     have hsplit : L = L.take j ++ L[j] :: L.drop (j + 1) := by
      rw [List.getElem_cons_drop, List.take_append_drop]
     show (L[j] :: (L.take j ++ L.drop (j + 1))).Perm L
     have h2 : (L.take j ++ L[j] :: L.drop (j + 1)).Perm (L[j] :: (L.take j ++ L.drop (j + 1))) := List.perm_middle
     exact h2.symm.trans (by rw [← hsplit])
    exact hp.nodup_iff.2 q4
  ·have hz : L = [] := List.eq_nil_of_length_eq_zero (by omega)
   subst hz
   refine .inr ⟨P, by rw [geI (by show (([] : List Int).length : Int) ≤ 0; simp)]; rfl, ?_, ?_⟩
   ·simp only [List.length_nil] at q2; omega
   ·rw [List.append_nil] at q4; exact q4)
 exact ⟨r, hq, hr⟩
theorem nodup_getD {l : List Int} (h : l.Nodup) {i j : Nat} (hi : i < l.length) (hj : j < l.length) (hne : i ≠ j) : l.getD i 0 ≠ l.getD j 0 := by
 rw [List.getD_eq_getElem?_getD, List.getD_eq_getElem?_getD, List.getElem?_eq_getElem hi, List.getElem?_eq_getElem hj]
 intro he
 have he : l[i] = l[j] := he
 have hp := List.pairwise_iff_getElem.1 h
 rcases Nat.lt_or_gt_of_ne hne with hlt | hlt
 ·exact hp i j hi hj hlt he
 ·exact hp j i hj hi hlt he.symm
def ori (pl : List Int) (p : Int × Int) : Prop := pl.getD p.1.toNat 0 < pl.getD p.2.toNat 0
theorem turn_loop {n : Nat} (h8 : n ≤ 8) {pl : List Int} (hl : pl.length = n) (hd : pl.Nodup) {ps : List (Int × Int)} (hp : ∀ p ∈ ps, pok n p = true) (hs : ps.length ≤ 20) :
  ∃ qs, (qs.length = ps.length ∧ ∀ p ∈ qs, pok n p = true ∧ ori pl p) ∧ loopM (fun (s : Int × List (Int × Int)) => bif ltM s.1 (lenM s.2) then Option.bind (Option.bind (chkM s.1 (lenM s.2)) fun
 (r_2 : Unit) => Option.bind (idxM s.2 s.1) fun (r_3 : Int × Int) => Option.bind (chkM r_3.1 (lenM pl)) fun (r_4 : Unit) => Option.bind (idxM pl r_3.1) fun
 (r_5 : Int) => Option.bind (chkM r_3.2 (lenM pl)) fun (r_6 : Unit) => Option.bind (idxM pl r_3.2) fun (r_7 : Int) => bif ltM r_7 r_5 then Option.bind (chkM
 s.1 (lenM s.2)) fun (r_8 : Unit) => Option.bind (setM s.2 s.1 fun (x : Int × Int) => some (r_3.2, r_3.1)) fun (r : List (Int × Int)) => some r else some s.2)
 fun (o : List (Int × Int)) => some (Sum.inl (IntKind.wrap IntKind.i64 (s.1 + (1 : Int)), o)) else some (Sum.inr s.2)) ((0 : Int), ps) = some qs := by
 obtain ⟨r, hr, hq⟩ := loopM_from (body := fun (s : Int × List (Int × Int)) => bif ltM s.1 (lenM s.2) then Option.bind (Option.bind (chkM s.1 (lenM s.2)) fun
 (r_2 : Unit) => Option.bind (idxM s.2 s.1) fun (r_3 : Int × Int) => Option.bind (chkM r_3.1 (lenM pl)) fun (r_4 : Unit) => Option.bind (idxM pl r_3.1) fun
 (r_5 : Int) => Option.bind (chkM r_3.2 (lenM pl)) fun (r_6 : Unit) => Option.bind (idxM pl r_3.2) fun (r_7 : Int) => bif ltM r_7 r_5 then Option.bind (chkM
 s.1 (lenM s.2)) fun (r_8 : Unit) => Option.bind (setM s.2 s.1 fun (x : Int × Int) => some (r_3.2, r_3.1)) fun (r : List (Int × Int)) => some r else some s.2)
 fun (o : List (Int × Int)) => some (Sum.inl (IntKind.wrap IntKind.i64 (s.1 + (1 : Int)), o)) else some (Sum.inr s.2))
  (fun k s => s.1 = (k : Int) ∧ s.2.length = ps.length ∧ (∀ p ∈ s.2, pok n p = true) ∧ ∀ i (hi : i < s.2.length), i < k → ori pl s.2[i]) (fun qs => qs.length = ps.length ∧ ∀ p ∈ qs, pok n p = true ∧ ori pl p) ps.length (s := ((0 : Int), ps)) ⟨rfl, rfl, hp, fun i _ h => by omega⟩ (fun k s hk hP => by
  obtain ⟨i, Q⟩ := s
  obtain ⟨q0, q1, q2, q3⟩ := hP
  dsimp only at q0 q1 q2 q3 ⊢
  subst q0
  by_cases hlt : k < Q.length
  ·obtain ⟨v1, v2, v3, v4, v5⟩ := pok_of (q2 _ (List.getElem_mem hlt))
   rw [ltI (show (k : Int) < lenM Q by show (k : Int) < (Q.length : Int); omega), cond_true, chkM_of (n := lenM Q) (by omega) (by show (k : Int) < (Q.length : Int); omega), Option.bind_some, idxM_lt hlt, Option.bind_some, chkM_of (n := lenM pl) v1 (by show _ < (pl.length : Int); omega), Option.bind_some, idx_getD v1 (by omega), Option.bind_some, chkM_of (n := lenM pl) v3 (by show _ < (pl.length : Int); omega), Option.bind_some, idx_getD v3 (by omega), Option.bind_some, Option.bind_some, setM_of (y := (Q[k].2, Q[k].1)) (by omega) (by omega) rfl, Option.bind_some, cond_some, wrap_in (by omega) (by omega)]
   have hne := nodup_getD hd (i := Q[k].1.toNat) (j := Q[k].2.toNat) (by omega) (by omega) (by omega)
   by_cases hc : pl.getD Q[k].2.toNat 0 < pl.getD Q[k].1.toNat 0
   ·rw [ltI hc, cond_true]
    refine .inl ⟨_, by omega, rfl, rfl, ?_, ?_, ?_⟩
    ·dsimp only; rw [List.length_set, q1]
    ·dsimp only
     intro p hp
     rcases List.mem_or_eq_of_mem_set hp with h | rfl
     ·exact q2 p h
     ·exact decide_eq_true (by dsimp only; omega)
    ·dsimp only
     intro j hj hjk
     rw [List.getElem_set]
     by_cases hkj : (k : Int).toNat = j
     ·rw [if_pos hkj]; exact hc
     ·rw [if_neg hkj]; exact q3 j _ (by omega)
   ·rw [geI (by omega), cond_false]
    refine .inl ⟨_, by omega, rfl, rfl, q1, q2, ?_⟩
    dsimp only
    intro j hj hjk
    by_cases hkj : j = k
    ·subst hkj
     show pl.getD Q[j].1.toNat 0 < pl.getD Q[j].2.toNat 0
     omega
    ·exact q3 j hj (by omega)
  ·refine .inr ⟨Q, by rw [geI (by show (Q.length : Int) ≤ (k : Int); omega)]; rfl, q1, fun p hp => ⟨q2 p hp, ?_⟩⟩
   obtain ⟨j, hj, rfl⟩ := List.mem_iff_getElem.1 hp
   exact q3 j hj (by omega))
 exact ⟨r, hq, hr⟩
theorem m75_ok {n0 : Int} {x : List (Int × Int)} {l : Int} (h1 : IntKind.i64.has n0) (h2 : ∀ p ∈ x, has2 p) (h3 : IntKind.i64.has l) :
  ∃ o, m75 (n0, x, l) = some o ∧ okO o = true ∧ o.2.length ≤ 20 := by
 have p1 := pk_lo (c := n0) (n := 9) (by omega)
 have p2 := pk_hi (c := n0) (n := 9) (by omega)
 obtain ⟨n, hn⟩ := Int.eq_ofNat_of_zero_le p1
 have n8 : n ≤ 8 := by omega
 obtain ⟨ps, ⟨a1, a2⟩, a3⟩ := loose_loop (n := (n : Int)) (by omega) (by omega) h2
 have l1 := pk_lo (c := l) (n := 40320) (by omega)
 have l2 := pk_hi (c := l) (n := 40320) (by omega)
 have hd : (row n fun i => (i : Int)).Nodup := by
  unfold row
  refine List.pairwise_map.2 ((List.pairwise_lt_range).imp fun {a b} h => ?_)
  show ((a : Int)) ≠ (b : Int)
  omega
 obtain ⟨pl, ⟨b1, b2⟩, b3⟩ := place_loop n8 (left := row n fun i => (i : Int)) (row_length _ _) hd (m := pk l 40320) l1 (by omega)
 obtain ⟨qs, ⟨c1, c2⟩, c3⟩ := turn_loop n8 b1 b2 a2 a1
 refine ⟨((n : Int), qs), ?_, ?_, by dsimp only; omega⟩
 ·unfold m75
  dsimp only
  rw [m86_eq h1 (by omega), Option.bind_some, hn]
  refine bind_of a3 ?_
  dsimp only
  rw [m86_eq h3 (by omega), Option.bind_some]
  refine bind_of (x := row n fun i => (i : Int)) ?_ ?_
  ·refine count_from (fun i => row i fun i => (i : Int)) n rfl (fun i hi => ?_) ?_
   ·rw [ltI (by dsimp only; omega), cond_true]
    dsimp only
    rw [app_row (g := fun i => (i : Int)) (by omega), Option.bind_some, wrap_in (by omega) (by omega)]
   ·rw [geI (by dsimp only; omega), cond_false]
  ·refine bind_of b3 ?_
   exact bind_of c3 rfl
 ·have hf : frm ((n : Int), qs) = true := by
   unfold frm
   rw [Bool.and_eq_true]
   exact ⟨decide_eq_true ⟨by dsimp only; omega, by dsimp only; omega, by dsimp only; omega⟩, List.all_eq_true.2 fun p hp => (c2 p hp).1⟩
  unfold okO
  rw [hf, Bool.true_and]
  unfold acy
  rw [List.all_eq_true]
  intro a _
  cases hc : rl ((n : Int), qs) a a
  ·rfl
  ·have := Ord.clos_ind (d := rel0 qs) (P := fun a b => pl.getD a 0 < pl.getD b 0) (fun a b hab => by
    have := (c2 _ (rel0_iff.1 hab)).2
    unfold ori at this
    simpa using this) (fun a b c h1 h2 => by omega) _ a a hc
   omega
end Go.Proofs.YthfgccfaildmfaaGreatDoor
/-
 Dating: the reference's relations of 64 truth values; what it calls valid, and before.
 No conditions.
-/
namespace Go.Proofs.YthfgccfaildmfaaGreatDoor
open Go Go.Abs Go.PE
open Ord (Rel clos)
set_option linter.unusedVariables false
set_option maxRecDepth 10000
def fl8 (d : Rel) : List Bool := row 64 fun i => d (i / 8) (i % 8)
theorem fl_len (d : Rel) : (fl8 d).length = 64 := row_length _ _
theorem at8 (a b : Nat) : ((nat_lit 0 : Nat) : Int) + (a : Int) * ((nat_lit 8 : Nat) : Int) + (b : Int) * ((nat_lit 1 : Nat) : Int) = ((a * 8 + b : Nat) : Int) := by
 show (0 : Int) + (a : Int) * 8 + (b : Int) * 1 = _
 omega
theorem fl_idx (d : Rel) {a b : Nat} (ha : a < 8) (hb : b < 8) : idxM (fl8 d) (((nat_lit 0 : Nat) : Int) + (a : Int) * ((nat_lit 8 : Nat) : Int) + (b : Int) * ((nat_lit 1 : Nat) : Int)) = some (d a b) := by
 rw [at8]
 unfold fl8
 rw [row_idx (by omega)]
 rw [show (a * 8 + b) / 8 = a by omega, show (a * 8 + b) % 8 = b by omega]
theorem fl_congr {d d' : Rel} (h : ∀ a b, a < 8 → b < 8 → d a b = d' a b) : fl8 d = fl8 d' := row_congr fun i hi => h _ _ (by omega) (by omega)
theorem fl_set (d : Rel) {a b : Nat} (ha : a < 8) (hb : b < 8) : setM (fl8 d) (((nat_lit 0 : Nat) : Int) + (a : Int) * ((nat_lit 8 : Nat) : Int) + (b : Int) * ((nat_lit 1 : Nat) : Int)) (fun _ => some true) = some (fl8 fun a' b' => if a' = a ∧ b' = b then true else d a' b') := by
 rw [at8, setM_of (y := true) (by omega) (by rw [fl_len]; omega) rfl]
 congr 1
 unfold fl8
 rw [Int.toNat_natCast, row_set (by omega)]
 refine row_congr fun i hi => ?_
 by_cases h : i = a * 8 + b
 ·subst h
  rw [if_pos rfl]
  exact (if_pos (show (a * 8 + b) / 8 = a ∧ (a * 8 + b) % 8 = b by omega)).symm
 ·rw [if_neg h]
  exact (if_neg (show ¬ (i / 8 = a ∧ i % 8 = b) by omega)).symm
abbrev B8 := Bool × Bool × Bool × Bool × Bool × Bool × Bool × Bool
def r8 (f : Nat → Bool) : B8 := (f 0, f 1, f 2, f 3, f 4, f 5, f 6, f 7)
def tq64 (d : Rel) : B8 × B8 × B8 × B8 × B8 × B8 × B8 × B8 := (r8 (d 0), r8 (d 1), r8 (d 2), r8 (d 3), r8 (d 4), r8 (d 5), r8 (d 6), r8 (d 7))
def l64 (r : B8 × B8 × B8 × B8 × B8 × B8 × B8 × B8) : List Bool := [r.1.1, r.1.2.1, r.1.2.2.1, r.1.2.2.2.1, r.1.2.2.2.2.1,
 r.1.2.2.2.2.2.1, r.1.2.2.2.2.2.2.1, r.1.2.2.2.2.2.2.2, r.2.1.1, r.2.1.2.1, r.2.1.2.2.1, r.2.1.2.2.2.1, r.2.1.2.2.2.2.1, r.2.1.2.2.2.2.2.1,
 r.2.1.2.2.2.2.2.2.1, r.2.1.2.2.2.2.2.2.2, r.2.2.1.1, r.2.2.1.2.1, r.2.2.1.2.2.1, r.2.2.1.2.2.2.1, r.2.2.1.2.2.2.2.1, r.2.2.1.2.2.2.2.2.1,
 r.2.2.1.2.2.2.2.2.2.1, r.2.2.1.2.2.2.2.2.2.2, r.2.2.2.1.1, r.2.2.2.1.2.1, r.2.2.2.1.2.2.1, r.2.2.2.1.2.2.2.1, r.2.2.2.1.2.2.2.2.1, r.2.2.2.1.2.2.2.2.2.1,
 r.2.2.2.1.2.2.2.2.2.2.1, r.2.2.2.1.2.2.2.2.2.2.2, r.2.2.2.2.1.1, r.2.2.2.2.1.2.1, r.2.2.2.2.1.2.2.1, r.2.2.2.2.1.2.2.2.1, r.2.2.2.2.1.2.2.2.2.1,
 r.2.2.2.2.1.2.2.2.2.2.1, r.2.2.2.2.1.2.2.2.2.2.2.1, r.2.2.2.2.1.2.2.2.2.2.2.2, r.2.2.2.2.2.1.1, r.2.2.2.2.2.1.2.1, r.2.2.2.2.2.1.2.2.1, r.2.2.2.2.2.1.2.2.2.1,
 r.2.2.2.2.2.1.2.2.2.2.1, r.2.2.2.2.2.1.2.2.2.2.2.1, r.2.2.2.2.2.1.2.2.2.2.2.2.1, r.2.2.2.2.2.1.2.2.2.2.2.2.2, r.2.2.2.2.2.2.1.1, r.2.2.2.2.2.2.1.2.1,
 r.2.2.2.2.2.2.1.2.2.1, r.2.2.2.2.2.2.1.2.2.2.1, r.2.2.2.2.2.2.1.2.2.2.2.1, r.2.2.2.2.2.2.1.2.2.2.2.2.1, r.2.2.2.2.2.2.1.2.2.2.2.2.2.1,
 r.2.2.2.2.2.2.1.2.2.2.2.2.2.2, r.2.2.2.2.2.2.2.1, r.2.2.2.2.2.2.2.2.1, r.2.2.2.2.2.2.2.2.2.1, r.2.2.2.2.2.2.2.2.2.2.1, r.2.2.2.2.2.2.2.2.2.2.2.1,
 r.2.2.2.2.2.2.2.2.2.2.2.2.1, r.2.2.2.2.2.2.2.2.2.2.2.2.2.1, r.2.2.2.2.2.2.2.2.2.2.2.2.2.2]
theorem l64_is (d : Rel) : l64 (tq64 d) = fl8 d := rfl
theorem m123_eq (o : Int × List (Int × Int)) : m123 o = some (frm o) := by
 unfold m123
 by_cases h1 : 0 ≤ o.1 ∧ o.1 ≤ 8 ∧ o.2.length ≤ 28
 ·obtain ⟨h2, h3, h4⟩ := h1
  have e : PE.orM (PE.orM (ltM o.1 (0 : Int)) (ltM (8 : Int) o.1)) (ltM (28 : Int) (lenM o.2)) = false := by
   rw [geI h2, geI h3, orF, orF]
   exact geI (by show (o.2.length : Int) ≤ 28; omega)
  rw [e, cond_false]
  obtain ⟨r, hr, hq⟩ := loopM_from (body := fun (s : Int) => bif ltM s (lenM o.2) then Option.bind (idxM o.2 s) fun (r : Int × Int) => bif PE.orM (PE.orM (PE.orM (PE.orM (ltM r.1 (0 : Int)) (leM
 o.1 r.1)) (ltM r.2 (0 : Int))) (leM o.1 r.2)) (eqM r.1 r.2) then some (Sum.inr (Sum.inr false)) else some (Sum.inl (IntKind.wrap IntKind.i64 (s + (1 : Int))))
 else some (Sum.inr (Sum.inl ()))) (fun k s => s = (k : Int) ∧ ∀ j (hj : j < o.2.length), j < k → pok o.1 o.2[j] = true) (fun (r : Unit ⊕ Bool) => (r = .inl () ∧ o.2.all (pok o.1) = true) ∨ (r = .inr false ∧ o.2.all (pok o.1) = false)) o.2.length (s := 0) ⟨rfl, fun j _ h => by omega⟩ (fun k s hk hP => by
   obtain ⟨rfl, hP⟩ := hP
   by_cases hlt : k < o.2.length
   ·rw [ltI (show (k : Int) < lenM o.2 by show (k : Int) < (o.2.length : Int); omega), cond_true, idxM_lt hlt, Option.bind_some, wrap_in (by omega) (by omega)]
    have e2 : PE.orM (PE.orM (PE.orM (PE.orM (ltM o.2[k].1 (0 : Int)) (leM o.1 o.2[k].1)) (ltM o.2[k].2 (0 : Int))) (leM o.1 o.2[k].2)) (eqM o.2[k].1 o.2[k].2) = !pok o.1 o.2[k] := by
     rw [Bool.eq_iff_iff]
     unfold pok
     show ((((decide _ || decide _) || decide _) || decide _) || decide _) = true ↔ _
     simp only [Bool.or_eq_true, decide_eq_true_eq, Bool.not_eq_true', decide_eq_false_iff_not]
     omega
    rw [e2]
    cases hp : pok o.1 o.2[k]
    ·refine .inr ⟨_, rfl, .inr ⟨rfl, ?_⟩⟩
     rw [List.all_eq_false]
     exact ⟨_, List.getElem_mem hlt, by rw [hp]; decide⟩
    ·refine .inl ⟨_, hlt, rfl, rfl, fun j hj hjk => ?_⟩
     by_cases hj2 : j = k
     ·subst hj2; exact hp
     ·exact hP j hj (by omega)
   ·refine .inr ⟨.inl (), by rw [geI (by show (o.2.length : Int) ≤ (k : Int); omega)]; rfl, .inl ⟨rfl, ?_⟩⟩
    rw [List.all_eq_true]
    intro p hp
    obtain ⟨j, hj, rfl⟩ := List.mem_iff_getElem.1 hp
    exact hP j hj (by omega))
  refine bind_of hr ?_
  unfold frm
  rw [decide_eq_true ⟨h2, h3, h4⟩, Bool.true_and]
  rcases hq with ⟨rfl, hq⟩ | ⟨rfl, hq⟩ <;> rw [hq] <;> rfl
 ·have e : PE.orM (PE.orM (ltM o.1 (0 : Int)) (ltM (8 : Int) o.1)) (ltM (28 : Int) (lenM o.2)) = true := by
   show ((decide _ || decide _) || decide (28 < (o.2.length : Int))) = true
   simp only [Bool.or_eq_true, decide_eq_true_eq]
   omega
  rw [e, cond_true]
  unfold frm
  rw [decide_eq_false (by omega), Bool.false_and]
attribute [local irreducible] fl8 in
theorem m124_loop {n : Nat} (h8 : n ≤ 8) {l : List (Int × Int)} (hl : l.length ≤ 28) (hp : ∀ p ∈ l, pok n p = true) :
  loopM (fun (s : Int × List Bool) => bif ltM s.1 (lenM l) then Option.bind (idxM l s.1) fun (r : Int × Int)
 => Option.bind (idxM l s.1) fun (r_1 : Int × Int) => Option.bind (chkM r.1 ↑(nat_lit 8)) fun (r_2 : Unit) => Option.bind (chkM r_1.2 ↑(nat_lit 8)) fun (r_3
 : Unit) => Option.bind (setM s.2 (↑(nat_lit 0) + r.1 * ↑(nat_lit 8) + r_1.2 * ↑(nat_lit 1)) fun (x : Bool) => some true) fun (r : List Bool) => some (Sum.inl
 (IntKind.wrap IntKind.i64 (s.1 + (1 : Int)), r)) else some (Sum.inr s.2)) ((0 : Int), fl8 fun _ _ => false) = some (fl8 (rel0 l)) := by
 refine count_from (fun k => fl8 (rel0 (l.take k))) l.length rfl (fun k hk => ?_) ?_
 ·obtain ⟨p1, p2, p3, p4, p5⟩ := pok_of (hp _ (List.getElem_mem hk))
  obtain ⟨a, ha⟩ : ∃ a : Nat, l[k].1 = (a : Int) := ⟨l[k].1.toNat, by omega⟩
  obtain ⟨b, hb⟩ : ∃ b : Nat, l[k].2 = (b : Int) := ⟨l[k].2.toNat, by omega⟩
  have c1 := chk8 (b := a) (by omega)
  have c2 := chk8 (b := b) (by omega)
  rw [ltI (by show (k : Int) < (l.length : Int); omega), cond_true, idxM_lt hk, Option.bind_some, Option.bind_some, ha, hb, c1, Option.bind_some, c2, Option.bind_some, fl_set _ (by omega) (by omega), Option.bind_some, wrap_in (by dsimp only; omega) (by dsimp only; omega)]
  refine congrArg (fun z => some (Sum.inl ((k : Int) + 1, z))) (fl_congr fun a' b' _ _ => ?_)
  rw [rel0_take hk, ha, hb]
  by_cases h : a' = a ∧ b' = b
  ·obtain ⟨rfl, rfl⟩ := h
   rw [if_pos ⟨rfl, rfl⟩, decide_eq_true ⟨rfl, rfl⟩, Bool.or_true]
  ·rw [if_neg h, decide_eq_false (by omega), Bool.or_false]
 ·rw [List.take_length, geI (by show (l.length : Int) ≤ (l.length : Int); omega)]; rfl
theorem m124_eq {o : Int × List (Int × Int)} (h : frm o = true) : m124 o = some (tq64 (rel0 o.2)) := by
 obtain ⟨h0, h1, h2, h3⟩ := frm_of h
 unfold m124
 have on : o.1 = ((o.1.toNat : Nat) : Int) := by omega
 refine bind_of (x := fl8 (rel0 o.2)) ?_ ?_
 ·exact m124_loop (n := o.1.toNat) (by omega) h2 fun p hp => by rw [← on]; exact h3 p hp
 ·rfl
attribute [local irreducible] fl8 in
theorem inner64 {n k a : Nat} (h8 : n ≤ 8) (hk : k < n) (ha : a < n) (e : Rel) :
  loopM (fun (s_2 : Int × List Bool) => bif ltM s_2.1 (n : Int) then Option.bind (Option.bind
 (chkM (a : Int) ↑(nat_lit 8)) fun (r_1 : Unit) => Option.bind (chkM (k : Int) ↑(nat_lit 8)) fun (r_2 : Unit) => Option.bind (idxM s_2.2 (↑(nat_lit 0) + (a : Int) *
 ↑(nat_lit 8) + (k : Int) * ↑(nat_lit 1))) fun (r_3 : Bool) => Option.bind (bif r_3 then chkM (k : Int) ↑(nat_lit 8) else some ()) fun (r_4 : Unit) => Option.bind (bif r_3
 then chkM s_2.1 ↑(nat_lit 8) else some ()) fun (r_5 : Unit) => Option.bind (bif r_3 then idxM s_2.2 (↑(nat_lit 0) + (k : Int) * ↑(nat_lit 8) + s_2.1 * ↑(nat_lit 1))
 else some false) fun (r_6 : Bool) => bif PE.andM r_3 r_6 then Option.bind (chkM (a : Int) ↑(nat_lit 8)) fun (r_7 : Unit) => Option.bind (chkM s_2.1 ↑(nat_lit 8))
 fun (r_8 : Unit) => Option.bind (setM s_2.2 (↑(nat_lit 0) + (a : Int) * ↑(nat_lit 8) + s_2.1 * ↑(nat_lit 1)) fun (x : Bool) => some true) fun (r : List Bool) =>
 some r else some s_2.2) fun (o : List Bool) => some (Sum.inl (IntKind.wrap IntKind.i64 (s_2.1 + (1 : Int)), o)) else some (Sum.inr s_2.2)) ((0 : Int), fl8 e) = some (fl8 fun a' b' => if a' = a ∧ b' < n then (e a b' || (e a k && e k b')) else e a' b') := by
 refine count_from (fun j => fl8 fun a' b' => if a' = a ∧ b' < j then (e a b' || (e a k && e k b')) else e a' b') n (fl_congr fun a' b' _ _ => (if_neg (by omega)).symm) (fun j hj => ?_) ?_
 ·have c1 := chk8 (b := a) (by omega)
  have c2 := chk8 (b := k) (by omega)
  have c3 := chk8 (b := j) (by omega)
  have ak : (if a = a ∧ k < j then (e a k || (e a k && e k k)) else e a k) = e a k := by
   by_cases h : k < j
   ·rw [if_pos ⟨rfl, h⟩]; cases e a k <;> rfl
   ·rw [if_neg (by omega)]
  have kj : (if k = a ∧ j < j then (e a j || (e a k && e k j)) else e k j) = e k j := if_neg (by omega)
  have step : ∀ a' b' : Nat, (if a' = a ∧ b' < j + 1 then (e a b' || (e a k && e k b')) else e a' b') = if a' = a ∧ b' = j then (e a j || (e a k && e k j)) else (if a' = a ∧ b' < j then (e a b' || (e a k && e k b')) else e a' b') := by
   intro a' b'
   by_cases h1 : a' = a ∧ b' = j
   ·rw [if_pos h1, if_pos (by omega), h1.2]
   ·rw [if_neg h1]
    by_cases h2 : a' = a ∧ b' < j
    ·rw [if_pos h2, if_pos (by omega)]
    ·rw [if_neg h2, if_neg (by omega)]
  rw [ltI (by dsimp only; omega), cond_true]
  dsimp only
  rw [c1, Option.bind_some, c2, Option.bind_some, fl_idx _ (by omega) (by omega), Option.bind_some, ak]
  cases h1 : e a k
  ·rw [cond_false, Option.bind_some, cond_false, Option.bind_some, cond_false, Option.bind_some, andF, cond_false, Option.bind_some, wrap_in (by omega) (by omega)]
   refine congrArg (fun z => some (Sum.inl ((j : Int) + 1, z))) (fl_congr fun a' b' _ _ => ?_)
   have s1 := step a' b'
   rw [h1] at s1
   rw [s1]
   by_cases h2 : a' = a ∧ b' = j
   ·rw [if_pos h2, if_neg (by omega), h2.1, h2.2, Bool.false_and, Bool.or_false]
   ·rw [if_neg h2]
  ·rw [h1] at kj
   rw [cond_true, Option.bind_some, cond_true, c3, Option.bind_some, cond_true, fl_idx _ (by omega) (by omega), Option.bind_some, andT]
   have fin : ∀ c : Bool, c = e k j → (bif c then fl8 (fun a' b' => if a' = a ∧ b' = j then true else if a' = a ∧ b' < j then (e a b' || (true && e k b')) else e a' b') else fl8 fun a' b' => if a' = a ∧ b' < j then (e a b' || (true && e k b')) else e a' b') = fl8 fun a' b' => if a' = a ∧ b' < j + 1 then (e a b' || (true && e k b')) else e a' b' := by
    intro c hc
    cases c
    ·rw [cond_false]
     refine fl_congr fun a' b' _ _ => ?_
     have s1 := step a' b'
     rw [h1] at s1
     rw [s1]
     by_cases h2 : a' = a ∧ b' = j
     ·rw [if_pos h2, if_neg (by omega), h2.1, h2.2, ← hc, Bool.and_false, Bool.or_false]
     ·rw [if_neg h2]
    ·rw [cond_true]
     refine fl_congr fun a' b' _ _ => ?_
     have s1 := step a' b'
     rw [h1] at s1
     rw [s1]
     by_cases h2 : a' = a ∧ b' = j
     ·rw [if_pos h2, if_pos h2, ← hc, Bool.true_and, Bool.or_true]
     ·rw [if_neg h2, if_neg h2]
   rw [fl_set _ (by omega) (by omega), Option.bind_some, Option.bind_some, Option.bind_some, cond_some, wrap_in (by omega) (by omega)]
   exact congrArg (fun z => some (Sum.inl ((j : Int) + 1, z))) (fin _ kj)
 ·rw [geI (by dsimp only; omega), cond_false]
end Go.Proofs.YthfgccfaildmfaaGreatDoor
/-
 Dating: the reference's closure; what it calls valid, and before.
 No conditions.
-/
namespace Go.Proofs.YthfgccfaildmfaaGreatDoor
open Go Go.Abs Go.PE
open Ord (Rel clos)
set_option linter.unusedVariables false
set_option maxRecDepth 10000
attribute [local irreducible] fl8 in
theorem clos64 {n : Nat} (h8 : n ≤ 8) {d : Rel} (hd : ∀ k a b, clos d k a b = true → a < n ∧ b < n) :
  loopM (fun (s : Int × List Bool) => bif ltM s.1 (n : Int) then Option.bind (loopM
 (fun (s_1 : Int × List Bool) => bif ltM s_1.1 (n : Int) then Option.bind (loopM (fun (s_2 : Int × List Bool) => bif ltM s_2.1 (n : Int) then Option.bind (Option.bind
 (chkM s_1.1 ↑(nat_lit 8)) fun (r_1 : Unit) => Option.bind (chkM s.1 ↑(nat_lit 8)) fun (r_2 : Unit) => Option.bind (idxM s_2.2 (↑(nat_lit 0) + s_1.1 *
 ↑(nat_lit 8) + s.1 * ↑(nat_lit 1))) fun (r_3 : Bool) => Option.bind (bif r_3 then chkM s.1 ↑(nat_lit 8) else some ()) fun (r_4 : Unit) => Option.bind (bif r_3
 then chkM s_2.1 ↑(nat_lit 8) else some ()) fun (r_5 : Unit) => Option.bind (bif r_3 then idxM s_2.2 (↑(nat_lit 0) + s.1 * ↑(nat_lit 8) + s_2.1 * ↑(nat_lit 1))
 else some false) fun (r_6 : Bool) => bif PE.andM r_3 r_6 then Option.bind (chkM s_1.1 ↑(nat_lit 8)) fun (r_7 : Unit) => Option.bind (chkM s_2.1 ↑(nat_lit 8))
 fun (r_8 : Unit) => Option.bind (setM s_2.2 (↑(nat_lit 0) + s_1.1 * ↑(nat_lit 8) + s_2.1 * ↑(nat_lit 1)) fun (x : Bool) => some true) fun (r : List Bool) =>
 some r else some s_2.2) fun (o : List Bool) => some (Sum.inl (IntKind.wrap IntKind.i64 (s_2.1 + (1 : Int)), o)) else some (Sum.inr s_2.2)) ((0 : Int), s_1.2))
 fun (o : List Bool) => some (Sum.inl (IntKind.wrap IntKind.i64 (s_1.1 + (1 : Int)), o)) else some (Sum.inr s_1.2)) ((0 : Int), s.2)) fun (o : List Bool) =>
 some (Sum.inl (IntKind.wrap IntKind.i64 (s.1 + (1 : Int)), o)) else some (Sum.inr s.2)) ((0 : Int), fl8 d) = some (fl8 (clos d n)) := by
 refine count_from (fun k => fl8 (clos d k)) n rfl (fun k hk => ?_) ?_
 ·rw [ltI (by dsimp only; omega), cond_true]
  refine bind_of (x := fl8 (clos d (k + 1))) ?_ ?_
  ·refine count_from (fun a => fl8 fun a' b' => if a' < a ∧ b' < n then clos d (k + 1) a' b' else clos d k a' b') n (fl_congr fun a' b' _ _ => (if_neg (by omega)).symm) (fun a ha => ?_) ?_
   ·rw [ltI (by dsimp only; omega), cond_true]
    refine bind_of (inner64 h8 hk ha (fun a' b' => if a' < a ∧ b' < n then clos d (k + 1) a' b' else clos d k a' b')) ?_
    dsimp only
    rw [wrap_in (by omega) (by omega)]
    refine congrArg (fun z => some (Sum.inl ((a : Int) + 1, z))) (fl_congr fun a' b' _ _ => ?_)
    by_cases h1 : a' = a ∧ b' < n
    ·obtain ⟨rfl, h1⟩ := h1
     rw [if_pos ⟨rfl, h1⟩, if_neg (show ¬ (a' < a' ∧ b' < n) by omega), if_neg (show ¬ (a' < a' ∧ k < n) by omega), if_pos (show a' < a' + 1 ∧ b' < n by omega)]
     have hk2 : (if k < a' ∧ b' < n then clos d (k + 1) k b' else clos d k k b') = clos d k k b' := by
      by_cases h2 : k < a' ∧ b' < n
      ·rw [if_pos h2]
       show (clos d k k b' || (clos d k k k && clos d k k b')) = _
       cases clos d k k b' <;> simp
      ·rw [if_neg h2]
     rw [hk2]
     rfl
    ·rw [if_neg h1]
     by_cases h2 : a' < a ∧ b' < n
     ·rw [if_pos h2, if_pos (by omega)]
     ·rw [if_neg h2, if_neg (by omega)]
   ·rw [geI (by dsimp only; omega), cond_false]
    refine congrArg (fun z => some (Sum.inr z)) (fl_congr fun a' b' _ _ => ?_)
    by_cases h1 : a' < n ∧ b' < n
    ·rw [if_pos h1]
    ·rw [if_neg h1]
     have e : ∀ j, clos d j a' b' = false := fun j => by
      cases hc : clos d j a' b'
      ·rfl
      ·exact absurd (hd j a' b' hc) h1
     rw [e, e]
  ·dsimp only
   rw [wrap_in (by omega) (by omega)]
 ·rw [geI (by dsimp only; omega), cond_false]
theorem m77_eq {o : Int × List (Int × Int)} (h : frm o = true) : m77 o = some (tq64 (rl o)) := by
 obtain ⟨h0, h1, h2, h3⟩ := frm_of h
 unfold m77
 rw [show ((o.1, o.2) : Int × List (Int × Int)) = o from rfl, m124_eq h, Option.bind_some]
 have on : o.1 = ((o.1.toNat : Nat) : Int) := by omega
 refine bind_of (x := fl8 (rl o)) ?_ rfl
 have hl := l64_is (rel0 o.2)
 unfold l64 at hl
 rw [hl, on]
 exact clos64 (n := o.1.toNat) (by omega) fun k a b hc => clos_in h hc
attribute [local irreducible] fl8 in
theorem m76_eq (o : Int × List (Int × Int)) : m76 o = some (okO o) := by
 unfold m76
 rw [show ((o.1, o.2) : Int × List (Int × Int)) = o from rfl, m123_eq, Option.bind_some]
 unfold okO
 by_cases h : frm o = true
 ·obtain ⟨h0, h1, h2, h3⟩ := frm_of h
  rw [h, notT, cond_false, Bool.true_and, m77_eq h, Option.bind_some]
  have hl := l64_is (rl o)
  unfold l64 at hl
  rw [hl]
  unfold acy
  generalize hn : o.1.toNat = n
  have on : o.1 = (n : Int) := by omega
  rw [on]
  obtain ⟨r, hr, hq⟩ := loopM_from (body := fun (s : Int) => bif ltM s (n : Int) then Option.bind (chkM s ↑(nat_lit 8)) fun (r_2 : Unit) => Option.bind (chkM s ↑(nat_lit 8)) fun (r_3 : Unit) =>
 Option.bind (idxM (fl8 (rl o)) (↑(nat_lit 0) + s * ↑(nat_lit 8) + s * ↑(nat_lit 1))) fun (r : Bool) => bif r then some (Sum.inr (Sum.inr false)) else some (Sum.inl (IntKind.wrap IntKind.i64
 (s + (1 : Int)))) else some (Sum.inr (Sum.inl ()))) (fun k s => s = (k : Int) ∧ ∀ a, a < k → rl o a a = false) (fun (r : Unit ⊕ Bool) => (r = .inl () ∧ ((List.range n).all fun a => !rl o a a) = true) ∨ (r = .inr false ∧ ((List.range n).all fun a => !rl o a a) = false)) n (s := 0) ⟨rfl, fun a ha => by omega⟩ (fun k s hk hP => by
   obtain ⟨rfl, hP⟩ := hP
   by_cases hlt : k < n
   ·have c1 := chk8 (b := k) (by omega)
    rw [ltI (by omega), cond_true, c1, Option.bind_some, Option.bind_some, fl_idx _ (by omega) (by omega), Option.bind_some, wrap_in (by omega) (by omega)]
    cases hc : rl o k k
    ·exact .inl ⟨_, hlt, rfl, rfl, fun a ha => by
      by_cases ha2 : a = k
      ·rw [ha2]; exact hc
      ·exact hP a (by omega)⟩
    ·refine .inr ⟨_, rfl, .inr ⟨rfl, ?_⟩⟩
     rw [List.all_eq_false]
     exact ⟨k, List.mem_range.2 (by omega), by rw [hc]; decide⟩
   ·refine .inr ⟨.inl (), by rw [geI (by omega)]; rfl, .inl ⟨rfl, ?_⟩⟩
    rw [List.all_eq_true]
    intro a ha
    rw [List.mem_range] at ha
    rw [hP a (by omega)]; rfl)
  refine bind_of hr ?_
  rcases hq with ⟨rfl, hq⟩ | ⟨rfl, hq⟩ <;> rw [hq] <;> rfl
 ·have h : frm o = false := by simpa using h
  rw [h]; rfl
end Go.Proofs.YthfgccfaildmfaaGreatDoor
/-
 Dating: what the reference calls before; ranks.
 No conditions.
-/
namespace Go.Proofs.YthfgccfaildmfaaGreatDoor
open Go Go.Abs Go.PE
open Ord (Rel clos)
set_option linter.unusedVariables false
set_option maxRecDepth 10000
theorem fl_slice (d : Rel) {a : Nat} (ha : a < 8) : sliceM (fl8 d) ((a : Int) * ((nat_lit 8 : Nat) : Int)) ((a : Int) * ((nat_lit 8 : Nat) : Int) + ((nat_lit 8 : Nat) : Int)) = some (row 8 fun b => d a b) := by
 have e1 : (a : Int) * ((nat_lit 8 : Nat) : Int) = ((a * 8 : Nat) : Int) := by
  show (a : Int) * 8 = _; omega
 have e2 : ((a * 8 : Nat) : Int) + ((nat_lit 8 : Nat) : Int) = ((a * 8 + 8 : Nat) : Int) := by
  show ((a * 8 : Nat) : Int) + 8 = _; omega
 rw [e1, e2, sliceM_of (by omega) (by omega) (by rw [fl_len]; omega), Int.toNat_natCast, Int.toNat_natCast]
 congr 1
 refine List.ext_getElem? fun i => ?_
 rw [List.getElem?_drop, List.getElem?_take]
 by_cases hi : i < 8
 ·rw [if_pos (by omega), row_get hi]
  unfold fl8
  rw [row_get (by omega), show (a * 8 + i) / 8 = a by omega, show (a * 8 + i) % 8 = i by omega]
 ·rw [if_neg (by omega), List.getElem?_eq_none (by rw [row_length]; omega)]
attribute [local irreducible] fl8 in
theorem m40_eq {o : Int × List (Int × Int)} (h : okO o = true) {a b : Nat} (ha : a < o.1.toNat) (hb : b < o.1.toNat) : m40 (o, (a : Int), (b : Int)) = some (rl o a b) := by
 have hf : frm o = true := by unfold okO at h; rw [Bool.and_eq_true] at h; exact h.1
 obtain ⟨h0, h1, h2, h3⟩ := frm_of hf
 unfold m40
 dsimp only
 rw [show ((o.1, o.2) : Int × List (Int × Int)) = o from rfl, m76_eq, Option.bind_some, h, notT, orF, geI (show (0 : Int) ≤ (a : Int) by omega), orF, gtI (show (a : Int) < o.1 by omega), orF, geI (show (0 : Int) ≤ (b : Int) by omega), orF, gtI (show (b : Int) < o.1 by omega), cond_false, m77_eq hf, Option.bind_some]
 have hl := l64_is (rl o)
 unfold l64 at hl
 rw [hl, fl_slice _ (by omega), Option.bind_some]
 have e : [nthD (row 8 fun b => rl o a b) (nat_lit 0) false, nthD (row 8 fun b => rl o a b) (nat_lit 1) false, nthD (row 8 fun b => rl o a b) (nat_lit 2) false, nthD (row 8 fun b => rl o a b) (nat_lit 3) false, nthD (row 8 fun b => rl o a b) (nat_lit 4) false, nthD (row 8 fun b => rl o a b) (nat_lit 5) false, nthD (row 8 fun b => rl o a b) (nat_lit 6) false, nthD (row 8 fun b => rl o a b) (nat_lit 7) false] = row 8 fun b => rl o a b := rfl
 rw [e, row_idx (by omega), Option.bind_some]
def rk (o : Int × List (Int × Int)) (x : Nat) : Nat := ((List.range o.1.toNat).filter fun a => rl o a x).length
theorem okO_f {o : Int × List (Int × Int)} (h : okO o = true) : frm o = true := by unfold okO at h; rw [Bool.and_eq_true] at h; exact h.1
theorem no_self {o : Int × List (Int × Int)} (h : okO o = true) (a : Nat) : rl o a a = false := by
 cases hc : rl o a a
 ·rfl
 ·have hi := (clos_in (okO_f h) hc).1
  unfold okO at h
  rw [Bool.and_eq_true] at h
  have := List.all_eq_true.1 h.2 a (List.mem_range.2 hi)
  rw [hc] at this
  cases this
theorem rk_lt {o : Int × List (Int × Int)} (h : okO o = true) {a b : Nat} (hr : rl o a b = true) : rk o a < rk o b := by
 have hf := okO_f h
 have hi := clos_in hf hr
 have hn : ∀ x, ((List.range o.1.toNat).filter fun a => rl o a x).Nodup := fun x => (List.nodup_range).filter _
 have hsub : (a :: (List.range o.1.toNat).filter fun c => rl o c a).length ≤ ((List.range o.1.toNat).filter fun c => rl o c b).length := by
  refine nodup_sub _ _ ?_ fun x hx => ?_
  ·rw [List.nodup_cons]
   refine ⟨fun hm => ?_, hn a⟩
   rw [List.mem_filter] at hm
   have := no_self h a
   rw [hm.2] at this
   cases this
  ·rw [List.mem_cons] at hx
   rw [List.mem_filter, List.mem_range]
   rcases hx with rfl | hx
   ·exact ⟨hi.1, hr⟩
   ·rw [List.mem_filter, List.mem_range] at hx
    exact ⟨hx.1, rl_tri hf hx.2 hr⟩
 rw [List.length_cons] at hsub
 unfold rk
 omega
end Go.Proofs.YthfgccfaildmfaaGreatDoor
/-
 Dating: the reference's first line of a valid order.
 No conditions.
-/
namespace Go.Proofs.YthfgccfaildmfaaGreatDoor
open Go Go.Abs Go.PE
open Ord (Rel clos)
set_option linter.unusedVariables false
set_option maxRecDepth 10000
theorem m78_eq {l : List Int} (hl : l.length ≤ 1000000) (v : Int) : m78 (l, v) = some (decide (v ∈ l)) := by
 unfold m78
 dsimp only
 obtain ⟨r, hr, hq⟩ := loopM_from (body := fun (s : Int) => bif ltM s (lenM l) then Option.bind (idxM l s) fun (r : Int) => bif eqM r v then some
 (Sum.inr (Sum.inr true)) else some (Sum.inl (IntKind.wrap IntKind.i64 (s + (1 : Int)))) else some (Sum.inr (Sum.inl ()))) (fun k s => s = (k : Int) ∧ ∀ j (hj : j < l.length), j < k → l[j] ≠ v)
  (fun (r : Unit ⊕ Bool) => (r = .inl () ∧ v ∉ l) ∨ (r = .inr true ∧ v ∈ l)) l.length (s := 0) ⟨rfl, fun j _ h => by omega⟩ (fun k s hk hP => by
  obtain ⟨rfl, hP⟩ := hP
  by_cases hlt : k < l.length
  ·rw [ltI (show (k : Int) < lenM l by show (k : Int) < (l.length : Int); omega), cond_true, idxM_lt hlt, Option.bind_some, wrap_in (by omega) (by omega)]
   by_cases hv : l[k] = v
   ·rw [eqI hv, cond_true]
    exact .inr ⟨_, rfl, .inr ⟨rfl, hv ▸ List.getElem_mem hlt⟩⟩
   ·rw [neI hv, cond_false]
    exact .inl ⟨_, hlt, rfl, rfl, fun j hj hjk => by
     by_cases hj2 : j = k
     ·subst hj2; exact hv
     ·exact hP j hj (by omega)⟩
  ·refine .inr ⟨.inl (), by rw [geI (by show (l.length : Int) ≤ (k : Int); omega)]; rfl, .inl ⟨rfl, fun hm => ?_⟩⟩
   obtain ⟨j, hj, e⟩ := List.mem_iff_getElem.1 hm
   exact hP j hj (by omega) e)
 refine bind_of hr ?_
 rcases hq with ⟨rfl, hq⟩ | ⟨rfl, hq⟩
 ·rw [decide_eq_false hq]; rfl
 ·rw [decide_eq_true hq]; rfl
structure TL (o : Int × List (Int × Int)) (l : List Int) : Prop where
 nd : l.Nodup
 rg : ∀ v ∈ l, 0 ≤ v ∧ v < o.1
 tp : ∀ i (hi : i < l.length) (a : Nat), rl o a l[i].toNat = true → (a : Int) ∈ l.take i
def fr1 (o : Int × List (Int × Int)) (s : List Int) (x j : Nat) : Bool := !decide ((x : Int) ∈ s) && (List.range j).all fun a => !(rl o a x && !decide ((a : Int) ∈ s))
theorem fr1_succ (o : Int × List (Int × Int)) (s : List Int) (x j : Nat) : fr1 o s x (j + 1) = (fr1 o s x j && !(rl o j x && !decide ((j : Int) ∈ s))) := by
 unfold fr1
 rw [List.range_succ, List.all_append, Bool.and_assoc]
 simp
theorem fr1_iff {o : Int × List (Int × Int)} {s : List Int} {x n : Nat} : fr1 o s x n = true ↔ (x : Int) ∉ s ∧ ∀ a, a < n → rl o a x = true → (a : Int) ∈ s := by
 unfold fr1
 simp only [Bool.and_eq_true, Bool.not_eq_true', decide_eq_false_iff_not, List.all_eq_true, List.mem_range, Bool.and_eq_false_iff, Bool.not_eq_false', decide_eq_true_eq]
 constructor
 ·rintro ⟨h1, h2⟩
  refine ⟨h1, fun a ha hr => ?_⟩
  rcases h2 a ha with h | h
  ·rw [hr] at h; cases h
  ·exact h
 ·rintro ⟨h1, h2⟩
  refine ⟨h1, fun a ha => ?_⟩
  cases hr : rl o a x
  ·exact .inl rfl
  ·exact .inr (h2 a ha hr)
theorem free_ex {o : Int × List (Int × Int)} (h : okO o = true) {s : List Int} (hl : s.length < o.1.toNat) : ∃ x, x < o.1.toNat ∧ fr1 o s x o.1.toNat = true := by
 have h0 : ∃ x : Nat, x < o.1.toNat ∧ (x : Int) ∉ s := by
  rcases Classical.em (∃ x : Nat, x < o.1.toNat ∧ (x : Int) ∉ s) with hx | hx
  ·exact hx
  ·exfalso
   have hnd : ((List.range o.1.toNat).map fun (x : Nat) => (x : Int)).Nodup := List.pairwise_map.2 ((List.pairwise_lt_range).imp fun {a b} h => by show ((a : Int)) ≠ (b : Int); omega)
   have := nodup_sub _ s hnd fun v hv => by
    rw [List.mem_map] at hv
    obtain ⟨x, hx1, rfl⟩ := hv
    rw [List.mem_range] at hx1
    rcases Classical.em ((x : Int) ∈ s) with hm | hm
    ·exact hm
    ·exact absurd ⟨x, hx1, hm⟩ hx
   rw [List.length_map, List.length_range] at this
   omega
 have key : ∀ (m x : Nat), rk o x ≤ m → x < o.1.toNat → (x : Int) ∉ s → ∃ y, y < o.1.toNat ∧ fr1 o s y o.1.toNat = true := by
  intro m
  induction m with
  | zero =>
   intro x hm hx hs
   refine ⟨x, hx, fr1_iff.2 ⟨hs, fun a ha hr => ?_⟩⟩
   have := rk_lt h hr
   omega
  | succ m ih =>
   intro x hm hx hs
   rcases Classical.em (∃ a, a < o.1.toNat ∧ rl o a x = true ∧ (a : Int) ∉ s) with ⟨a, ha, hr, hns⟩ | hx2
   ·have := rk_lt h hr
    exact ih a (by omega) ha hns
   ·refine ⟨x, hx, fr1_iff.2 ⟨hs, fun a ha hr => ?_⟩⟩
    rcases Classical.em ((a : Int) ∈ s) with hm | hm
    ·exact hm
    ·exact absurd ⟨a, ha, hr, hm⟩ hx2
 obtain ⟨x, hx, hs⟩ := h0
 exact key _ x (Nat.le_refl _) hx hs
theorem TL.app {o : Int × List (Int × Int)} (h : okO o = true) {s : List Int} (ht : TL o s) {x : Nat} (hx : x < o.1.toNat) (hf : fr1 o s x o.1.toNat = true) : TL o (s ++ [(x : Int)]) := by
 have h0 := okO_of h
 obtain ⟨f1, f2⟩ := fr1_iff.1 hf
 refine ⟨?_, fun v hv => ?_, fun i hi a hr => ?_⟩
 ·rw [List.nodup_append]
  exact ⟨ht.nd, by simp, fun u hu v hv e => by
   rw [List.mem_singleton] at hv
   subst hv; subst e
   exact f1 hu⟩
 ·rw [List.mem_append, List.mem_singleton] at hv
  rcases hv with hv | rfl
  ·exact ht.rg v hv
  ·omega
 ·rw [List.length_append] at hi
  have hi : i < s.length + 1 := hi
  by_cases hlt : i < s.length
  ·rw [List.getElem_append_left hlt] at hr
   rw [List.take_append_of_le_length (by omega)]
   exact ht.tp i hlt a hr
  ·have : i = s.length := by omega
   subst this
   rw [List.getElem_append_right (Nat.le_refl _)] at hr
   simp only [Nat.sub_self, List.getElem_cons_zero, Int.toNat_natCast] at hr
   rw [List.take_left]
   exact f2 a (clos_in (okO_f h) hr).1 hr
attribute [local irreducible] fl8 in
theorem free_loop {o : Int × List (Int × Int)} {n : Nat} (h8 : n ≤ 8) {s : List Int} (hs : s.length ≤ 8) {x : Nat} (hx : x < n) :
  loopM (fun (s_2 : Bool × Int) => bif ltM s_2.2 (n : Int) then Option.bind (Option.bind (chkM s_2.2 ↑(nat_lit 8)) fun (r_3 : Unit)
 => Option.bind (chkM (x : Int) ↑(nat_lit 8)) fun (r_4 : Unit) => Option.bind (idxM (fl8 (rl o)) (↑(nat_lit 0) + s_2.2 * ↑(nat_lit 8) + (x : Int) * ↑(nat_lit 1))) fun (r_5 : Bool) => Option.bind (bif r_5 then m78 (s, s_2.2) else
 some false) fun (r : Bool) => bif PE.andM r_5 (PE.notM r) then some false else some s_2.1) fun (o : Bool) => some (Sum.inl (o, IntKind.wrap IntKind.i64 (s_2.2
 + (1 : Int)))) else some (Sum.inr s_2.1)) (PE.notM (decide ((x : Int) ∈ s)), (0 : Int)) = some (fr1 o s x n) := by
 have e0 : (PE.notM (decide ((x : Int) ∈ s)), (0 : Int)) = (fun k : Nat => (fr1 o s x k, (k : Int))) 0 := by
  dsimp only
  unfold fr1
  rw [List.range_zero, List.all_nil, Bool.and_true]
  rfl
 rw [e0]
 refine loopM_fn (fun k : Nat => (fr1 o s x k, (k : Int))) n (fun k hk => ?_) ?_
 ·have c1 := chk8 (b := k) (by omega)
  have c2 := chk8 (b := x) (by omega)
  dsimp only
  rw [ltI (by omega), cond_true, c1, Option.bind_some, c2, Option.bind_some, fl_idx _ (by omega) (by omega), Option.bind_some, m78_eq (by omega), wrap_in (by omega) (by omega), fr1_succ]
  cases rl o k x
  ·rw [cond_false, Option.bind_some, andF, cond_false, Option.bind_some, Bool.false_and, Bool.not_false, Bool.and_true]
   rfl
  ·rw [cond_true, Option.bind_some, andT]
   cases decide ((k : Int) ∈ s)
   ·rw [notF, cond_true, Option.bind_some]; simp
   ·rw [notT, cond_false, Option.bind_some]; simp
 ·dsimp only
  rw [geI (by omega), cond_false]
end Go.Proofs.YthfgccfaildmfaaGreatDoor
/-
 Dating: the reference's first line; the hidden years.
 No conditions.
-/
namespace Go.Proofs.YthfgccfaildmfaaGreatDoor
open Go Go.Abs Go.PE
open Ord (Rel clos)
set_option linter.unusedVariables false
set_option maxRecDepth 10000
attribute [local irreducible] fl8 in
theorem m39_ok {o : Int × List (Int × Int)} (h : okO o = true) : ∃ l, m39 o = some (l, 0) ∧ TL o l ∧ l.length = o.1.toNat := by
 have hf := okO_f h
 obtain ⟨h0, h1, h2, h3⟩ := frm_of hf
 have key : Ans (m39 o) fun z => ∃ l, z = (l, 0) ∧ TL o l ∧ l.length = o.1.toNat := by
  unfold m39
  rw [show ((o.1, o.2) : Int × List (Int × Int)) = o from rfl, m76_eq, Option.bind_some, h, notT, cond_false, m77_eq hf, Option.bind_some]
  have hl := l64_is (rl o)
  unfold l64 at hl
  rw [hl]
  generalize hn : o.1.toNat = n
  have on : o.1 = (n : Int) := by omega
  rw [on]
  refine Ans.bind (P := fun l => TL o l ∧ l.length = n) (Ans.loop (fun k s => TL o s ∧ s.length = k) n ⟨⟨List.nodup_nil, (fun v hv => by cases hv), (fun i hi => by cases hi)⟩, rfl⟩ fun k s hk hP => ?_) fun l hl => Ans.some ⟨l, rfl, hl.1, hl.2⟩
  obtain ⟨ht, hsl⟩ := hP
  by_cases hlt : k < n
  ·rw [ltI (show lenM s < (n : Int) by show (s.length : Int) < _; omega), cond_true]
   refine Ans.bind (P := fun s' => TL o s' ∧ s'.length = k + 1) ?_ fun s' hs' => Ans.some ⟨hlt, hs'⟩
   refine Ans.loop (fun j x => x = (j : Int) ∧ ∀ y, y < j → fr1 o s y n = false) n ⟨rfl, fun y hy => by omega⟩ fun j x hj hP => ?_
   obtain ⟨rfl, hP⟩ := hP
   by_cases hjn : j < n
   ·rw [ltI (by omega), cond_true, m78_eq (by omega), Option.bind_some]
    refine Ans.seq (free_loop (o := o) (by omega) (by omega) hjn) ?_
    cases hfr : fr1 o s j n
    ·rw [cond_false, wrap_in (by omega) (by omega)]
     exact Ans.some ⟨hjn, rfl, fun y hy => by
      by_cases hyj : y = j
      ·rw [hyj]; exact hfr
      ·exact hP y (by omega)⟩
    ·rw [cond_true, appM_of (by show (s.length + 1) * 8 ≤ _; omega), Option.bind_some]
     refine Ans.some ⟨ht.app h (by omega) (by rw [hn]; exact hfr), ?_⟩
     rw [List.length_append, hsl]; rfl
   ·exfalso
    obtain ⟨y, hy, hfy⟩ := free_ex h (s := s) (by omega)
    rw [hn] at hy hfy
    rw [hP y (by omega)] at hfy
    cases hfy
  ·rw [geI (show (n : Int) ≤ lenM s by show _ ≤ (s.length : Int); omega), cond_false]
   exact Ans.some ⟨ht, by omega⟩
 obtain ⟨z, hz, l, rfl, h4, h5⟩ := key
 exact ⟨l, hz, h4, h5⟩
abbrev Nums := Int × List (Int × Int) × Int × Int × List Int × List Clu × Int × Int × Int
def has5 (c : Clu) : Prop := IntKind.i64.has c.1 ∧ IntKind.i64.has c.2.1 ∧ IntKind.i64.has c.2.2.1 ∧ IntKind.i64.has c.2.2.2.1 ∧ IntKind.i64.has c.2.2.2.2
structure DNum (x : Nums) : Prop where
 n : IntKind.i64.has x.1
 ps : ∀ p ∈ x.2.1, has2 p
 ln : IntKind.i64.has x.2.2.1
 bs : IntKind.i64.has x.2.2.2.1
 gs : ∀ g ∈ x.2.2.2.2.1, IntKind.i64.has g
 cs : ∀ c ∈ x.2.2.2.2.2.1, has5 c
 m0 : IntKind.i64.has x.2.2.2.2.2.2.1
 m1 : IntKind.i64.has x.2.2.2.2.2.2.2.1
 m2 : IntKind.i64.has x.2.2.2.2.2.2.2.2
theorem m35_ok {x : Nums} (h : DNum x) : ∃ o, m35 x = some o ∧ okO o = true ∧ o.2.length ≤ 20 := by
 obtain ⟨o, h1, h2, h3⟩ := m75_ok h.n h.ps h.ln
 refine ⟨o, ?_, h2, h3⟩
 unfold m35
 rw [h1]; rfl
structure Hid (o : Int × List (Int × Int)) (y : List Int) : Prop where
 len : y.length = o.1.toNat
 rg : ∀ a, a < o.1.toNat → 1000 ≤ y.getD a 0 ∧ y.getD a 0 ≤ 1711
 up : ∀ a b, rl o a b = true → y.getD a 0 ≤ y.getD b 0
theorem getD_set {l : List Int} {i j : Nat} (hi : i < l.length) (v : Int) : (l.set i v).getD j 0 = if j = i then v else l.getD j 0 := by
 rw [List.getD_eq_getElem?_getD, List.getElem?_set, List.getD_eq_getElem?_getD]
 by_cases h : i = j
 ·subst h; rw [if_pos rfl, if_pos hi, if_pos rfl]; rfl
 ·rw [if_neg h, if_neg (fun e => h e.symm)]
theorem m12_ok {x : Nums} (h : DNum x) {o : Int × List (Int × Int)} (ho : m35 x = some o) (hO : okO o = true) : ∃ y, m12 x = some y ∧ Hid o y := by
 obtain ⟨l, hl1, hl2, hl3⟩ := m39_ok hO
 have hf := okO_f hO
 obtain ⟨h0, h1, h2, h3⟩ := frm_of hf
 have key : Ans (m12 x) fun y => Hid o y := by
  unfold m12
  refine Ans.seq (x := o) ho ?_
  rw [show ((o.1, o.2) : Int × List (Int × Int)) = o from rfl]
  refine Ans.seq hl1 ?_
  generalize hn : o.1.toNat = n at hl3
  have on : o.1 = (n : Int) := by omega
  refine Ans.seq (x := List.replicate n 0) (by rw [mkM_of h0 (Int.le_refl _) (by show o.1 * 8 ≤ _; omega), hn]) ?_
  dsimp only
  have b0 := pk_lo (c := x.2.2.2.1) (n := 400) (by omega)
  have b1 := pk_hi (c := x.2.2.2.1) (n := 400) (by omega)
  have li : ∀ i (hi : i < l.length), ∃ v : Nat, l[i] = (v : Int) ∧ v < n := fun i hi => by
   have := hl2.rg _ (List.getElem_mem hi)
   exact ⟨l[i].toNat, by omega, by omega⟩
  refine Ans.bind (P := fun y => Hid o y) ?_ fun y hy => Ans.some hy
  refine Ans.loop (fun i s => s.1 = (i : Int) ∧ s.2.length = n ∧ (∀ k (hk : k < l.length), k < i → 1000 ≤ s.2.getD l[k].toNat 0 ∧ s.2.getD l[k].toNat 0 ≤ 1399 + (k + 1) * 39) ∧
   ∀ k (hk : k < l.length), k < i → ∀ a, rl o a l[k].toNat = true → s.2.getD a 0 ≤ s.2.getD l[k].toNat 0) n ⟨rfl, List.length_replicate, fun k hk hk2 => by omega, fun k hk hk2 => by omega⟩ fun i s hi hP => ?_
  obtain ⟨s1, out⟩ := s
  obtain ⟨q0, q1, q2, q3⟩ := hP
  dsimp only at q0 q1 q2 q3 ⊢
  subst q0
  by_cases hlt : i < n
  ·have hil : i < l.length := by omega
   obtain ⟨v, hv, hvn⟩ := li i hil
   rw [ltI (show (i : Int) < lenM l by show (i : Int) < (l.length : Int); omega), cond_true, m37_eq h.bs (by omega), Option.bind_some, wrap_in (n := 1000 + pk x.2.2.2.1 400) (by omega) (by omega)]
   refine Ans.bind (P := fun (y : Int) => 1000 ≤ y ∧ y ≤ 1399 + (i : Int) * 39 ∧ ∀ k (hk : k < l.length), k < i → rl o l[k].toNat v = true → out.getD l[k].toNat 0 ≤ y) ?_ fun y hy => ?_
   ·refine Ans.loop (fun k s => s.2 = (k : Int) ∧ 1000 ≤ s.1 ∧ s.1 ≤ 1399 + (i : Int) * 39 ∧ ∀ k' (hk : k' < l.length), k' < k → rl o l[k'].toNat v = true → out.getD l[k'].toNat 0 ≤ s.1) i ⟨rfl, by dsimp only; omega, by dsimp only; omega, fun k' _ hk => by omega⟩ fun k s hk hP => ?_
    obtain ⟨y, s2⟩ := s
    obtain ⟨g0, g1, g2, g3⟩ := hP
    dsimp only at g0 g1 g2 g3 ⊢
    subst g0
    by_cases hki : k < i
    ·have hkl : k < l.length := by omega
     obtain ⟨u, hu, hun⟩ := li k hkl
     rw [ltI (by omega), cond_true, idxM_lt hkl, Option.bind_some, idxM_lt hil, Option.bind_some, hu, hv, m40_eq hO (by omega) (by omega), Option.bind_some, wrap_in (by omega) (by omega)]
     have g4 := q2 k hkl hki
     rw [hu, Int.toNat_natCast] at g4
     cases hr : rl o u v
     ·rw [cond_false, Option.bind_some]
      refine Ans.some ⟨hki, rfl, g1, g2, fun k' hk' hkk => ?_⟩
      by_cases e : k' = k
      ·subst e; intro hr'; rw [hu, Int.toNat_natCast, hr] at hr'; cases hr'
      ·exact g3 k' hk' (by omega)
     ·rw [cond_true, Option.bind_some, chkM_of (n := lenM out) (by omega) (by show (u : Int) < (out.length : Int); omega), Option.bind_some, idx_getD (by omega) (by omega), Option.bind_some, Option.bind_some, Int.toNat_natCast]
      refine Ans.some ⟨hki, rfl, by dsimp only; omega, by dsimp only; omega, fun k' hk' hkk hr' => ?_⟩
      dsimp only
      by_cases e : k' = k
      ·subst e; rw [hu, Int.toNat_natCast]; omega
      ·have := g3 k' hk' (by omega) hr'
       omega
    ·rw [geI (by omega), cond_false]
     exact Ans.some ⟨g1, g2, fun k' hk' hkk => g3 k' hk' (by omega)⟩
   ·obtain ⟨y0, y1, y2⟩ := hy
    refine Ans.bind (P := fun (z : Int) => y ≤ z ∧ z ≤ y + 39) ?_ fun z hz => ?_
    ·by_cases hg : i < x.2.2.2.2.1.length
     ·have hgm := h.gs _ (List.getElem_mem hg)
      have c0 := pk_lo (c := x.2.2.2.2.1[i]) (n := 40) (by omega)
      have c1 := pk_hi (c := x.2.2.2.2.1[i]) (n := 40) (by omega)
      rw [ltI (show (i : Int) < lenM x.2.2.2.2.1 by show (i : Int) < (x.2.2.2.2.1.length : Int); omega), cond_true, idxM_lt hg, Option.bind_some, m37_eq hgm (by omega), Option.bind_some, wrap_in (by omega) (by omega)]
      exact Ans.some ⟨by omega, by omega⟩
     ·rw [geI (show lenM x.2.2.2.2.1 ≤ (i : Int) by show (x.2.2.2.2.1.length : Int) ≤ _; omega), cond_false]
      exact Ans.some ⟨by omega, by omega⟩
    ·rw [idxM_lt hil, Option.bind_some, hv, chkM_of (n := lenM out) (by omega) (by show (v : Int) < (out.length : Int); omega), Option.bind_some, setM_of (y := z) (by omega) (by omega) rfl, Option.bind_some, wrap_in (by omega) (by omega), Int.toNat_natCast]
     have hne : ∀ k (hk : k < l.length), k < i → l[k].toNat ≠ v := fun k hk hki e => by
      have hp := List.pairwise_iff_getElem.1 hl2.nd k i hk hil hki
      obtain ⟨u, hu, _⟩ := li k hk
      apply hp
      rw [hu, hv]
      rw [hu, Int.toNat_natCast] at e
      rw [e]
     have hgs : ∀ j, (out.set v z).getD j 0 = if j = v then z else out.getD j 0 := fun j => getD_set (by omega) z
     have mem : ∀ k (hk : k < l.length) (a : Nat), rl o a l[k].toNat = true → ∃ k', ∃ hk' : k' < l.length, k' < k ∧ l[k'].toNat = a := fun k hk a hr => by
      have hm := hl2.tp k hk a hr
      obtain ⟨k', hk', e⟩ := List.mem_iff_getElem.1 hm
      rw [List.length_take] at hk'
      rw [List.getElem_take] at e
      exact ⟨k', by omega, by omega, by rw [e]; rfl⟩
     refine Ans.some ⟨hlt, rfl, by rw [List.length_set]; exact q1, fun k hk hki => ?_, fun k hk hki a hr => ?_⟩
     ·rw [hgs]
      by_cases e : k = i
      ·subst e
       rw [hv, Int.toNat_natCast, if_pos rfl]
       omega
      ·rw [if_neg (hne k hk (by omega))]
       exact q2 k hk (by omega)
     ·obtain ⟨k', hk', hkk, e'⟩ := mem k hk a hr
      have ha : a ≠ v := e' ▸ hne k' hk' (by omega)
      rw [hgs, hgs, if_neg ha]
      by_cases e : k = i
      ·subst e
       rw [hv, Int.toNat_natCast] at hr ⊢
       rw [if_pos rfl]
       have := y2 k' hk' hkk (by rw [e']; exact hr)
       rw [e'] at this
       omega
      ·rw [if_neg (hne k hk (by omega))]
       exact q3 k hk (by omega) a hr
  ·rw [geI (show lenM l ≤ (i : Int) by show (l.length : Int) ≤ _; omega), cond_false]
   have hin : ∀ a, a < n → ∃ k, ∃ hk : k < l.length, l[k].toNat = a := fun a ha => by
    have hnd : (l.map Int.toNat).Nodup := by
     refine List.pairwise_map.2 ?_
     refine List.pairwise_iff_getElem.2 fun i j hi hj hij => ?_
     have hp := List.pairwise_iff_getElem.1 hl2.nd i j hi hj hij
     obtain ⟨u, hu, _⟩ := li i hi
     obtain ⟨w, hw, _⟩ := li j hj
     intro e
     apply hp
     rw [hu, hw] at e ⊢
     rw [Int.toNat_natCast, Int.toNat_natCast] at e
     rw [e]
    rcases Classical.em (a ∈ l.map Int.toNat) with hm | hm
    ·rw [List.mem_map] at hm
     obtain ⟨w, hw, e⟩ := hm
     obtain ⟨k, hk, rfl⟩ := List.mem_iff_getElem.1 hw
     exact ⟨k, hk, e⟩
    ·exfalso
     have := nodup_sub (a :: l.map Int.toNat) (List.range n) (List.nodup_cons.2 ⟨hm, hnd⟩) fun w hw => by
      rw [List.mem_cons] at hw
      rw [List.mem_range]
      rcases hw with rfl | hw
      ·exact ha
      ·rw [List.mem_map] at hw
       obtain ⟨w', hw', rfl⟩ := hw
       have := hl2.rg _ hw'
       omega
     rw [List.length_cons, List.length_map, List.length_range] at this
     omega
   refine Ans.some ⟨by rw [hn]; exact q1, fun a ha => ?_, fun a b hr => ?_⟩
   ·obtain ⟨k, hk, rfl⟩ := hin a (by omega)
    have := q2 k hk (by omega)
    omega
   ·have hb := (clos_in hf hr).2
    obtain ⟨k, hk, rfl⟩ := hin b (by omega)
    exact q3 k hk (by omega) a hr
 obtain ⟨y, hy, hH⟩ := key
 exact ⟨y, hy, hH⟩
end Go.Proofs.YthfgccfaildmfaaGreatDoor
/-
 Dating: clues that are true of years.
 No conditions.
-/
namespace Go.Proofs.YthfgccfaildmfaaGreatDoor
open Go Go.Abs Go.PE
open Ord (Rel clos)
set_option linter.unusedVariables false
set_option maxRecDepth 10000
def tru (y : List Int) (q : Clu) : Prop :=
 (q.1 = 1 → q.2.2.2.1 ≤ y.getD q.2.1.toNat 0 ∧ y.getD q.2.1.toNat 0 < q.2.2.2.2) ∧ (q.1 = 2 → q.2.2.2.1 ≤ y.getD q.2.1.toNat 0) ∧ (q.1 = 3 → y.getD q.2.1.toNat 0 ≤ q.2.2.2.1) ∧
 (q.1 = 4 → y.getD q.2.2.1.toNat 0 = y.getD q.2.1.toNat 0) ∧ (q.1 = 5 → q.2.2.2.1 ≤ y.getD q.2.2.1.toNat 0 - y.getD q.2.1.toNat 0 ∧ y.getD q.2.2.1.toNat 0 - y.getD q.2.1.toNat 0 ≤ q.2.2.2.2)
def mid (b : Int) (q : Clu) : Prop := (q.1 = 1 → 971 - b ≤ q.2.2.2.1 ∧ q.2.2.2.2 ≤ 1741 + b) ∧ (q.1 = 2 → 951 - b ≤ q.2.2.2.1 ∧ q.2.2.2.1 ≤ 1711 + b) ∧ (q.1 = 3 → 1000 - b ≤ q.2.2.2.1 ∧ q.2.2.2.1 ≤ 1760 + b)
theorem m22_ok {N : Int} (h8 : N ≤ 8) {y : List Int} (hl : (y.length : Int) = N) (h0 : 0 < N) (hy : ∀ a, a < y.length → 1000 ≤ y.getD a 0 ∧ y.getD a 0 ≤ 1711) {c : Clu} (hc : has5 c) :
  ∃ q, m22 (y, c) = some q ∧ vcl N q = true ∧ tru y q ∧ mid 0 q := by
 have key : Ans (m22 (y, c)) fun q => vcl N q = true ∧ tru y q ∧ mid 0 q := by
  obtain ⟨c1, c2, c3, c4, c5⟩ := hc
  unfold m22
  dsimp only
  have e0 : lenM y = N := hl
  have k0 := pk_lo (c := c.1) (n := 5) (by omega)
  have k1 := pk_hi (c := c.1) (n := 5) (by omega)
  have a0 := pk_lo (c := c.2.1) (n := N) h0
  have a1 := pk_hi (c := c.2.1) (n := N) h0
  have b0 := pk_lo (c := c.2.2.1) (n := N) h0
  have b1 := pk_hi (c := c.2.2.1) (n := N) h0
  rw [e0, m37_eq c1 (by omega), Option.bind_some, m37_eq c2 h0, Option.bind_some, m37_eq c3 h0, Option.bind_some, idx_getD a0 (by omega), Option.bind_some, idx_getD b0 (by omega), Option.bind_some]
  generalize pk c.1 5 = k at *
  generalize pk c.2.1 N = a at *
  generalize pk c.2.2.1 N = b at *
  have ya := hy a.toNat (by omega)
  have yb := hy b.toNat (by omega)
  generalize hA : y.getD a.toNat 0 = A at *
  generalize hB : y.getD b.toNat 0 = B at *
  rw [wrap_in (n := 1 + k) (by omega) (by omega), wrap_in (n := B - A) (by omega) (by omega)]
  refine Ans.bind (P := fun o : Clu => o.2 = (a, 0, 0, 0) ∧ 1 ≤ o.1 ∧ o.1 ≤ 5 ∧ (o.1 = 4 → B = A)) ?_ fun o ho => ?_
  ·refine Ans.cond (fun h => Ans.some ⟨rfl, by dsimp only; omega, by dsimp only; omega, fun h => by dsimp only at h; omega⟩) fun h => Ans.some ⟨rfl, by dsimp only; omega, by dsimp only; omega, fun h4 => ?_⟩
   dsimp only at h4
   rw [eqI h4, andT] at h
   rcases Classical.em (B - A = 0) with e | e
   ·omega
   ·rw [neI e] at h; cases h
  ·obtain ⟨kd, rest⟩ := o
   obtain ⟨o1, o2, o3, o4⟩ := ho
   dsimp only at o1 o2 o3 o4
   subst o1
   dsimp only
   refine Ans.bind (P := fun o : Clu => o.2 = (a, 0, 0, 0) ∧ 1 ≤ o.1 ∧ o.1 ≤ 5 ∧ (o.1 = 4 → B = A) ∧ (o.1 = 5 → -200 ≤ B - A ∧ B - A ≤ 200)) ?_ fun o ho => ?_
   ·by_cases h5 : kd = 5
    ·rw [eqI h5, cond_true, m38_eq, Option.bind_some, andT]
     refine Ans.cond (fun h => Ans.some ⟨rfl, (by dsimp only; omega), (by dsimp only; omega), (fun h => by dsimp only at h; omega), (fun h => by dsimp only at h; omega)⟩) fun h => Ans.some ⟨rfl, o2, o3, o4, fun _ => ?_⟩
     rcases Classical.em (-200 ≤ B - A ∧ B - A ≤ 200) with e | e
     ·exact e
     ·rw [decide_eq_false e] at h; cases h
    ·rw [neI h5, cond_false, Option.bind_some, andF, cond_false]
     exact Ans.some ⟨rfl, o2, o3, o4, fun h => absurd h h5⟩
   ·obtain ⟨kd, rest⟩ := o
    obtain ⟨o1, o2, o3, o4, o5⟩ := ho
    dsimp only at o1 o2 o3 o4 o5
    subst o1
    dsimp only
    have fin : ∀ q : Clu, vcl N q = true ∧ tru y q ∧ mid 0 q → Ans (some q) fun q => vcl N q = true ∧ tru y q ∧ mid 0 q := fun q h => Ans.some h
    have p30 := pk_lo (c := c.2.2.2.1) (n := 30) (by omega)
    have p31 := pk_hi (c := c.2.2.2.1) (n := 30) (by omega)
    have q30 := pk_lo (c := c.2.2.2.2) (n := 30) (by omega)
    have q31 := pk_hi (c := c.2.2.2.2) (n := 30) (by omega)
    have p50 := pk_lo (c := c.2.2.2.1) (n := 50) (by omega)
    have p51 := pk_hi (c := c.2.2.2.1) (n := 50) (by omega)
    refine Ans.bind (P := fun q : Clu => vcl N q = true ∧ tru y q ∧ mid 0 q) ?_ fun q hq => Ans.some hq
    by_cases k1 : kd = 1
    ·subst k1
     rw [eqI rfl, cond_true, m37_eq c4 (by omega), Option.bind_some, m37_eq c5 (by omega), Option.bind_some, wrap_in (n := A - pk c.2.2.2.1 30) (by omega) (by omega), wrap_in (n := A + 1) (by omega) (by omega), wrap_in (n := A + 1 + pk c.2.2.2.2 30) (by omega) (by omega)]
     refine fin _ ⟨decide_eq_true (by dsimp only; omega), ?_, ?_⟩
     ·unfold tru; dsimp only; rw [hA]
      exact ⟨fun _ => by omega, fun h => by omega, fun h => by omega, fun h => by omega, fun h => by omega⟩
     ·unfold mid; dsimp only
      exact ⟨fun _ => by omega, fun h => by omega, fun h => by omega⟩
    ·rw [neI k1, cond_false]
     by_cases k2 : kd = 2
     ·subst k2
      rw [eqI rfl, cond_true, m37_eq c4 (by omega), Option.bind_some, wrap_in (n := A - pk c.2.2.2.1 50) (by omega) (by omega)]
      refine fin _ ⟨decide_eq_true (by dsimp only; omega), ?_, ?_⟩
      ·unfold tru; dsimp only; rw [hA]
       exact ⟨fun h => by omega, fun h => by omega, fun h => by omega, fun h => by omega, fun h => by omega⟩
      ·unfold mid; dsimp only
       exact ⟨fun h => by omega, fun h => by omega, fun h => by omega⟩
     ·rw [neI k2, cond_false]
      by_cases k3 : kd = 3
      ·subst k3
       rw [eqI rfl, cond_true, m37_eq c4 (by omega), Option.bind_some, wrap_in (n := A + pk c.2.2.2.1 50) (by omega) (by omega)]
       refine fin _ ⟨decide_eq_true (by dsimp only; omega), ?_, ?_⟩
       ·unfold tru; dsimp only; rw [hA]
        exact ⟨fun h => by omega, fun h => by omega, fun h => by omega, fun h => by omega, fun h => by omega⟩
       ·unfold mid; dsimp only
        exact ⟨fun h => by omega, fun h => by omega, fun h => by omega⟩
      ·rw [neI k3, cond_false]
       by_cases k4 : kd = 4
       ·subst k4
        rw [eqI rfl, cond_true]
        have e := o4 rfl
        refine fin _ ⟨decide_eq_true (by dsimp only; omega), ?_, ?_⟩
        ·unfold tru; dsimp only; rw [hA, hB]
         exact ⟨fun h => by omega, fun h => by omega, fun h => by omega, fun h => by omega, fun h => by omega⟩
        ·unfold mid; dsimp only
         exact ⟨fun h => by omega, fun h => by omega, fun h => by omega⟩
       ·have k5 : kd = 5 := by omega
        subst k5
        have e := o5 rfl
        rw [neI k4, cond_false, m37_eq c4 (by omega), Option.bind_some, m37_eq c5 (by omega), Option.bind_some, wrap_in (n := B - A - pk c.2.2.2.1 30) (by omega) (by omega), wrap_in (n := B - A + pk c.2.2.2.2 30) (by omega) (by omega)]
        refine fin _ ⟨decide_eq_true (by dsimp only; omega), ?_, ?_⟩
        ·unfold tru; dsimp only; rw [hA, hB]
         exact ⟨fun h => by omega, fun h => by omega, fun h => by omega, fun h => by omega, fun h => by omega⟩
        ·unfold mid; dsimp only
         exact ⟨fun h => by omega, fun h => by omega, fun h => by omega⟩
 obtain ⟨q, h1, h2⟩ := key
 exact ⟨q, h1, h2⟩
end Go.Proofs.YthfgccfaildmfaaGreatDoor
/-
 Dating: the dating that integers determine.
 No conditions.
-/
namespace Go.Proofs.YthfgccfaildmfaaGreatDoor
open Go Go.Abs Go.PE
open Ord (Rel clos)
set_option linter.unusedVariables false
set_option maxRecDepth 10000
def missd (x : Nums) : Bool := eqM (pk x.2.2.2.2.2.2.1 3) 2
theorem m36_eq {x : Nums} (h : DNum x) : m36 x = some (missd x) := by
 unfold m36
 rw [m37_eq h.m0 (by omega)]
 rfl
def gd (N : Int) (b : Int) (q : Clu) : Prop := vcl N q = true ∧ mid b q
theorem set_good {N : Int} {L : List Clu} (hL : ∀ q ∈ L, gd N 0 q) {i : Nat} {c : Clu} (hc : gd N 30 c) : ∀ q ∈ L.set i c, gd N 30 q := fun q hq => by
 rcases List.mem_or_eq_of_mem_set hq with h | rfl
 ·obtain ⟨h1, h2⟩ := hL q h
  refine ⟨h1, ?_⟩
  unfold mid at h2 ⊢
  exact ⟨fun e => by have := h2.1 e; omega, fun e => by have := h2.2.1 e; omega, fun e => by have := h2.2.2 e; omega⟩
 ·exact hc
theorem gd_up {N : Int} {q : Clu} (h : gd N 0 q) : gd N 30 q := by
 obtain ⟨h1, h2⟩ := h
 refine ⟨h1, ?_⟩
 unfold mid at h2 ⊢
 exact ⟨fun e => by have := h2.1 e; omega, fun e => by have := h2.2.1 e; omega, fun e => by have := h2.2.2 e; omega⟩
theorem idx_set {L : List Clu} {i : Nat} (hi : i < L.length) (c : Clu) : idxM (L.set i c) (i : Int) = some c := by
 rw [idxM_lt (by rw [List.length_set]; exact hi), List.getElem_set_self]
theorem set_is {L : List Clu} {i : Nat} (hi : i < L.length) {f : Clu → Option Clu} {c : Clu} (h : f L[i] = some c) : setM L (i : Int) f = some (L.set i c) := by
 rw [setM_of (y := c) (by omega) (by omega) (by exact h)]
 rfl
theorem set_again {L : List Clu} {i : Nat} (hi : i < L.length) {f : Clu → Option Clu} {b c : Clu} (h : f b = some c) : setM (L.set i b) (i : Int) f = some (L.set i c) := by
 have hl : i < (L.set i b).length := by rw [List.length_set]; exact hi
 rw [set_is hl (c := c) (by rw [List.getElem_set_self]; exact h), List.set_set]
def off (y : List Int) (q : Clu) : Prop :=
 (q.1 = 1 → q.2.2.2.1 ≤ y.getD q.2.1.toNat 0 + 30 ∧ y.getD q.2.1.toNat 0 < q.2.2.2.2 + 30) ∧ (q.1 = 2 → q.2.2.2.1 ≤ y.getD q.2.1.toNat 0 + 30) ∧ (q.1 = 3 → y.getD q.2.1.toNat 0 ≤ q.2.2.2.1 + 30) ∧
 (q.1 = 4 → y.getD q.2.2.1.toNat 0 = y.getD q.2.1.toNat 0) ∧ (q.1 = 5 → q.2.2.2.1 ≤ y.getD q.2.2.1.toNat 0 - y.getD q.2.1.toNat 0 + 30 ∧ y.getD q.2.2.1.toNat 0 - y.getD q.2.1.toNat 0 ≤ q.2.2.2.2 + 30)
theorem off_of {y : List Int} {q : Clu} (h : tru y q) : off y q := by
 unfold tru at h
 obtain ⟨t1, t2, t3, t4, t5⟩ := h
 exact ⟨fun k => by have := t1 k; omega, fun k => by have := t2 k; omega, fun k => by have := t3 k; omega, t4, fun k => by have := t5 k; omega⟩
theorem off1 {y : List Int} {q : Clu} (h : tru y q) (k : q.1 = 1) {r : Int} (h0 : -30 ≤ r) (h1 : r ≤ 30) : off y (q.1, q.2.1, q.2.2.1, q.2.2.2.1 + r, q.2.2.2.2 + r) := by
 have := h.1 k
 exact ⟨fun _ => by dsimp only; omega, fun h => by dsimp only at h; omega, fun h => by dsimp only at h; omega, fun h => by dsimp only at h; omega, fun h => by dsimp only at h; omega⟩
theorem off2 {y : List Int} {q : Clu} (h : tru y q) (k : q.1 = 2) {r : Int} (h1 : r ≤ 30) : off y (q.1, q.2.1, q.2.2.1, q.2.2.2.1 + r, q.2.2.2.2) := by
 have := h.2.1 k
 exact ⟨fun h => by dsimp only at h; omega, fun _ => by dsimp only; omega, fun h => by dsimp only at h; omega, fun h => by dsimp only at h; omega, fun h => by dsimp only at h; omega⟩
theorem off3 {y : List Int} {q : Clu} (h : tru y q) (k : q.1 = 3) {r : Int} (h1 : r ≤ 30) : off y (q.1, q.2.1, q.2.2.1, q.2.2.2.1 - r, q.2.2.2.2) := by
 have := h.2.2.1 k
 exact ⟨fun h => by dsimp only at h; omega, fun h => by dsimp only at h; omega, fun _ => by dsimp only; omega, fun h => by dsimp only at h; omega, fun h => by dsimp only at h; omega⟩
theorem off5 {y : List Int} {q : Clu} (h : tru y q) (k : q.1 = 5) {r : Int} (h0 : -30 ≤ r) (h1 : r ≤ 30) : off y (q.1, q.2.1, q.2.2.1, q.2.2.2.1 + r, q.2.2.2.2 + r) := by
 have := h.2.2.2.2 k
 exact ⟨fun h => by dsimp only at h; omega, fun h => by dsimp only at h; omega, fun h => by dsimp only at h; omega, fun h => by dsimp only at h; omega, fun _ => by dsimp only; omega⟩
def near (y : List Int) (L : List Clu) : Prop := ∃ q0, (q0 ∈ L → off y q0) ∧ ∀ q ∈ L, q = q0 ∨ tru y q
theorem near_of {y : List Int} {L : List Clu} (h : ∀ q ∈ L, tru y q) : near y L := ⟨(0, 0, 0, 0, 0), fun hq => off_of (h _ hq), fun q hq => .inr (h q hq)⟩
theorem near_set {y : List Int} {L : List Clu} (h : ∀ q ∈ L, tru y q) (i : Nat) {c : Clu} (hc : off y c) : near y (L.set i c) := ⟨c, fun _ => hc, fun q hq => by
 rcases List.mem_or_eq_of_mem_set hq with h1 | h1
 ·exact .inr (h q h1)
 ·exact .inl h1⟩
theorem m11_ok {x : Nums} (h : DNum x) : ∃ o y d, m35 x = some o ∧ m12 x = some y ∧ m11 x = some d ∧ d.1 = o ∧ okO o = true ∧ o.2.length ≤ 20 ∧ Hid o y ∧ d.2.length ≤ 10 ∧ (∀ q ∈ d.2, gd o.1 30 q) ∧ (missd x = false → ∀ q ∈ d.2, tru y q) ∧ near y d.2 := by
 obtain ⟨o, ho, hO, h20⟩ := m35_ok h
 obtain ⟨y, hy, hH⟩ := m12_ok h ho hO
 obtain ⟨h0, h8, h28, h3⟩ := okO_of hO
 have hyl := hH.len
 have key : Ans (m11 x) fun d => d.1 = o ∧ d.2.length ≤ 10 ∧ (∀ q ∈ d.2, gd o.1 30 q) ∧ (missd x = false → ∀ q ∈ d.2, tru y q) ∧ near y d.2 := by
  unfold m11
  refine Ans.seq (x := o) ho ?_
  refine Ans.seq (x := y) hy ?_
  refine Ans.bind (P := fun (z : Int × List (Int × Int) × List Clu) => (z.1, z.2.1) = o ∧ z.2.2.length ≤ 10 ∧ (∀ q ∈ z.2.2, gd o.1 0 q ∧ tru y q)) ?_ fun z hz => ?_
  ·refine Ans.loop (fun k s => s.1 = (k : Int) ∧ (s.2.1, s.2.2.1) = o ∧ s.2.2.2.length = k ∧ ∀ q ∈ s.2.2.2, gd o.1 0 q ∧ tru y q) 10 ⟨rfl, rfl, rfl, fun q hq => by cases hq⟩ fun k s hk hP => ?_
   obtain ⟨s1, s2, s3, L⟩ := s
   obtain ⟨q0, q1, q2, q3⟩ := hP
   dsimp only at q0 q1 q2 q3 ⊢
   subst q0
   by_cases hc : k < x.2.2.2.2.2.1.length ∧ k < 10 ∧ 0 < y.length
   ·obtain ⟨g1, g2, g3⟩ := hc
    rw [ltI (show (k : Int) < lenM x.2.2.2.2.2.1 by show (k : Int) < (x.2.2.2.2.2.1.length : Int); omega), ltI (show (k : Int) < 10 by omega), ltI (show (0 : Int) < lenM y by show (0 : Int) < (y.length : Int); omega), andT, andT, cond_true, idxM_lt g1, Option.bind_some]
    obtain ⟨q, hq1, hq2, hq3, hq4⟩ := m22_ok (N := o.1) h8 (y := y) (by omega) (by omega) (fun a ha => hH.rg a (by omega)) (h.cs _ (List.getElem_mem g1))
    refine Ans.seq (x := q) hq1 ?_
    rw [appM_of (by show (L.length + 1) * 40 ≤ _; omega), Option.bind_some, wrap_in (by omega) (by omega)]
    refine Ans.some ⟨g2, rfl, q1, by dsimp only; rw [List.length_append, q2]; rfl, fun p hp => ?_⟩
    dsimp only at hp
    rw [List.mem_append, List.mem_singleton] at hp
    rcases hp with hp | rfl
    ·exact q3 p hp
    ·exact ⟨⟨hq2, hq4⟩, hq3⟩
   ·have e : PE.andM (PE.andM (ltM (k : Int) (lenM x.2.2.2.2.2.1)) (ltM (k : Int) (10 : Int))) (ltM (0 : Int) (lenM y)) = false := by
     show ((decide ((k : Int) < (x.2.2.2.2.2.1.length : Int)) && decide _) && decide ((0 : Int) < (y.length : Int))) = false
     rw [Bool.and_eq_false_iff, Bool.and_eq_false_iff, decide_eq_false_iff_not, decide_eq_false_iff_not, decide_eq_false_iff_not]
     omega
    rw [e, cond_false]
    exact Ans.some ⟨q1, by dsimp only; omega, q3⟩
  ·obtain ⟨z1, z2, L⟩ := z
   obtain ⟨e1, e2, e3⟩ := hz
   dsimp only at e1 e2 e3 ⊢
   refine Ans.bind (P := fun (M : List Clu) => M.length ≤ 10 ∧ (∀ q ∈ M, gd o.1 30 q) ∧ (missd x = false → ∀ q ∈ M, tru y q) ∧ near y M) ?_ fun M hM => Ans.some ⟨e1, hM.1, hM.2.1, hM.2.2⟩
   have same : Ans (some L) fun (M : List Clu) => M.length ≤ 10 ∧ (∀ q ∈ M, gd o.1 30 q) ∧ (missd x = false → ∀ q ∈ M, tru y q) ∧ near y M := Ans.some ⟨e2, fun q hq => gd_up (e3 q hq).1, fun _ q hq => (e3 q hq).2, near_of fun q hq => (e3 q hq).2⟩
   rw [show ((x.1, x.2.1, x.2.2.1, x.2.2.2.1, x.2.2.2.2.1, x.2.2.2.2.2.1, x.2.2.2.2.2.2.1, x.2.2.2.2.2.2.2.1, x.2.2.2.2.2.2.2.2) : Nums) = x from rfl, m36_eq h, Option.bind_some]
   by_cases hm : missd x = true ∧ 0 < L.length
   ·obtain ⟨hm, hL⟩ := hm
    rw [hm, andT, ltI (show (0 : Int) < lenM L by show (0 : Int) < (L.length : Int); omega), cond_true]
    have hlen : lenM L = (L.length : Int) := rfl
    have i0 := pk_lo (c := x.2.2.2.2.2.2.2.1) (n := (L.length : Int)) (by omega)
    have i1 := pk_hi (c := x.2.2.2.2.2.2.2.1) (n := (L.length : Int)) (by omega)
    have b0 := pk_lo (c := x.2.2.2.2.2.2.2.2) (n := 60) (by omega)
    have b1 := pk_hi (c := x.2.2.2.2.2.2.2.2) (n := 60) (by omega)
    rw [hlen, m37_eq h.m1 (by omega), Option.bind_some, chkM_of i0 i1, Option.bind_some, m37_eq h.m2 (by omega), Option.bind_some]
    generalize pk x.2.2.2.2.2.2.2.1 (L.length : Int) = I at *
    generalize pk x.2.2.2.2.2.2.2.2 60 = r at *
    obtain ⟨i, rfl⟩ := Int.eq_ofNat_of_zero_le i0
    have hi : i < L.length := by omega
    have hg := (e3 _ (List.getElem_mem hi)).1
    have T := (e3 _ (List.getElem_mem hi)).2
    have hv := vcl_of hg.1
    have hmid := hg.2
    unfold mid at hmid
    rw [wrap_in (n := r - 30) (by omega) (by omega), idxM_lt hi, Option.bind_some, Option.bind_some]
    have fin : ∀ c : Clu, gd o.1 30 c → off y c → Ans (some (L.set i c)) fun (M : List Clu) => M.length ≤ 10 ∧ (∀ q ∈ M, gd o.1 30 q) ∧ (true = false → ∀ q ∈ M, tru y q) ∧ near y M := fun c hc ho => Ans.some ⟨by rw [List.length_set]; exact e2, set_good (fun q hq => (e3 q hq).1) hc, (fun h => by cases h), near_set (fun q hq => (e3 q hq).2) i ho⟩
    rw [hm] at same
    generalize hc : L[i] = c at *
    obtain ⟨v1, v2, v3⟩ := hv
    by_cases k1 : c.1 = 1
    ·have g := hmid.1 k1
     rw [eqI k1, cond_true, Option.bind_some, Option.bind_some, wrap_in (n := c.2.2.2.1 + (r - 30)) (by omega) (by omega), set_is hi (c := (c.1, c.2.1, c.2.2.1, c.2.2.2.1 + (r - 30), c.2.2.2.2)) (by rw [hc]), Option.bind_some, idx_set hi, Option.bind_some, Option.bind_some, wrap_in (n := c.2.2.2.2 + (r - 30)) (by omega) (by omega), set_again hi (f := fun x => some (x.1, x.2.1, x.2.2.1, x.2.2.2.1, c.2.2.2.2 + (r - 30))) (c := (c.1, c.2.1, c.2.2.1, c.2.2.2.1 + (r - 30), c.2.2.2.2 + (r - 30))) rfl, Option.bind_some]
     refine fin _ ⟨decide_eq_true (by dsimp only; omega), ?_⟩ (off1 T k1 (by omega) (by omega))
     unfold mid; dsimp only
     exact ⟨fun _ => by omega, fun h => by omega, fun h => by omega⟩
    ·rw [neI k1, cond_false]
     by_cases k2 : c.1 = 2
     ·have g := hmid.2.1 k2
      rw [eqI k2, cond_true, Option.bind_some, Option.bind_some, show PE.negM (r - 30) = -(r - 30) from rfl, wrap_in (n := -(r - 30)) (by omega) (by omega), wrap_in (n := c.2.2.2.1 + max (r - 30) (-(r - 30))) (by omega) (by omega), set_is hi (c := (c.1, c.2.1, c.2.2.1, c.2.2.2.1 + max (r - 30) (-(r - 30)), c.2.2.2.2)) (by rw [hc]), Option.bind_some]
      refine fin _ ⟨decide_eq_true (by dsimp only; omega), ?_⟩ (off2 T k2 (by omega))
      unfold mid; dsimp only
      exact ⟨fun h => by omega, fun _ => by omega, fun h => by omega⟩
     ·rw [neI k2, cond_false]
      by_cases k3 : c.1 = 3
      ·have g := hmid.2.2 k3
       rw [eqI k3, cond_true, Option.bind_some, Option.bind_some, show PE.negM (r - 30) = -(r - 30) from rfl, wrap_in (n := -(r - 30)) (by omega) (by omega), wrap_in (n := c.2.2.2.1 - max (r - 30) (-(r - 30))) (by omega) (by omega), set_is hi (c := (c.1, c.2.1, c.2.2.1, c.2.2.2.1 - max (r - 30) (-(r - 30)), c.2.2.2.2)) (by rw [hc]), Option.bind_some]
       refine fin _ ⟨decide_eq_true (by dsimp only; omega), ?_⟩ (off3 T k3 (by omega))
       unfold mid; dsimp only
       exact ⟨fun h => by omega, fun h => by omega, fun _ => by omega⟩
      ·rw [neI k3, cond_false]
       by_cases k5 : c.1 = 5
       ·rw [eqI k5, cond_true, Option.bind_some, Option.bind_some, wrap_in (n := c.2.2.2.1 + (r - 30)) (by omega) (by omega), m38_eq, Option.bind_some]
        by_cases f1 : -200 ≤ c.2.2.2.1 + (r - 30) ∧ c.2.2.2.1 + (r - 30) ≤ 200
        ·rw [decide_eq_true f1, cond_true, Option.bind_some, Option.bind_some, cond_true, wrap_in (n := c.2.2.2.2 + (r - 30)) (by omega) (by omega), m38_eq, Option.bind_some, andT]
         by_cases f2 : -200 ≤ c.2.2.2.2 + (r - 30) ∧ c.2.2.2.2 + (r - 30) ≤ 200
         ·rw [decide_eq_true f2, cond_true, Option.bind_some, wrap_in (n := c.2.2.2.1 + (r - 30)) (by omega) (by omega), set_is hi (c := (c.1, c.2.1, c.2.2.1, c.2.2.2.1 + (r - 30), c.2.2.2.2)) (by rw [hc]), Option.bind_some, idx_set hi, Option.bind_some, Option.bind_some, wrap_in (n := c.2.2.2.2 + (r - 30)) (by omega) (by omega), set_again hi (f := fun x => some (x.1, x.2.1, x.2.2.1, x.2.2.2.1, c.2.2.2.2 + (r - 30))) (c := (c.1, c.2.1, c.2.2.1, c.2.2.2.1 + (r - 30), c.2.2.2.2 + (r - 30))) rfl, Option.bind_some]
          refine fin _ ⟨decide_eq_true (by dsimp only; omega), ?_⟩ (off5 T k5 (by omega) (by omega))
          unfold mid; dsimp only
          exact ⟨fun h => by omega, fun h => by omega, fun h => by omega⟩
         ·rw [decide_eq_false f2, cond_false]
          exact same
        ·rw [decide_eq_false f1, cond_false, Option.bind_some, cond_false, Option.bind_some, andF, cond_false]
         exact same
       ·rw [neI k5, cond_false]
        exact same
   ·have e : PE.andM (missd x) (ltM (0 : Int) (lenM L)) = false := by
     show (missd x && decide ((0 : Int) < (L.length : Int))) = false
     rw [Bool.and_eq_false_iff, decide_eq_false_iff_not]
     rcases Classical.em (missd x = true) with hx | hx
     ·right; intro hx2; exact hm ⟨hx, by omega⟩
     ·left; simpa using hx
    rw [e, cond_false]
    exact same
 obtain ⟨d, hd, k1, k2, k3, k4⟩ := key
 exact ⟨o, y, d, ho, hy, hd, k1, hO, h20, hH, k2, k3, k4⟩
end Go.Proofs.YthfgccfaildmfaaGreatDoor
/-
 The models with loops of bounded rounds, and that they answer no more than the models (printed by gen_twin.py). No conditions.
-/
namespace Go.Proofs.YthfgccfaildmfaaGreatDoor
open Go Go.Abs Go.PE Go.Proofs
open Go.IntKind (wrap)
set_option linter.unusedVariables false
set_option maxRecDepth 100000
set_option maxHeartbeats 0
noncomputable def m106F : (Int × List (Int × Int)) → Option (Bool) :=
 fun (x : Int × List (Int × Int)) => bif PE.orM (PE.orM (ltM x.1 0) (ltM 8 x.1)) (ltM 28 (lenM x.2)) then some false else ((loopF (fun (s : Int) => bif ltM s
 (lenM x.2) then (idxM x.2 s).bind fun r => bif PE.orM (PE.orM (ltM (min r.1 r.2) 0) (leM x.1 (max r.1 r.2))) (eqM r.1 r.2) then some (Sum.inr (Sum.inr s))
 else some (Sum.inl (wrap .i64 (s + 1))) else some (Sum.inr (Sum.inl ()))) 0).bind fun (o : Unit ⊕ Int) => Sum.elim (fun (t : Unit) => some (-1)) (fun (t :
 Int) => some t) o).bind fun (ov : Int) => some (PE.notM (leM 0 ov))
theorem le106 (x) : Le (m106F x) (m106 x) := by
 unfold m106F m106
 repeat' first | with_reducible exact Le.refl _ | intro _ | apply Le.bind | apply Le.cond | apply Le.nil | apply Le.loop | apply Le.elim
noncomputable def m107F : (Int × List (Int × Int)) → Option ((Int × Int × Int × Int × Int × Int × Int × Int) × Bool) :=
 fun (x : Int × List (Int × Int)) => (loopF (fun (s : Int × List Int) => bif ltM s.1 (lenM x.2) then (idxM x.2 s.1).bind fun r => (chkM r.2 ↑(nat_lit 8)).bind
 fun r_1 => (idxM s.2 (↑(nat_lit 0) + r.2 * ↑(nat_lit 1))).bind fun r_2 => (shlM IntKind.i64 1 r.1).bind fun r_3 => (chkM r.2 ↑(nat_lit 8)).bind fun r_4 =>
 (setM s.2 (↑(nat_lit 0) + r.2 * ↑(nat_lit 1)) fun (x : Int) => some (bitM BinOp.or IntKind.i64 r_2 r_3)).bind fun r => some (Sum.inl (wrap .i64 (s.1 + 1), r))
 else some (Sum.inr s.2)) (0, [0, 0, 0, 0, 0, 0, 0, 0])).bind fun (o : List Int) => (loopF (fun (s : Int × List Int) => bif ltM s.1 x.1 then (loopF (fun (s_1 :
 Int × List Int) => bif ltM s_1.1 x.1 then ((chkM s_1.1 ↑(nat_lit 8)).bind fun r => (idxM s_1.2 (↑(nat_lit 0) + s_1.1 * ↑(nat_lit 1))).bind fun r_1 => (shrM
 IntKind.i64 r_1 s.1).bind fun r_2 => bif eqM (bitM BinOp.and IntKind.i64 r_2 1) 1 then (chkM s_1.1 ↑(nat_lit 8)).bind fun r_3 => (idxM s_1.2 (↑(nat_lit 0) +
 s_1.1 * ↑(nat_lit 1))).bind fun r_4 => (chkM s.1 ↑(nat_lit 8)).bind fun r_5 => (idxM s_1.2 (↑(nat_lit 0) + s.1 * ↑(nat_lit 1))).bind fun r_6 => (chkM s_1.1
 ↑(nat_lit 8)).bind fun r_7 => (setM s_1.2 (↑(nat_lit 0) + s_1.1 * ↑(nat_lit 1)) fun (x : Int) => some (bitM BinOp.or IntKind.i64 r_4 r_6)).bind fun r => some
 r else some s_1.2).bind fun (o : List Int) => some (Sum.inl (wrap .i64 (s_1.1 + 1), o)) else some (Sum.inr s_1.2)) (0, s.2)).bind fun (o : List Int) => some
 (Sum.inl (wrap .i64 (s.1 + 1), o)) else some (Sum.inr s.2)) (0, o)).bind fun (o_1 : List Int) => (loopF (fun (s : Int) => bif ltM s x.1 then (chkM s ↑(nat_lit
 8)).bind fun r => (idxM o_1 (↑(nat_lit 0) + s * ↑(nat_lit 1))).bind fun r_1 => (shrM IntKind.i64 r_1 s).bind fun r => bif eqM (bitM BinOp.and IntKind.i64 r 1)
 1 then some (Sum.inr (Sum.inr (false, [nthD o_1 (nat_lit 0) 0, nthD o_1 (nat_lit 1) 0, nthD o_1 (nat_lit 2) 0, nthD o_1 (nat_lit 3) 0, nthD o_1 (nat_lit 4) 0,
 nthD o_1 (nat_lit 5) 0, nthD o_1 (nat_lit 6) 0, nthD o_1 (nat_lit 7) 0]))) else some (Sum.inl (wrap .i64 (s + 1))) else some (Sum.inr (Sum.inl ()))) 0).bind
 fun (o : Unit ⊕ Bool × List Int) => Sum.elim (fun (t : Unit) => some ((nthD o_1 (nat_lit 0) 0, nthD o_1 (nat_lit 1) 0, nthD o_1 (nat_lit 2) 0, nthD o_1
 (nat_lit 3) 0, nthD o_1 (nat_lit 4) 0, nthD o_1 (nat_lit 5) 0, nthD o_1 (nat_lit 6) 0, nthD o_1 (nat_lit 7) 0), true)) (fun (t : Bool × List Int) => some
 ((nthD t.2 (nat_lit 0) 0, nthD t.2 (nat_lit 1) 0, nthD t.2 (nat_lit 2) 0, nthD t.2 (nat_lit 3) 0, nthD t.2 (nat_lit 4) 0, nthD t.2 (nat_lit 5) 0, nthD t.2
 (nat_lit 6) 0, nthD t.2 (nat_lit 7) 0), t.1)) o
theorem le107 (x) : Le (m107F x) (m107 x) := by
 unfold m107F m107
 repeat' first | with_reducible exact Le.refl _ | intro _ | apply Le.bind | apply Le.cond | apply Le.nil | apply Le.loop | apply Le.elim
noncomputable def m67F : (Int × List (Int × Int)) → Option ((Int × Int × Int × Int × Int × Int × Int × Int) × Bool) :=
 fun (x : Int × List (Int × Int)) => (m106F (x.1, x.2)).bind fun r => bif PE.notM r then some ((0, 0, 0, 0, 0, 0, 0, 0), false) else (m107F (x.1, x.2)).bind fun
 r => some ((r.1.1, r.1.2.1, r.1.2.2.1, r.1.2.2.2.1, r.1.2.2.2.2.1, r.1.2.2.2.2.2.1, r.1.2.2.2.2.2.2.1, r.1.2.2.2.2.2.2.2), r.2)
theorem le67 (x) : Le (m67F x) (m67 x) := by
 unfold m67F m67
 repeat' first | with_reducible exact le106 _ | with_reducible exact le107 _ | with_reducible exact Le.refl _ | intro _ | apply Le.bind | apply Le.cond | apply Le.nil | apply Le.loop | apply Le.elim
noncomputable def m60F : (Int × List (Int × Int)) → Option (Bool) :=
 fun (x : Int × List (Int × Int)) => (m67F (x.1, x.2)).bind fun r => some r.2
theorem le60 (x) : Le (m60F x) (m60 x) := by
 unfold m60F m60
 repeat' first | with_reducible exact le67 _ | with_reducible exact Le.refl _ | intro _ | apply Le.bind | apply Le.cond | apply Le.nil | apply Le.loop | apply Le.elim
noncomputable def m20F : ((Int × List (Int × Int)) × List (Int × Int × Int × Int × Int)) → Option (Bool) :=
 fun (x : (Int × List (Int × Int)) × List (Int × Int × Int × Int × Int)) => (m60F (x.1.1, x.1.2)).bind fun r => (bif PE.andM r (leM (lenM x.2) 14) then ((loopF
 (fun (s : Int) => bif ltM s (lenM x.2) then (idxM x.2 s).bind fun r_1 => (m59 ((r_1.1, r_1.2.1, r_1.2.2.1, r_1.2.2.2.1, r_1.2.2.2.2), x.1.1)).bind fun r =>
 bif PE.notM r then some (Sum.inr (Sum.inr s)) else some (Sum.inl (wrap .i64 (s + 1))) else some (Sum.inr (Sum.inl ()))) 0).bind fun (o : Unit ⊕ Int) =>
 Sum.elim (fun (t : Unit) => some (-1)) (fun (t : Int) => some t) o).bind fun (ov : Int) => some (leM 0 ov) else some false).bind fun (ov : Bool) => some
 (PE.andM (PE.andM r (leM (lenM x.2) 14)) (PE.notM ov))
theorem le20 (x) : Le (m20F x) (m20 x) := by
 unfold m20F m20
 repeat' first | with_reducible exact le60 _ | with_reducible exact Le.refl _ | intro _ | apply Le.bind | apply Le.cond | apply Le.nil | apply Le.loop | apply Le.elim
noncomputable def m68F : (Int × Int × Int × Int × Int × Int × Int × Int × Int) → Option (Int × List (Int × Int)) :=
 fun (x : Int × Int × Int × Int × Int × Int × Int × Int × Int) => (loopF (fun (s : Int × Int × List (Int × Int)) => bif ltM s.1 x.1 then (loopF (fun (s_1 : Int ×
 Int × List (Int × Int)) => bif ltM s_1.1 x.1 then ((chkM s_1.1 ↑(nat_lit 8)).bind fun r => (idxM [x.2.1, x.2.2.1, x.2.2.2.1, x.2.2.2.2.1, x.2.2.2.2.2.1,
 x.2.2.2.2.2.2.1, x.2.2.2.2.2.2.2.1, x.2.2.2.2.2.2.2.2] (↑(nat_lit 0) + s_1.1 * ↑(nat_lit 1))).bind fun r_1 => (shrM IntKind.i64 r_1 s.1).bind fun r_2 => bif
 eqM (bitM BinOp.and IntKind.i64 r_2 1) 1 then (appM (nat_lit 16) s_1.2.2 [(s.1, s_1.1)]).bind fun r => some (s_1.2.1, r) else some (s_1.2.1, s_1.2.2)).bind
 fun (o : Int × List (Int × Int)) => some (Sum.inl (wrap .i64 (s_1.1 + 1), o.1, o.2)) else some (Sum.inr (s_1.2.1, s_1.2.2))) (0, s.2.1, s.2.2)).bind fun (o :
 Int × List (Int × Int)) => some (Sum.inl (wrap .i64 (s.1 + 1), o.1, o.2)) else some (Sum.inr (s.2.1, s.2.2))) (0, x.1, [])).bind fun (o : Int × List (Int ×
 Int)) => some (o.1, o.2)
theorem le68 (x) : Le (m68F x) (m68 x) := by
 unfold m68F m68
 repeat' first | with_reducible exact Le.refl _ | intro _ | apply Le.bind | apply Le.cond | apply Le.nil | apply Le.loop | apply Le.elim
noncomputable def m28F : (Int × List (Int × Int)) → Option ((Int × List (Int × Int)) × Int) :=
 fun (x : Int × List (Int × Int)) => (m67F (x.1, x.2)).bind fun r => bif PE.notM r.2 then some ((0, []), 150) else (loopF (fun (s : Int × List Int) => bif ltM
 s.1 x.1 then (loopF (fun (s_1 : Int × List Int) => bif ltM s_1.1 x.1 then ((chkM s.1 ↑(nat_lit 8)).bind fun r_1 => (idxM [r.1.1, r.1.2.1, r.1.2.2.1,
 r.1.2.2.2.1, r.1.2.2.2.2.1, r.1.2.2.2.2.2.1, r.1.2.2.2.2.2.2.1, r.1.2.2.2.2.2.2.2] (↑(nat_lit 0) + s.1 * ↑(nat_lit 1))).bind fun r_2 => (shrM IntKind.i64 r_2
 s_1.1).bind fun r_3 => bif eqM (bitM BinOp.and IntKind.i64 r_3 1) 1 then (chkM s.1 ↑(nat_lit 8)).bind fun r_4 => (idxM s_1.2 (↑(nat_lit 0) + s.1 * ↑(nat_lit
 1))).bind fun r_5 => (chkM s_1.1 ↑(nat_lit 8)).bind fun r_6 => (idxM [r.1.1, r.1.2.1, r.1.2.2.1, r.1.2.2.2.1, r.1.2.2.2.2.1, r.1.2.2.2.2.2.1,
 r.1.2.2.2.2.2.2.1, r.1.2.2.2.2.2.2.2] (↑(nat_lit 0) + s_1.1 * ↑(nat_lit 1))).bind fun r_7 => (chkM s.1 ↑(nat_lit 8)).bind fun r_8 => (setM s_1.2 (↑(nat_lit 0)
 + s.1 * ↑(nat_lit 1)) fun (x : Int) => some (bitM BinOp.andNot IntKind.i64 r_5 r_7)).bind fun r => some r else some s_1.2).bind fun (o : List Int) => some
 (Sum.inl (wrap .i64 (s_1.1 + 1), o)) else some (Sum.inr s_1.2)) (0, s.2)).bind fun (o : List Int) => some (Sum.inl (wrap .i64 (s.1 + 1), o)) else some
 (Sum.inr s.2)) (0, [r.1.1, r.1.2.1, r.1.2.2.1, r.1.2.2.2.1, r.1.2.2.2.2.1, r.1.2.2.2.2.2.1, r.1.2.2.2.2.2.2.1, r.1.2.2.2.2.2.2.2])).bind fun (o : List Int) =>
 (m68F (x.1, nthD o (nat_lit 0) 0, nthD o (nat_lit 1) 0, nthD o (nat_lit 2) 0, nthD o (nat_lit 3) 0, nthD o (nat_lit 4) 0, nthD o (nat_lit 5) 0, nthD o
 (nat_lit 6) 0, nthD o (nat_lit 7) 0)).bind fun r => some ((r.1, r.2), 0)
theorem le28 (x) : Le (m28F x) (m28 x) := by
 unfold m28F m28
 repeat' first | with_reducible exact le67 _ | with_reducible exact le68 _ | with_reducible exact Le.refl _ | intro _ | apply Le.bind | apply Le.cond | apply Le.nil | apply Le.loop | apply Le.elim
noncomputable def m24F : ((Int × List (Int × Int)) × List (Int × Int × Int × Int × Int)) → Option ((Int × List (Int × Int × Int)) × Int) :=
 fun (x : (Int × List (Int × Int)) × List (Int × Int × Int × Int × Int)) => (m20F ((x.1.1, x.1.2), x.2)).bind fun r => bif PE.notM r then some ((0, []), 220)
 else ((loopF (fun (s : Int × Int × List (Int × Int × Int)) => bif ltM s.1 x.1.1 then (appM (nat_lit 24) s.2.2 [(s.1, x.1.1, 0)]).bind fun r_1 => (appM
 (nat_lit 24) r_1 [(x.1.1, s.1, 2100)]).bind fun r => some (Sum.inl (wrap .i64 (s.1 + 1), s.2.1, r)) else some (Sum.inr (Sum.inl (s.2.1, s.2.2)))) (0, wrap
 .i64 (x.1.1 + 1), [])).bind fun (o : Int × List (Int × Int × Int) ⊕ Int × List (Int × Int × Int)) => Sum.elim (fun (t : Int × List (Int × Int × Int)) =>
 (loopF (fun (s : Int × Int × List (Int × Int × Int)) => bif ltM s.1 (lenM x.2) then ((idxM x.2 s.1).bind fun r_1 => bif PE.orM (eqM r_1.1 1) (PE.orM (eqM
 r_1.1 2) (eqM r_1.1 3)) then (bif eqM r_1.1 1 then m138 (r_1.1, r_1.2.1, r_1.2.2.1, r_1.2.2.2.1, r_1.2.2.2.2) else bif eqM r_1.1 2 then m139 (r_1.1, r_1.2.1,
 r_1.2.2.1, r_1.2.2.2.1, r_1.2.2.2.2) else bif eqM r_1.1 3 then m140 (r_1.1, r_1.2.1, r_1.2.2.1, r_1.2.2.2.1, r_1.2.2.2.2) else none).bind fun r_2 => (appM
 (nat_lit 24) s.2.2 [(r_1.2.1, x.1.1, wrap .i64 (negM r_2.1))]).bind fun r_3 => (appM (nat_lit 24) r_3 [(x.1.1, r_1.2.1, r_2.2)]).bind fun r => some (Sum.inr
 (s.2.1, r)) else (bif eqM r_1.1 4 then m141 (r_1.1, r_1.2.1, r_1.2.2.1, r_1.2.2.2.1, r_1.2.2.2.2) else bif eqM r_1.1 5 then m141 (r_1.1, r_1.2.1, r_1.2.2.1,
 r_1.2.2.2.1, r_1.2.2.2.2) else none).bind fun r_2 => (appM (nat_lit 24) s.2.2 [(r_1.2.1, r_1.2.2.1, r_2.2)]).bind fun r_3 => (appM (nat_lit 24) r_3
 [(r_1.2.2.1, r_1.2.1, wrap .i64 (negM r_2.1))]).bind fun r => some (Sum.inr (s.2.1, r))).bind fun (o : Int × List (Int × Int × Int) ⊕ Int × List (Int × Int ×
 Int)) => Sum.elim (fun (t : Int × List (Int × Int × Int)) => some (Sum.inr (Sum.inr (t.1, t.2)))) (fun (t : Int × List (Int × Int × Int)) => some (Sum.inl
 (wrap .i64 (s.1 + 1), t.1, t.2))) o else some (Sum.inr (Sum.inl (s.2.1, s.2.2)))) (0, t.1, t.2)).bind fun (o : Int × List (Int × Int × Int) ⊕ Int × List (Int
 × Int × Int)) => Sum.elim (fun (t_1 : Int × List (Int × Int × Int)) => (m28F (x.1.1, x.1.2)).bind fun r_1 => (loopF (fun (s : Int × Int × List (Int × Int ×
 Int)) => bif ltM s.1 (lenM r_1.1.2) then (idxM r_1.1.2 s.1).bind fun r_2 => (appM (nat_lit 24) s.2.2 [(r_2.2, r_2.1, 0)]).bind fun r => some (Sum.inl (wrap
 .i64 (s.1 + 1), s.2.1, r)) else some (Sum.inr (s.2.1, s.2.2))) (0, t_1.1, t_1.2)).bind fun (o : Int × List (Int × Int × Int)) => some (o.1, o.2)) (fun (t :
 Int × List (Int × Int × Int)) => some (t.1, t.2)) o) (fun (t : Int × List (Int × Int × Int)) => some (t.1, t.2)) o).bind fun (o : Int × List (Int × Int ×
 Int)) => some ((o.1, o.2), 0)
theorem le24 (x) : Le (m24F x) (m24 x) := by
 unfold m24F m24
 repeat' first | with_reducible exact le20 _ | with_reducible exact le28 _ | with_reducible exact Le.refl _ | intro _ | apply Le.bind | apply Le.cond | apply Le.nil | apply Le.loop | apply Le.elim
noncomputable def m64F : (Int × List (Int × Int × Int)) → Option (Bool) :=
 fun (x : Int × List (Int × Int × Int)) => (m98 (x.1, 0, 16)).bind fun r => (bif PE.andM r (leM (lenM x.2) 60) then ((loopF (fun (s : Int) => bif ltM s (lenM
 x.2) then (idxM x.2 s).bind fun r_1 => (m102 (x.1, r_1.1, r_1.2.1, r_1.2.2)).bind fun r => bif PE.notM r then some (Sum.inr (Sum.inr s)) else some (Sum.inl
 (wrap .i64 (s + 1))) else some (Sum.inr (Sum.inl ()))) 0).bind fun (o : Unit ⊕ Int) => Sum.elim (fun (t : Unit) => some (-1)) (fun (t : Int) => some t)
 o).bind fun (ov : Int) => some (leM 0 ov) else some false).bind fun (ov : Bool) => some (PE.andM (PE.andM r (leM (lenM x.2) 60)) (PE.notM ov))
theorem le64 (x) : Le (m64F x) (m64 x) := by
 unfold m64F m64
 repeat' first | with_reducible exact Le.refl _ | intro _ | apply Le.bind | apply Le.cond | apply Le.nil | apply Le.loop | apply Le.elim
noncomputable def m104F : Int → Option (List (List Int)) :=
 fun (x : Int) => (mkM x x (nat_lit 24) []).bind fun r => (loopF (fun (s : Int × List (List Int)) => bif ltM s.1 x then (loopF (fun (s_1 : Int × List (List Int))
 => bif ltM s_1.1 x then (chkM s.1 (lenM s_1.2)).bind fun r_1 => (chkM s.1 (lenM s_1.2)).bind fun r_2 => (m144 (s.1, s_1.1)).bind fun r_3 => (app2M (nat_lit 8)
 s_1.2 s.1 [r_3]).bind fun r_4 => (chkM s.1 (lenM r_4)).bind fun r_5 => ((sameM s.1 s.1).bind fun (x : Unit) => (sameM s.1 s.1).bind fun (x : Unit) => chkM s.1
 (lenM r_4)).bind fun r => some (Sum.inl (wrap .i64 (s_1.1 + 1), r_4)) else some (Sum.inr s_1.2)) (0, s.2)).bind fun (o : List (List Int)) => some (Sum.inl
 (wrap .i64 (s.1 + 1), o)) else some (Sum.inr s.2)) (0, r)).bind fun (o : List (List Int)) => some o
theorem le104 (x) : Le (m104F x) (m104 x) := by
 unfold m104F m104
 repeat' first | with_reducible exact Le.refl _ | intro _ | apply Le.bind | apply Le.cond | apply Le.nil | apply Le.loop | apply Le.elim
noncomputable def m65F : (Int × List (Int × Int × Int)) → Option (List (List Int) × Bool) :=
 fun (x : Int × List (Int × Int × Int)) => (mkM x.1 x.1 (nat_lit 24) []).bind fun r => (loopF (fun (s : Int × List (List Int)) => bif ltM s.1 x.1 then (loopF
 (fun (s_1 : Int × List (List Int)) => bif ltM s_1.1 x.1 then (chkM s.1 (lenM s_1.2)).bind fun r_1 => (chkM s.1 (lenM s_1.2)).bind fun r_2 => (m144 (s.1,
 s_1.1)).bind fun r_3 => (app2M (nat_lit 8) s_1.2 s.1 [r_3]).bind fun r_4 => (chkM s.1 (lenM r_4)).bind fun r_5 => ((sameM s.1 s.1).bind fun (x : Unit) =>
 (sameM s.1 s.1).bind fun (x : Unit) => chkM s.1 (lenM r_4)).bind fun r => some (Sum.inl (wrap .i64 (s_1.1 + 1), r_4)) else some (Sum.inr s_1.2)) (0,
 s.2)).bind fun (o : List (List Int)) => some (Sum.inl (wrap .i64 (s.1 + 1), o)) else some (Sum.inr s.2)) (0, r)).bind fun (o : List (List Int)) => (loopF (fun
 (s : Int × List (List Int)) => bif ltM s.1 (lenM x.2) then (idxM x.2 s.1).bind fun r_1 => (chkM r_1.1 (lenM s.2)).bind fun r_2 => (chkM r_1.1 (lenM s.2)).bind
 fun r_3 => (chkM r_1.1 (lenM s.2)).bind fun r_4 => (chkM r_1.1 (lenM s.2)).bind fun r_5 => ((idxM s.2 r_1.1).bind fun (xs : List Int) => chkM r_1.2.1 (lenM
 xs)).bind fun r_6 => ((idxM s.2 r_1.1).bind fun (xs : List Int) => (idxM xs r_1.2.1).bind fun (x : Int) => some x).bind fun r_7 => ((idxM s.2 r_1.1).bind fun
 (xs : List Int) => chkM r_1.2.1 (lenM xs)).bind fun r_8 => (set2M s.2 r_1.1 r_1.2.1 fun (x : Int) => some (min r_7 r_1.2.2)).bind fun r => some (Sum.inl (wrap
 .i64 (s.1 + 1), r)) else some (Sum.inr s.2)) (0, o)).bind fun (o_1 : List (List Int)) => (loopF (fun (s : Int × List (List Int)) => bif ltM s.1 x.1 then (mkM
 x.1 x.1 (nat_lit 8) 0).bind fun r_1 => (chkM s.1 (lenM s.2)).bind fun r_2 => (chkM s.1 (lenM s.2)).bind fun r_3 => (idxM s.2 s.1).bind fun r_4 => (loopF (fun
 (s_1 : Int × List (List Int)) => bif ltM s_1.1 x.1 then (loopF (fun (s_2 : Int × List (List Int)) => bif ltM s_2.1 x.1 then (chkM s_1.1 (lenM s_2.2)).bind fun
 r_5 => (chkM s_1.1 (lenM s_2.2)).bind fun r_6 => (chkM s_1.1 (lenM s_2.2)).bind fun r_7 => (chkM s_1.1 (lenM s_2.2)).bind fun r_8 => ((idxM s_2.2 s_1.1).bind
 fun (xs : List Int) => chkM s_2.1 (lenM xs)).bind fun r_9 => ((idxM s_2.2 s_1.1).bind fun (xs : List Int) => (idxM xs s_2.1).bind fun (x : Int) => some
 x).bind fun r_10 => (chkM s_1.1 (lenM s_2.2)).bind fun r_11 => (chkM s_1.1 (lenM s_2.2)).bind fun r_12 => ((idxM s_2.2 s_1.1).bind fun (xs : List Int) => chkM
 s.1 (lenM xs)).bind fun r_13 => ((idxM s_2.2 s_1.1).bind fun (xs : List Int) => (idxM xs s.1).bind fun (x : Int) => some x).bind fun r_14 => (chkM s_2.1 (lenM
 (copyM r_1 r_4))).bind fun r_15 => (idxM (copyM r_1 r_4) s_2.1).bind fun r_16 => (m88 (r_14, r_16)).bind fun r_17 => ((idxM s_2.2 s_1.1).bind fun (xs : List
 Int) => chkM s_2.1 (lenM xs)).bind fun r_18 => (set2M s_2.2 s_1.1 s_2.1 fun (x : Int) => some (min r_10 r_17)).bind fun r => some (Sum.inl (wrap .i64 (s_2.1 +
 1), r)) else some (Sum.inr s_2.2)) (0, s_1.2)).bind fun (o : List (List Int)) => some (Sum.inl (wrap .i64 (s_1.1 + 1), o)) else some (Sum.inr s_1.2)) (0,
 s.2)).bind fun (o : List (List Int)) => some (Sum.inl (wrap .i64 (s.1 + 1), o)) else some (Sum.inr s.2)) (0, o_1)).bind fun (o_2 : List (List Int)) => (loopF
 (fun (s : Int) => bif ltM s x.1 then (chkM s (lenM o_2)).bind fun r_1 => (chkM s (lenM o_2)).bind fun r_2 => ((idxM o_2 s).bind fun (xs : List Int) => chkM s
 (lenM xs)).bind fun r_3 => ((idxM o_2 s).bind fun (xs : List Int) => (idxM xs s).bind fun (x : Int) => some x).bind fun r => bif ltM r 0 then some (Sum.inr
 (Sum.inr false)) else some (Sum.inl (wrap .i64 (s + 1))) else some (Sum.inr (Sum.inl ()))) 0).bind fun (o : Unit ⊕ Bool) => Sum.elim (fun (t : Unit) => some
 (o_2, true)) (fun (t : Bool) => some ([], t)) o
theorem le65 (x) : Le (m65F x) (m65 x) := by
 unfold m65F m65
 repeat' first | with_reducible exact Le.refl _ | intro _ | apply Le.bind | apply Le.cond | apply Le.nil | apply Le.loop | apply Le.elim
noncomputable def m25F : (Int × List (Int × Int × Int)) → Option (List (List Int) × Int) :=
 fun (x : Int × List (Int × Int × Int)) => (m64F (x.1, x.2)).bind fun r => bif PE.notM r then some ([], 90) else (m65F (x.1, x.2)).bind fun r => bif PE.notM r.2
 then some ([], 90) else some (r.1, 0)
theorem le25 (x) : Le (m25F x) (m25 x) := by
 unfold m25F m25
 repeat' first | with_reducible exact le64 _ | with_reducible exact le65 _ | with_reducible exact Le.refl _ | intro _ | apply Le.bind | apply Le.cond | apply Le.nil | apply Le.loop | apply Le.elim
noncomputable def m17F : ((Int × List (Int × Int)) × List (Int × Int × Int × Int × Int)) → Option ((List (Int × Int)) × Int) :=
 fun (x : (Int × List (Int × Int)) × List (Int × Int × Int × Int × Int)) => (m24F ((x.1.1, x.1.2), x.2)).bind fun r => (m25F (r.1.1, r.1.2)).bind fun r_1 => bif
 PE.orM (PE.notM (eqM r.2 0)) (PE.notM (eqM r_1.2 0)) then some ([], 220) else (loopF (fun (s : Int × List (Int × Int)) => bif ltM s.1 x.1.1 then (idxM r_1.1
 s.1).bind fun r_2 => (idxM r_2 x.1.1).bind fun r_3 => (idxM r_1.1 x.1.1).bind fun r_4 => (idxM r_4 s.1).bind fun r_5 => (appM (nat_lit 16) s.2 [(wrap .i64
 (negM r_3), wrap .i64 (r_5 + 1))]).bind fun r => some (Sum.inl (wrap .i64 (s.1 + 1), r)) else some (Sum.inr s.2)) (0, [])).bind fun (o : List (Int × Int)) =>
 some (o, 0)
theorem le17 (x) : Le (m17F x) (m17 x) := by
 unfold m17F m17
 repeat' first | with_reducible exact le24 _ | with_reducible exact le25 _ | with_reducible exact Le.refl _ | intro _ | apply Le.bind | apply Le.cond | apply Le.nil | apply Le.loop | apply Le.elim
noncomputable def m62F : (((Int × List (Int × Int)) × List (Int × Int × Int × Int × Int)) × Int × Int × Int) → Option ((Int × List (Int × Int × Int)) × (Int × Int × Int) × Bool) :=
 fun (x : ((Int × List (Int × Int)) × List (Int × Int × Int × Int × Int)) × Int × Int × Int) => (m24F ((x.1.1.1, x.1.1.2), x.1.2)).bind fun r => (bif eqM r.2 0
 then m54 (x.2.1, 0, wrap .i64 (x.1.1.1 - 1)) else some false).bind fun r_1 => (bif PE.andM (eqM r.2 0) r_1 then m54 (x.2.2.1, 0, wrap .i64 (x.1.1.1 - 1)) else
 some false).bind fun r_2 => (bif PE.andM (PE.andM (eqM r.2 0) r_1) r_2 then m54 (x.2.2.2, (-2100), 2100) else some false).bind fun r_3 => some ((r.1.1,
 r.1.2), (x.2.2.1, x.2.1, wrap .i64 (negM x.2.2.2)), PE.andM (PE.andM (PE.andM (eqM r.2 0) r_1) r_2) r_3)
theorem le62 (x) : Le (m62F x) (m62 x) := by
 unfold m62F m62
 repeat' first | with_reducible exact le24 _ | with_reducible exact Le.refl _ | intro _ | apply Le.bind | apply Le.cond | apply Le.nil | apply Le.loop | apply Le.elim
noncomputable def m89F : ((Int × List (Int × Int × Int)) × List (List (List Int)) × Int × Int × Int × Int) → Option (List Int) :=
 fun (x : (Int × List (Int × Int × Int)) × List (List (List Int)) × Int × Int × Int × Int) => (loopF (fun (s : Int × Int × Int × List Int) => bif ltM 0 s.2.1
 then ((loopF (fun (s_1 : Int) => bif ltM s_1 (lenM x.1.2) then (idxM x.1.2 s_1).bind fun r => (bif eqM r.1 s.1 then idxM x.2.1 (wrap .i64 (s.2.1 - 1)) else
 some []).bind fun r_1 => (bif eqM r.1 s.1 then idxM r_1 r.2.1 else some []).bind fun r_2 => (bif eqM r.1 s.1 then idxM r_2 x.2.2.2.1 else some 0).bind fun r_3
 => (bif eqM r.1 s.1 then m88 (r.2.2, r_3) else some 0).bind fun r_4 => bif PE.andM (eqM r.1 s.1) (leM r_4 s.2.2.1) then some (Sum.inr (Sum.inr s_1)) else some
 (Sum.inl (wrap .i64 (s_1 + 1))) else some (Sum.inr (Sum.inl ()))) 0).bind fun (o : Unit ⊕ Int) => Sum.elim (fun (t : Unit) => some (-1)) (fun (t : Int) =>
 some t) o).bind fun (ov : Int) => (idxM x.1.2 ov).bind fun r => (idxM x.1.2 ov).bind fun r_1 => (appM (nat_lit 8) s.2.2.2 [ov]).bind fun r_2 => some (Sum.inl
 (r.2.1, wrap .i64 (s.2.1 - 1), wrap .i64 (s.2.2.1 - r_1.2.2), r_2)) else some (Sum.inr (s.1, s.2.1, s.2.2.1, s.2.2.2))) (x.2.2.1, x.2.2.2.2.1, x.2.2.2.2.2,
 [])).bind fun (o : Int × Int × Int × List Int) => some o.2.2.2
theorem le89 (x) : Le (m89F x) (m89 x) := by
 unfold m89F m89
 repeat' first | with_reducible exact Le.refl _ | intro _ | apply Le.bind | apply Le.cond | apply Le.nil | apply Le.loop | apply Le.elim
noncomputable def m63F : ((Int × List (Int × Int × Int)) × Int × Int × Int) → Option (List Int × Bool) :=
 fun (x : (Int × List (Int × Int × Int)) × Int × Int × Int) => (m64F (x.1.1, x.1.2)).bind fun r => (bif PE.notM (PE.notM r) then m102 (x.1.1, x.2.1, x.2.2.1,
 x.2.2.2) else some false).bind fun r_1 => bif PE.orM (PE.notM r) (PE.notM r_1) then some ([], false) else (m65F (x.1.1, x.1.2)).bind fun r_2 => (bif PE.notM
 (PE.notM r_2.2) then idxM r_2.1 x.2.1 else some []).bind fun r_3 => (bif PE.notM (PE.notM r_2.2) then idxM r_3 x.2.2.1 else some 0).bind fun r_4 => bif PE.orM
 (PE.notM r_2.2) (ltM x.2.2.2 r_4) then some ([], false) else (m104F x.1.1).bind fun r_5 => (loopF (fun (s : List (List Int) × List (List (List Int))) => (appM
 (nat_lit 24) s.2 [s.1]).bind fun r_6 => (idxM s.1 x.2.1).bind fun r_7 => (idxM r_7 x.2.2.1).bind fun r_8 => bif leM r_8 x.2.2.2 then some (Sum.inr r_6) else
 (mkM x.1.1 x.1.1 (nat_lit 24) []).bind fun r_9 => (loopF (fun (s_1 : Int × List (List Int)) => bif ltM s_1.1 x.1.1 then (loopF (fun (s_2 : Int × List (List
 Int)) => bif ltM s_2.1 x.1.1 then (chkM s_1.1 (lenM s_2.2)).bind fun r_10 => (chkM s_1.1 (lenM s_2.2)).bind fun r_11 => (m135 (s_1.1, s_2.1)).bind fun r_12 =>
 (app2M (nat_lit 8) s_2.2 s_1.1 [r_12]).bind fun r_13 => (chkM s_1.1 (lenM r_13)).bind fun r_14 => ((sameM s_1.1 s_1.1).bind fun (x : Unit) => (sameM s_1.1
 s_1.1).bind fun (x : Unit) => chkM s_1.1 (lenM r_13)).bind fun r => some (Sum.inl (wrap .i64 (s_2.1 + 1), r_13)) else some (Sum.inr s_2.2)) (0, s_1.2)).bind
 fun (o : List (List Int)) => some (Sum.inl (wrap .i64 (s_1.1 + 1), o)) else some (Sum.inr s_1.2)) (0, r_9)).bind fun (o : List (List Int)) => (loopF (fun (s_1
 : Int × List (List Int)) => bif ltM s_1.1 (lenM x.1.2) then (idxM x.1.2 s_1.1).bind fun r_10 => (loopF (fun (s_2 : Int × List (List Int)) => bif ltM s_2.1
 x.1.1 then (chkM s_2.1 (lenM s_2.2)).bind fun r_11 => (chkM s_2.1 (lenM s_2.2)).bind fun r_12 => (chkM s_2.1 (lenM s_2.2)).bind fun r_13 => (chkM s_2.1 (lenM
 s_2.2)).bind fun r_14 => ((idxM s_2.2 s_2.1).bind fun (xs : List Int) => chkM r_10.2.1 (lenM xs)).bind fun r_15 => ((idxM s_2.2 s_2.1).bind fun (xs : List
 Int) => (idxM xs r_10.2.1).bind fun (x : Int) => some x).bind fun r_16 => (idxM s.1 s_2.1).bind fun r_17 => (idxM r_17 r_10.1).bind fun r_18 => (m88 (r_18,
 r_10.2.2)).bind fun r_19 => ((idxM s_2.2 s_2.1).bind fun (xs : List Int) => chkM r_10.2.1 (lenM xs)).bind fun r_20 => (set2M s_2.2 s_2.1 r_10.2.1 fun (x :
 Int) => some (min r_16 r_19)).bind fun r => some (Sum.inl (wrap .i64 (s_2.1 + 1), r)) else some (Sum.inr s_2.2)) (0, s_1.2)).bind fun (o : List (List Int)) =>
 some (Sum.inl (wrap .i64 (s_1.1 + 1), o)) else some (Sum.inr s_1.2)) (0, o)).bind fun (o : List (List Int)) => some (Sum.inl (o, r_6))) (r_5, [])).bind fun (o
 : List (List (List Int))) => (m89F ((x.1.1, x.1.2), o, x.2.1, x.2.2.1, wrap .i64 (lenM o - 1), x.2.2.2)).bind fun r => some (r, true)
theorem le63 (x) : Le (m63F x) (m63 x) := by
 unfold m63F m63
 repeat' first | with_reducible exact le64 _ | with_reducible exact le65 _ | with_reducible exact le89 _ | with_reducible exact le104 _ | with_reducible exact Le.refl _ | intro _ | apply Le.bind | apply Le.cond | apply Le.nil | apply Le.loop | apply Le.elim
noncomputable def m23F : (((Int × List (Int × Int)) × List (Int × Int × Int × Int × Int)) × Int × Int × Int) → Option (List Int × Bool) :=
 fun (x : ((Int × List (Int × Int)) × List (Int × Int × Int × Int × Int)) × Int × Int × Int) => (m62F (((x.1.1.1, x.1.1.2), x.1.2), x.2.1, x.2.2.1,
 x.2.2.2)).bind fun r => bif PE.notM r.2.2 then some ([], false) else (m63F ((r.1.1, r.1.2), r.2.1.1, r.2.1.2.1, r.2.1.2.2)).bind fun r => some (r.1, r.2)
theorem le23 (x) : Le (m23F x) (m23 x) := by
 unfold m23F m23
 repeat' first | with_reducible exact le62 _ | with_reducible exact le63 _ | with_reducible exact Le.refl _ | intro _ | apply Le.bind | apply Le.cond | apply Le.nil | apply Le.loop | apply Le.elim
noncomputable def m50F : (Int × List (Int × Int × Int)) → Option (List Int × Bool) :=
 fun (x : Int × List (Int × Int × Int)) => (m64F (x.1, x.2)).bind fun r => bif PE.notM r then some ([], false) else (m65F (x.1, x.2)).bind fun r_1 => bif r_1.2
 then some ([], false) else (m104F x.1).bind fun r_2 => (loopF (fun (s : List (List Int) × List (List (List Int))) => (appM (nat_lit 24) s.2 [s.1]).bind fun
 r_3 => (loopF (fun (s_1 : Int) => bif ltM s_1 (lenM x.2) then (idxM x.2 s_1).bind fun r_4 => (bif ltM 0 (wrap .i64 (lenM r_3 - 1)) then chkM (wrap .i64 (wrap
 .i64 (lenM r_3 - 1) - 1)) (lenM r_3) else some ()).bind fun r_5 => (bif ltM 0 (wrap .i64 (lenM r_3 - 1)) then idxM r_3 (wrap .i64 (wrap .i64 (lenM r_3 - 1) -
 1)) else some []).bind fun r_6 => (bif ltM 0 (wrap .i64 (lenM r_3 - 1)) then idxM r_6 r_4.2.1 else some []).bind fun r_7 => (bif ltM 0 (wrap .i64 (lenM r_3 -
 1)) then idxM r_7 r_4.1 else some 0).bind fun r_8 => (bif ltM 0 (wrap .i64 (lenM r_3 - 1)) then m88 (r_4.2.2, r_8) else some 0).bind fun r_9 => bif PE.andM
 (ltM 0 (wrap .i64 (lenM r_3 - 1))) (ltM r_9 0) then (m89F ((x.1, x.2), r_3, r_4.2.1, r_4.1, wrap .i64 (wrap .i64 (lenM r_3 - 1) - 1), wrap .i64 ((-1) -
 r_4.2.2))).bind fun r_10 => (appM (nat_lit 8) [s_1] r_10).bind fun r => some (Sum.inr (Sum.inr (r, true, r_3))) else some (Sum.inl (wrap .i64 (s_1 + 1))) else
 some (Sum.inr (Sum.inl ()))) 0).bind fun (o : Unit ⊕ List Int × Bool × List (List (List Int))) => Sum.elim (fun (t : Unit) => (mkM x.1 x.1 (nat_lit 24)
 []).bind fun r_4 => (loopF (fun (s_1 : Int × List (List Int)) => bif ltM s_1.1 x.1 then (loopF (fun (s_2 : Int × List (List Int)) => bif ltM s_2.1 x.1 then
 (chkM s_1.1 (lenM s_2.2)).bind fun r_5 => (chkM s_1.1 (lenM s_2.2)).bind fun r_6 => (m135 (s_1.1, s_2.1)).bind fun r_7 => (app2M (nat_lit 8) s_2.2 s_1.1
 [r_7]).bind fun r_8 => (chkM s_1.1 (lenM r_8)).bind fun r_9 => ((sameM s_1.1 s_1.1).bind fun (x : Unit) => (sameM s_1.1 s_1.1).bind fun (x : Unit) => chkM
 s_1.1 (lenM r_8)).bind fun r => some (Sum.inl (wrap .i64 (s_2.1 + 1), r_8)) else some (Sum.inr s_2.2)) (0, s_1.2)).bind fun (o : List (List Int)) => some
 (Sum.inl (wrap .i64 (s_1.1 + 1), o)) else some (Sum.inr s_1.2)) (0, r_4)).bind fun (o : List (List Int)) => (loopF (fun (s_1 : Int × List (List Int)) => bif
 ltM s_1.1 (lenM x.2) then (idxM x.2 s_1.1).bind fun r_5 => (loopF (fun (s_2 : Int × List (List Int)) => bif ltM s_2.1 x.1 then (chkM s_2.1 (lenM s_2.2)).bind
 fun r_6 => (chkM s_2.1 (lenM s_2.2)).bind fun r_7 => (chkM s_2.1 (lenM s_2.2)).bind fun r_8 => (chkM s_2.1 (lenM s_2.2)).bind fun r_9 => ((idxM s_2.2
 s_2.1).bind fun (xs : List Int) => chkM r_5.2.1 (lenM xs)).bind fun r_10 => ((idxM s_2.2 s_2.1).bind fun (xs : List Int) => (idxM xs r_5.2.1).bind fun (x :
 Int) => some x).bind fun r_11 => (idxM s.1 s_2.1).bind fun r_12 => (idxM r_12 r_5.1).bind fun r_13 => (m88 (r_13, r_5.2.2)).bind fun r_14 => ((idxM s_2.2
 s_2.1).bind fun (xs : List Int) => chkM r_5.2.1 (lenM xs)).bind fun r_15 => (set2M s_2.2 s_2.1 r_5.2.1 fun (x : Int) => some (min r_11 r_14)).bind fun r =>
 some (Sum.inl (wrap .i64 (s_2.1 + 1), r)) else some (Sum.inr s_2.2)) (0, s_1.2)).bind fun (o : List (List Int)) => some (Sum.inl (wrap .i64 (s_1.1 + 1), o))
 else some (Sum.inr s_1.2)) (0, o)).bind fun (o : List (List Int)) => some (Sum.inl (o, r_3))) (fun (t : List Int × Bool × List (List (List Int))) => some
 (Sum.inr (t.1, t.2.1, t.2.2))) o) (r_2, [])).bind fun (o : List Int × Bool × List (List (List Int))) => some (o.1, o.2.1)
theorem le50 (x) : Le (m50F x) (m50 x) := by
 unfold m50F m50
 repeat' first | with_reducible exact le64 _ | with_reducible exact le65 _ | with_reducible exact le89 _ | with_reducible exact le104 _ | with_reducible exact Le.refl _ | intro _ | apply Le.bind | apply Le.cond | apply Le.nil | apply Le.loop | apply Le.elim
noncomputable def m16F : ((Int × List (Int × Int)) × List (Int × Int × Int × Int × Int)) → Option (List Int × Bool) :=
 fun (x : (Int × List (Int × Int)) × List (Int × Int × Int × Int × Int)) => (m24F ((x.1.1, x.1.2), x.2)).bind fun r => (m50F (r.1.1, r.1.2)).bind fun r_1 => bif
 PE.orM (PE.notM (eqM r.2 0)) (PE.notM r_1.2) then some ([], false) else ((loopF (fun (s : Int × List Int) => bif ltM s.1 x.1.1 then (appM (nat_lit 8) s.2
 [(-1)]).bind fun r_2 => (appM (nat_lit 8) r_2 [(-1)]).bind fun r => some (Sum.inl (wrap .i64 (s.1 + 1), r)) else some (Sum.inr (Sum.inl s.2))) (0, [])).bind
 fun (o : List Int ⊕ List Int) => Sum.elim (fun (t : List Int) => (loopF (fun (s : Int × List Int) => bif ltM s.1 (lenM x.2) then ((idxM x.2 s.1).bind fun r_2
 => bif PE.orM (eqM r_2.1 1) (PE.orM (eqM r_2.1 2) (eqM r_2.1 3)) then (bif eqM r_2.1 1 then m138 (r_2.1, r_2.2.1, r_2.2.2.1, r_2.2.2.2.1, r_2.2.2.2.2) else
 bif eqM r_2.1 2 then m139 (r_2.1, r_2.2.1, r_2.2.2.1, r_2.2.2.2.1, r_2.2.2.2.2) else bif eqM r_2.1 3 then m140 (r_2.1, r_2.2.1, r_2.2.2.1, r_2.2.2.2.1,
 r_2.2.2.2.2) else none).bind fun r_3 => (appM (nat_lit 8) s.2 [s.1]).bind fun r_4 => (appM (nat_lit 8) r_4 [s.1]).bind fun r => some (Sum.inr r) else (bif eqM
 r_2.1 4 then m141 (r_2.1, r_2.2.1, r_2.2.2.1, r_2.2.2.2.1, r_2.2.2.2.2) else bif eqM r_2.1 5 then m141 (r_2.1, r_2.2.1, r_2.2.2.1, r_2.2.2.2.1, r_2.2.2.2.2)
 else none).bind fun r_3 => (appM (nat_lit 8) s.2 [s.1]).bind fun r_4 => (appM (nat_lit 8) r_4 [s.1]).bind fun r => some (Sum.inr r)).bind fun (o : List Int ⊕
 List Int) => Sum.elim (fun (t : List Int) => some (Sum.inr (Sum.inr t))) (fun (t : List Int) => some (Sum.inl (wrap .i64 (s.1 + 1), t))) o else some (Sum.inr
 (Sum.inl s.2))) (0, t)).bind fun (o : List Int ⊕ List Int) => Sum.elim (fun (t_1 : List Int) => (m28F (x.1.1, x.1.2)).bind fun r_2 => (loopF (fun (s : Int ×
 List Int) => bif ltM s.1 (lenM r_2.1.2) then (idxM r_2.1.2 s.1).bind fun r_3 => (appM (nat_lit 8) s.2 [wrap .i64 (lenM x.2 + s.1)]).bind fun r => some
 (Sum.inl (wrap .i64 (s.1 + 1), r)) else some (Sum.inr s.2)) (0, t_1)).bind fun (o : List Int) => some o) (fun (t : List Int) => some t) o) (fun (t : List Int)
 => some t) o).bind fun (o : List Int) => (loopF (fun (s : Int × List Int) => bif ltM s.1 (lenM r_1.1) then ((idxM r_1.1 s.1).bind fun r_2 => (chkM r_2 (lenM
 o)).bind fun r_3 => (idxM o r_2).bind fun r_4 => bif leM 0 r_4 then (chkM r_2 (lenM o)).bind fun r_5 => (idxM o r_2).bind fun r_6 => (appM (nat_lit 8) s.2
 [r_6]).bind fun r => some r else some s.2).bind fun (o : List Int) => some (Sum.inl (wrap .i64 (s.1 + 1), o)) else some (Sum.inr s.2)) (0, [])).bind fun (o_1
 : List Int) => (sortI o_1).bind fun r_2 => (compI r_2).bind fun r => some (r, true)
theorem le16 (x) : Le (m16F x) (m16 x) := by
 unfold m16F m16
 repeat' first | with_reducible exact le24 _ | with_reducible exact le28 _ | with_reducible exact le50 _ | with_reducible exact Le.refl _ | intro _ | apply Le.bind | apply Le.cond | apply Le.nil | apply Le.loop | apply Le.elim
noncomputable def m182F : (Bool × Int × Int) → Option (Int) :=
 fun (x : Bool × Int × Int) => (divM IntKind.i64 (wrap .i64 (wrap .i64 (x.2.1 + 4) - 1)) 4).bind fun r => (remM x.2.1 4).bind fun r_1 => (bif x.1 then (divM
 IntKind.i64 (wrap .i64 (wrap .i64 (x.2.1 + 100) - 1)) 100).bind fun r_2 => (divM IntKind.i64 (wrap .i64 (wrap .i64 (x.2.1 + 400) - 1)) 400).bind fun r_3 =>
 (bif eqM r_1 0 then remM x.2.1 100 else some 0).bind fun r_4 => (bif PE.notM (PE.andM (eqM r_1 0) (PE.notM (eqM r_4 0))) then remM x.2.1 400 else some 0).bind
 fun r_5 => some (wrap .i64 (wrap .i64 (wrap .i64 (365 * x.2.1) + r) + wrap .i64 (wrap .i64 (2 - r_2) + r_3)), PE.orM (PE.andM (eqM r_1 0) (PE.notM (eqM r_4
 0))) (eqM r_5 0)) else some (wrap .i64 (wrap .i64 (365 * x.2.1) + r), eqM r_1 0)).bind fun (o : Int × Bool) => (loopF (fun (s : Int × Int) => bif ltM s.2
 x.2.2 then ((idxM [0, 31, 28, 31, 30, 31, 30, 31, 31, 30, 31, 30, 31] s.2).bind fun r => bif PE.andM (eqM s.2 2) o.2 then some (wrap .i64 (wrap .i64 (s.1 + r)
 + 1)) else some (wrap .i64 (s.1 + r))).bind fun (o : Int) => some (Sum.inl (o, wrap .i64 (s.2 + 1))) else some (Sum.inr s.1)) (o.1, 1)).bind fun (o : Int) =>
 some o
theorem le182 (x) : Le (m182F x) (m182 x) := by
 unfold m182F m182
 repeat' first | with_reducible exact Le.refl _ | intro _ | apply Le.bind | apply Le.cond | apply Le.nil | apply Le.loop | apply Le.elim
noncomputable def m200F : (Bool × Int) → Option (Int) :=
 fun (x : Bool × Int) => (remM x.2 19).bind fun r => (divM IntKind.i64 x.2 100).bind fun r_1 => (bif x.1 then (divM IntKind.i64 (wrap .i64 (13 + wrap .i64 (8 *
 r_1))) 25).bind fun r_2 => (divM IntKind.i64 r_1 4).bind fun r => some (wrap .i64 (15 + wrap .i64 (wrap .i64 (r_1 - r_2) - r))) else some 15).bind fun (o :
 Int) => (remM (wrap .i64 (wrap .i64 (19 * r) + o)) 30).bind fun r_2 => (bif PE.andM x.1 (PE.orM (eqM r_2 29) (PE.andM (eqM r_2 28) (ltM 10 r))) then some
 (wrap .i64 (r_2 - 1)) else some r_2).bind fun (o_1 : Int) => (m182F (x.1, x.2, 3)).bind fun r_3 => (remM (wrap .i64 (wrap .i64 (wrap .i64 (r_3 + 20) + o_1) +
 4)) 7).bind fun r => some (wrap .i64 (wrap .i64 (wrap .i64 (wrap .i64 (r_3 + 20) + o_1) + 7) - r))
theorem le200 (x) : Le (m200F x) (m200 x) := by
 unfold m200F m200
 repeat' first | with_reducible exact le182 _ | with_reducible exact Le.refl _ | intro _ | apply Le.bind | apply Le.cond | apply Le.nil | apply Le.loop | apply Le.elim
noncomputable def m181F : ((Int × Int) × Int) → Option (Int) :=
 fun (x : (Int × Int) × Int) => (m200F (false, x.2)).bind fun r => bif ltM r x.1.1 then some r else (m200F (true, x.2)).bind fun r => some r
theorem le181 (x) : Le (m181F x) (m181 x) := by
 unfold m181F m181
 repeat' first | with_reducible exact le200 _ | with_reducible exact Le.refl _ | intro _ | apply Le.bind | apply Le.cond | apply Le.nil | apply Le.loop | apply Le.elim
noncomputable def m158F : (Bool × Int) → Option (Int × Int × Int) :=
 fun (x : Bool × Int) => (loopF (fun (s : Int × Int) => bif ltM s.1 s.2 then (shrM IntKind.u64 (IntKind.wrap IntKind.u64 (wrap .i64 (s.1 + s.2))) 1).bind fun r
 => (m182F (x.1, wrap .i64 (wrap .i64 r + 1), 1)).bind fun r_1 => bif PE.notM (ltM x.2 r_1) then some (Sum.inl (wrap .i64 (wrap .i64 r + 1), s.2)) else some
 (Sum.inl (s.1, wrap .i64 r)) else some (Sum.inr s.1)) (0, 2200)).bind fun (o : Int) => (loopF (fun (s : Int × Int) => bif ltM s.1 s.2 then (shrM IntKind.u64
 (IntKind.wrap IntKind.u64 (wrap .i64 (s.1 + s.2))) 1).bind fun r => (m182F (x.1, o, wrap .i64 (wrap .i64 r + 2))).bind fun r_1 => bif PE.notM (ltM x.2 r_1)
 then some (Sum.inl (wrap .i64 (wrap .i64 r + 1), s.2)) else some (Sum.inl (s.1, wrap .i64 r)) else some (Sum.inr s.1)) (0, 11)).bind fun (o_1 : Int) => (m182F
 (x.1, o, wrap .i64 (1 + o_1))).bind fun r => some (o, wrap .i64 (1 + o_1), wrap .i64 (wrap .i64 (x.2 - r) + 1))
theorem le158 (x) : Le (m158F x) (m158 x) := by
 unfold m158F m158
 repeat' first | with_reducible exact le182 _ | with_reducible exact Le.refl _ | intro _ | apply Le.bind | apply Le.cond | apply Le.nil | apply Le.loop | apply Le.elim
noncomputable def m119F : ((Int × Int) × Int) → Option (Int × Int × Int) :=
 fun (x : (Int × Int) × Int) => (m158F (leM x.1.1 x.2, x.2)).bind fun r => some (r.1, r.2.1, r.2.2)
theorem le119 (x) : Le (m119F x) (m119 x) := by
 unfold m119F m119
 repeat' first | with_reducible exact le158 _ | with_reducible exact Le.refl _ | intro _ | apply Le.bind | apply Le.cond | apply Le.nil | apply Le.loop | apply Le.elim
noncomputable def m164F : List Int → Option (Int) :=
 fun (x : List Int) => (loopF (fun (s : Int) => bif ltM s (lenM x) then (idxM x s).bind fun r => bif PE.notM (eqM r 0) then some (Sum.inr (Sum.inr r)) else some
 (Sum.inl (wrap .i64 (s + 1))) else some (Sum.inr (Sum.inl ()))) 0).bind fun (o : Unit ⊕ Int) => Sum.elim (fun (t : Unit) => some 0) (fun (t : Int) => some t)
 o
theorem le164 (x) : Le (m164F x) (m164 x) := by
 unfold m164F m164
 repeat' first | with_reducible exact Le.refl _ | intro _ | apply Le.bind | apply Le.cond | apply Le.nil | apply Le.loop | apply Le.elim
noncomputable def m199F : ((Int × Int × Int) × Int × Int × Int) → Option (Int) :=
 fun (x : (Int × Int × Int) × Int × Int × Int) => (m157 (x.1.1, x.2.1)).bind fun r => (m157 (x.1.2.1, x.2.2.1)).bind fun r_1 => (m157 (x.1.2.2, x.2.2.2)).bind
 fun r_2 => (m164F [r, r_1, r_2]).bind fun r => some r
theorem le199 (x) : Le (m199F x) (m199 x) := by
 unfold m199F m199
 repeat' first | with_reducible exact le164 _ | with_reducible exact Le.refl _ | intro _ | apply Le.bind | apply Le.cond | apply Le.nil | apply Le.loop | apply Le.elim
noncomputable def m180F : ((Int × Int) × Int × Int × Int) → Option (Int) :=
 fun (x : (Int × Int) × Int × Int × Int) => (loopF (fun (s : Int × Int) => bif ltM s.1 s.2 then (shrM IntKind.u64 (IntKind.wrap IntKind.u64 (wrap .i64 (s.1 +
 s.2))) 1).bind fun r => (m119F ((x.1.1, x.1.2), wrap .i64 r)).bind fun r_1 => (m199F ((r_1.1, r_1.2.1, r_1.2.2), x.2.1, x.2.2.1, x.2.2.2)).bind fun r_2 => bif
 PE.notM (leM 0 r_2) then some (Sum.inl (wrap .i64 (wrap .i64 r + 1), s.2)) else some (Sum.inl (s.1, wrap .i64 r)) else some (Sum.inr s.1)) (0, 800001)).bind
 fun (o : Int) => some o
theorem le180 (x) : Le (m180F x) (m180 x) := by
 unfold m180F m180
 repeat' first | with_reducible exact le119 _ | with_reducible exact le199 _ | with_reducible exact Le.refl _ | intro _ | apply Le.bind | apply Le.cond | apply Le.nil | apply Le.loop | apply Le.elim
noncomputable def m178F : ((Int × Int) × Int) → Option (Int) :=
 fun (x : (Int × Int) × Int) => bif eqM x.1.2 4 then (m181F ((x.1.1, x.1.2), x.2)).bind fun r => some r else bif eqM x.1.2 2 then (m180F ((x.1.1, x.1.2), x.2, 3,
 25)).bind fun r => some r else bif eqM x.1.2 3 then (m180F ((x.1.1, x.1.2), wrap .i64 (x.2 - 1), 3, 25)).bind fun r => some r else bif eqM x.1.2 5 then (m180F
 ((x.1.1, x.1.2), wrap .i64 (x.2 - 1), 9, 1)).bind fun r => some r else (m180F ((x.1.1, x.1.2), x.2, 1, 1)).bind fun r => some r
theorem le178 (x) : Le (m178F x) (m178 x) := by
 unfold m178F m178
 repeat' first | with_reducible exact le180 _ | with_reducible exact le181 _ | with_reducible exact Le.refl _ | intro _ | apply Le.bind | apply Le.cond | apply Le.nil | apply Le.loop | apply Le.elim
noncomputable def m148F : ((Int × Int) × Int) → Option ((Int × Int) × Int) :=
 fun (x : (Int × Int) × Int) => (m110 (x.1.1, x.1.2)).bind fun r => (bif PE.notM (PE.notM r) then m118 (x.2, 0, 2100) else some false).bind fun r_1 => bif PE.orM
 (PE.notM r) (PE.notM r_1) then some ((0, 0), 200) else (m178F ((x.1.1, x.1.2), x.2)).bind fun r_2 => (m178F ((x.1.1, x.1.2), wrap .i64 (x.2 + 1))).bind fun r
 => some ((r_2, r), 0)
theorem le148 (x) : Le (m148F x) (m148 x) := by
 unfold m148F m148
 repeat' first | with_reducible exact le178 _ | with_reducible exact Le.refl _ | intro _ | apply Le.bind | apply Le.cond | apply Le.nil | apply Le.loop | apply Le.elim
noncomputable def m113F : ((Int × Int) × (List (Int × Int × Int)) × Int × Int × Int × Int × Int × Int × Int) → Option (List (Int × Int)) :=
 fun (x : (Int × Int) × List (Int × Int × Int) × Int × Int × Int × Int × Int × Int × Int) => (bif ltM x.2.2.2.2.2.2.2.2 0 then (m148F ((x.1.1, x.1.2),
 x.2.2.2.2.2.2.2.1)).bind fun r => bif eqM r.2 0 then (appM (nat_lit 16) [] [(r.1.1, r.1.2)]).bind fun r => some r else some [] else some []).bind fun (o :
 List (Int × Int)) => (loopF (fun (s : Unit) => bif ltM 0 (lenM x.2.1) then (idxM x.2.1 0).bind fun r => none else some (Sum.inr ())) ()).bind fun (o_1 : Unit)
 => (sortM (Ty.pair (Ty.int IntKind.i64) (Ty.int IntKind.i64)) cf156 o).bind fun r => (loopF (fun (s : Int × List (Int × Int)) => bif ltM s.1 (lenM r) then
 ((chkM s.1 (lenM r)).bind fun r_1 => (idxM r s.1).bind fun r_2 => (bif ltM 0 (lenM s.2) then chkM (wrap .i64 (lenM s.2 - 1)) (lenM s.2) else some ()).bind fun
 r_3 => (bif ltM 0 (lenM s.2) then (idxM s.2 (wrap .i64 (lenM s.2 - 1))).bind fun (x : Int × Int) => some x.2 else some 0).bind fun r_4 => bif PE.andM (ltM 0
 (lenM s.2)) (leM r_2.1 r_4) then (chkM (wrap .i64 (lenM s.2 - 1)) (lenM s.2)).bind fun r_5 => ((idxM s.2 (wrap .i64 (lenM s.2 - 1))).bind fun (x : Int × Int)
 => some x.2).bind fun r_6 => (chkM (wrap .i64 (lenM s.2 - 1)) (lenM s.2)).bind fun r_7 => (setM s.2 (wrap .i64 (lenM s.2 - 1)) fun (x : Int × Int) => some
 (x.1, max r_6 r_2.2)).bind fun r => some r else (appM (nat_lit 16) s.2 [(r_2.1, r_2.2)]).bind fun r => some r).bind fun (o : List (Int × Int)) => some
 (Sum.inl (wrap .i64 (s.1 + 1), o)) else some (Sum.inr s.2)) (0, [])).bind fun (o : List (Int × Int)) => some o
theorem le113 (x) : Le (m113F x) (m113 x) := by
 unfold m113F m113
 repeat' first | with_reducible exact le148 _ | with_reducible exact Le.refl _ | intro _ | apply Le.bind | apply Le.cond | apply Le.nil | apply Le.loop | apply Le.elim
noncomputable def m69F : ((Int × Int) × (List (Int × Int × Int)) × Int × Int × Int × Int × Int × Int × Int) → Option ((List (Int × Int)) × Int) :=
 fun (x : (Int × Int) × List (Int × Int × Int) × Int × Int × Int × Int × Int × Int × Int) => (m110 (x.1.1, x.1.2)).bind fun r => (bif PE.notM (PE.notM r) then
 m111 (x.2.2.1, x.2.2.2.1, x.2.2.2.2.1, x.2.2.2.2.2.1, x.2.2.2.2.2.2.1, x.2.2.2.2.2.2.2.1, x.2.2.2.2.2.2.2.2) else some false).bind fun r_1 => (bif PE.notM
 (PE.orM (PE.orM (PE.notM r) (PE.notM r_1)) (ltM 12 (lenM x.2.1))) then ((loopF (fun (s : Int) => bif ltM s (lenM x.2.1) then (idxM x.2.1 s).bind fun r_2 =>
 (m108 (r_2.1, r_2.2.1, r_2.2.2)).bind fun r => bif r then some (Sum.inr (Sum.inr s)) else some (Sum.inl (wrap .i64 (s + 1))) else some (Sum.inr (Sum.inl ())))
 0).bind fun (o : Unit ⊕ Int) => Sum.elim (fun (t : Unit) => some (-1)) (fun (t : Int) => some t) o).bind fun (ov : Int) => some (leM 0 ov) else some
 false).bind fun (ov : Bool) => bif PE.orM (PE.orM (PE.orM (PE.notM r) (PE.notM r_1)) (ltM 12 (lenM x.2.1))) ov then some ([], 200) else (m113F ((x.1.1,
 x.1.2), x.2.1, x.2.2.1, x.2.2.2.1, x.2.2.2.2.1, x.2.2.2.2.2.1, x.2.2.2.2.2.2.1, x.2.2.2.2.2.2.2.1, x.2.2.2.2.2.2.2.2)).bind fun r => bif PE.andM (eqM
 x.2.2.2.2.1 0) (eqM x.2.2.2.2.2.1 0) then some (r, 0) else none
theorem le69 (x) : Le (m69F x) (m69 x) := by
 unfold m69F m69
 repeat' first | with_reducible exact le113 _ | with_reducible exact Le.refl _ | intro _ | apply Le.bind | apply Le.cond | apply Le.nil | apply Le.loop | apply Le.elim
noncomputable def m70F : ((Int × Int) × Int) → Option ((Int × Int × Int) × Int) :=
 fun (x : (Int × Int) × Int) => (m110 (x.1.1, x.1.2)).bind fun r => (bif PE.notM (PE.notM r) then m118 (x.2, 0, 800000) else some false).bind fun r_1 => bif
 PE.orM (PE.notM r) (PE.notM r_1) then some ((0, 0, 0), 200) else (m119F ((x.1.1, x.1.2), x.2)).bind fun r => some ((r.1, r.2.1, r.2.2), 0)
theorem le70 (x) : Le (m70F x) (m70 x) := by
 unfold m70F m70
 repeat' first | with_reducible exact le119 _ | with_reducible exact Le.refl _ | intro _ | apply Le.bind | apply Le.cond | apply Le.nil | apply Le.loop | apply Le.elim
noncomputable def m31F : ((Int × Int) × (List (Int × Int × Int)) × (Int × Int × Int × Int × Int × Int × Int) × Int) → Option ((Int × Int × Int × Int × Int) × Int) :=
 fun (x : (Int × Int) × List (Int × Int × Int) × (Int × Int × Int × Int × Int × Int × Int) × Int) => (m69F ((x.1.1, x.1.2), x.2.1, x.2.2.1.1, x.2.2.1.2.1,
 x.2.2.1.2.2.1, x.2.2.1.2.2.2.1, x.2.2.1.2.2.2.2.1, x.2.2.1.2.2.2.2.2.1, x.2.2.1.2.2.2.2.2.2)).bind fun r => (bif PE.notM (PE.orM (PE.notM (eqM r.2 0)) (eqM
 (lenM r.1) 0)) then m54 (x.2.2.2, 0, 7) else some false).bind fun r_1 => bif PE.orM (PE.orM (PE.notM (eqM r.2 0)) (eqM (lenM r.1) 0)) (PE.notM r_1) then some
 ((0, 0, 0, 0, 0), 220) else (idxM r.1 0).bind fun r_2 => (m70F ((x.1.1, x.1.2), r_2.1)).bind fun r_3 => (idxM r.1 (wrap .i64 (lenM r.1 - 1))).bind fun r_4 =>
 (m70F ((x.1.1, x.1.2), wrap .i64 (r_4.2 - 1))).bind fun r => bif ltM 2100 r_3.1.1 then some ((0, 0, 0, 0, 0), 220) else some ((1, x.2.2.2, 0, r_3.1.1, wrap
 .i64 (min 2100 r.1.1 + 1)), 0)
theorem le31 (x) : Le (m31F x) (m31 x) := by
 unfold m31F m31
 repeat' first | with_reducible exact le69 _ | with_reducible exact le70 _ | with_reducible exact Le.refl _ | intro _ | apply Le.bind | apply Le.cond | apply Le.nil | apply Le.loop | apply Le.elim
noncomputable def m188F : (List Int × Int) → Option (Bool) :=
 fun (x : List Int × Int) => (m121 (lenM x.1, 2, x.2)).bind fun r => (bif r then ((loopF (fun (s : Int) => bif ltM s (lenM x.1) then (idxM x.1 s).bind fun r_1 =>
 (m210 r_1).bind fun r => bif r then some (Sum.inr (Sum.inr s)) else some (Sum.inl (wrap .i64 (s + 1))) else some (Sum.inr (Sum.inl ()))) 0).bind fun (o : Unit
 ⊕ Int) => Sum.elim (fun (t : Unit) => some (-1)) (fun (t : Int) => some t) o).bind fun (ov : Int) => some (leM 0 ov) else some false).bind fun (ov : Bool) =>
 some (PE.andM r (PE.notM ov))
theorem le188 (x) : Le (m188F x) (m188 x) := by
 unfold m188F m188
 repeat' first | with_reducible exact Le.refl _ | intro _ | apply Le.bind | apply Le.cond | apply Le.nil | apply Le.loop | apply Le.elim
noncomputable def m159F : (Int × List Int) → Option (Bool) :=
 fun (x : Int × List Int) => (m188F (x.2, 200)).bind fun r => (bif r then m121 (x.1, 0, wrap .i64 (2101 - lenM x.2)) else some false).bind fun r_1 => some
 (PE.andM r r_1)
theorem le159 (x) : Le (m159F x) (m159 x) := by
 unfold m159F m159
 repeat' first | with_reducible exact le188 _ | with_reducible exact Le.refl _ | intro _ | apply Le.bind | apply Le.cond | apply Le.nil | apply Le.loop | apply Le.elim
noncomputable def m160F : List Int → Option (Bool) :=
 fun (x : List Int) => (m188F (x, 60)).bind fun r => some r
theorem le160 (x) : Le (m160F x) (m160 x) := by
 unfold m160F m160
 repeat' first | with_reducible exact le188 _ | with_reducible exact Le.refl _ | intro _ | apply Le.bind | apply Le.cond | apply Le.nil | apply Le.loop | apply Le.elim
noncomputable def m161F : (List Int × List Int) → Option (Int) :=
 fun (x : List Int × List Int) => (loopF (fun (s : Int × Int) => bif ltM s.1 (lenM x.1) then (idxM x.1 s.1).bind fun r => (idxM x.1 (wrap .i64 (s.1 - 1))).bind
 fun r_1 => (m157 (r, r_1)).bind fun r_2 => (idxM x.2 (wrap .i64 (wrap .i64 (s.1 - 1) + 1))).bind fun r_3 => (idxM x.2 (wrap .i64 (s.1 - 1))).bind fun r_4 =>
 (m157 (r_3, r_4)).bind fun r_5 => ((m191 (r_2, r_5)).bind fun r => bif r then some (wrap .i64 (s.2 + 1)) else some s.2).bind fun (o : Int) => some (Sum.inl
 (wrap .i64 (s.1 + 1), o)) else some (Sum.inr s.2)) (1, 0)).bind fun (o : Int) => some o
theorem le161 (x) : Le (m161F x) (m161 x) := by
 unfold m161F m161
 repeat' first | with_reducible exact Le.refl _ | intro _ | apply Le.bind | apply Le.cond | apply Le.nil | apply Le.loop | apply Le.elim
noncomputable def m120F : ((Int × List Int) × List Int) → Option ((List (Int × Int)) × Int) :=
 fun (x : (Int × List Int) × List Int) => (m159F (x.1.1, x.1.2)).bind fun r => (bif PE.notM (PE.notM r) then m160F x.2 else some false).bind fun r_1 => bif
 PE.orM (PE.notM r) (PE.notM r_1) then some ([], 210) else (loopF (fun (s : Int × List (Int × Int)) => bif leM (wrap .i64 (s.1 + lenM x.2)) (lenM x.1.2) then
 (sliceM x.1.2 s.1 (wrap .i64 (s.1 + lenM x.2))).bind fun r_2 => (m161F (x.2, r_2)).bind fun r_3 => (appM (nat_lit 16) s.2 [(s.1, r_3)]).bind fun r => some
 (Sum.inl (wrap .i64 (s.1 + 1), r)) else some (Sum.inr s.2)) (0, [])).bind fun (o : List (Int × Int)) => (sortM (Ty.pair (Ty.int IntKind.i64) (Ty.int
 IntKind.i64)) cf163 o).bind fun r => some (r, 0)
theorem le120 (x) : Le (m120F x) (m120 x) := by
 unfold m120F m120
 repeat' first | with_reducible exact le159 _ | with_reducible exact le160 _ | with_reducible exact le161 _ | with_reducible exact Le.refl _ | intro _ | apply Le.bind | apply Le.cond | apply Le.nil | apply Le.loop | apply Le.elim
noncomputable def m71F : ((Int × List Int) × List Int × Int) → Option (Int × Bool × Int) :=
 fun (x : (Int × List Int) × List Int × Int) => (m120F ((x.1.1, x.1.2), x.2.1)).bind fun r => (bif PE.notM (PE.notM (eqM r.2 0)) then m121 (x.2.2, 1, 60) else
 some false).bind fun r_1 => bif PE.orM (PE.notM (eqM r.2 0)) (PE.notM r_1) then some (0, false, 210) else (bif PE.andM (PE.notM (eqM (lenM r.1) 0)) (ltM 1
 (lenM r.1)) then idxM r.1 1 else some (0, 0)).bind fun r_2 => (bif PE.andM (PE.notM (eqM (lenM r.1) 0)) (ltM 1 (lenM r.1)) then idxM r.1 0 else some (0,
 0)).bind fun r_3 => bif PE.orM (eqM (lenM r.1) 0) (PE.andM (ltM 1 (lenM r.1)) (ltM (wrap .i64 (r_2.2 - r_3.2)) x.2.2)) then some (0, false, 0) else (idxM r.1
 0).bind fun r => some (wrap .i64 (x.1.1 + r.1), true, 0)
theorem le71 (x) : Le (m71F x) (m71 x) := by
 unfold m71F m71
 repeat' first | with_reducible exact le120 _ | with_reducible exact Le.refl _ | intro _ | apply Le.bind | apply Le.cond | apply Le.nil | apply Le.loop | apply Le.elim
noncomputable def m32F : ((Int × List Int) × List Int × Int × Int × Bool × Int) → Option ((Int × Int × Int × Int × Int) × Int) :=
 fun (x : (Int × List Int) × List Int × Int × Int × Bool × Int) => (m71F ((x.1.1, x.1.2), x.2.1, x.2.2.1)).bind fun r => (bif PE.notM (PE.orM (PE.notM (eqM r.2.2
 0)) (PE.notM r.2.1)) then m54 (x.2.2.2.2.2, 0, 7) else some false).bind fun r_1 => bif PE.orM (PE.orM (PE.notM (eqM r.2.2 0)) (PE.notM r.2.1)) (PE.notM r_1)
 then some ((0, 0, 0, 0, 0), 220) else (m72 (wrap .i64 (wrap .i64 (r.1 + lenM x.2.1) - 1), x.2.2.2.1, x.2.2.2.2.1)).bind fun r => bif PE.notM (eqM r.2 0) then
 some ((0, 0, 0, 0, 0), 220) else some ((1, x.2.2.2.2.2, 0, r.1.1, min (wrap .i64 (r.1.2 + 2)) 2101), 0)
theorem le32 (x) : Le (m32F x) (m32 x) := by
 unfold m32F m32
 repeat' first | with_reducible exact le71 _ | with_reducible exact Le.refl _ | intro _ | apply Le.bind | apply Le.cond | apply Le.nil | apply Le.loop | apply Le.elim
noncomputable def m73F : ((List (Int × Int)) × List (Int × Int)) → Option (Bool) :=
 fun (x : List (Int × Int) × List (Int × Int)) => bif PE.notM (eqM (lenM x.1) (lenM x.2)) then some false else (loopF (fun (s : Int) => bif ltM s (lenM x.1) then
 (idxM x.1 s).bind fun r => (idxM x.2 s).bind fun r_1 => bif PE.notM (PE.andM (eqM r.1 r_1.1) (eqM r.2 r_1.2)) then some (Sum.inr (Sum.inr false)) else some
 (Sum.inl (wrap .i64 (s + 1))) else some (Sum.inr (Sum.inl ()))) 0).bind fun (o : Unit ⊕ Bool) => Sum.elim (fun (t : Unit) => some true) (fun (t : Bool) =>
 some t) o
theorem le73 (x) : Le (m73F x) (m73 x) := by
 unfold m73F m73
 repeat' first | with_reducible exact Le.refl _ | intro _ | apply Le.bind | apply Le.cond | apply Le.nil | apply Le.loop | apply Le.elim
noncomputable def m33F : ((List (Int × Int)) × List (Int × Int)) → Option (Bool) :=
 fun (x : List (Int × Int) × List (Int × Int)) => (m73F (x.1, x.2)).bind fun r => some r
theorem le33 (x) : Le (m33F x) (m33 x) := by
 unfold m33F m33
 repeat' first | with_reducible exact le73 _ | with_reducible exact Le.refl _ | intro _ | apply Le.bind | apply Le.cond | apply Le.nil | apply Le.loop | apply Le.elim
noncomputable def m74F : (List Int × List Int) → Option (Bool) :=
 fun (x : List Int × List Int) => bif PE.notM (eqM (lenM x.1) (lenM x.2)) then some false else (loopF (fun (s : Int) => bif ltM s (lenM x.1) then (idxM x.1
 s).bind fun r => (idxM x.2 s).bind fun r_1 => bif PE.notM (eqM r r_1) then some (Sum.inr (Sum.inr false)) else some (Sum.inl (wrap .i64 (s + 1))) else some
 (Sum.inr (Sum.inl ()))) 0).bind fun (o : Unit ⊕ Bool) => Sum.elim (fun (t : Unit) => some true) (fun (t : Bool) => some t) o
theorem le74 (x) : Le (m74F x) (m74 x) := by
 unfold m74F m74
 repeat' first | with_reducible exact Le.refl _ | intro _ | apply Le.bind | apply Le.cond | apply Le.nil | apply Le.loop | apply Le.elim
noncomputable def m34F : (List Int × List Int) → Option (Bool) :=
 fun (x : List Int × List Int) => (m74F (x.1, x.2)).bind fun r => some r
theorem le34 (x) : Le (m34F x) (m34 x) := by
 unfold m34F m34
 repeat' first | with_reducible exact le74 _ | with_reducible exact Le.refl _ | intro _ | apply Le.bind | apply Le.cond | apply Le.nil | apply Le.loop | apply Le.elim
noncomputable def m105F : ((Int × List (Int × Int × Int)) × Int × List Int) → Option (Int × Int × Bool) :=
 fun (x : (Int × List (Int × Int × Int)) × Int × List Int) => (loopF (fun (s : Int × Int × Int) => bif ltM s.2.2 (lenM x.2.2) then (idxM x.2.2 s.2.2).bind fun r
 => (m98 (r, 0, wrap .i64 (lenM x.1.2 - 1))).bind fun r_1 => (bif PE.notM (PE.notM r_1) then idxM x.1.2 r else some (0, 0, 0)).bind fun r_2 => bif PE.orM
 (PE.notM r_1) (PE.notM (eqM r_2.1 s.1)) then some (Sum.inr (Sum.inr (0, 0, false))) else (idxM x.1.2 r).bind fun r_3 => (idxM x.1.2 r).bind fun r => some
 (Sum.inl (r_3.2.1, wrap .i64 (s.2.1 + r.2.2), wrap .i64 (s.2.2 + 1))) else some (Sum.inr (Sum.inl (s.1, s.2.1)))) (x.2.1, 0, 0)).bind fun (o : Int × Int ⊕ Int
 × Int × Bool) => Sum.elim (fun (t : Int × Int) => some (t.1, t.2, leM (lenM x.2.2) 60)) (fun (t : Int × Int × Bool) => some (t.1, t.2.1, t.2.2)) o
theorem le105 (x) : Le (m105F x) (m105 x) := by
 unfold m105F m105
 repeat' first | with_reducible exact Le.refl _ | intro _ | apply Le.bind | apply Le.cond | apply Le.nil | apply Le.loop | apply Le.elim
noncomputable def m66F : ((Int × List (Int × Int × Int)) × (Int × Int × Int) × List Int) → Option (Bool) :=
 fun (x : (Int × List (Int × Int × Int)) × (Int × Int × Int) × List Int) => (m64F (x.1.1, x.1.2)).bind fun r => (bif PE.notM (PE.notM r) then m102 (x.1.1,
 x.2.1.1, x.2.1.2.1, x.2.1.2.2) else some false).bind fun r_1 => bif PE.orM (PE.notM r) (PE.notM r_1) then some false else (m105F ((x.1.1, x.1.2), x.2.1.1,
 x.2.2)).bind fun r => some (PE.andM (PE.andM r.2.2 (eqM r.1 x.2.1.2.1)) (leM r.2.1 x.2.1.2.2))
theorem le66 (x) : Le (m66F x) (m66 x) := by
 unfold m66F m66
 repeat' first | with_reducible exact le64 _ | with_reducible exact le105 _ | with_reducible exact Le.refl _ | intro _ | apply Le.bind | apply Le.cond | apply Le.nil | apply Le.loop | apply Le.elim
noncomputable def m26F : (((Int × List (Int × Int)) × List (Int × Int × Int × Int × Int)) × Int × Int × Int × List Int) → Option (Bool) :=
 fun (x : ((Int × List (Int × Int)) × List (Int × Int × Int × Int × Int)) × Int × Int × Int × List Int) => (m62F (((x.1.1.1, x.1.1.2), x.1.2), x.2.1, x.2.2.1,
 x.2.2.2.1)).bind fun r => (bif r.2.2 then m66F ((r.1.1, r.1.2), (r.2.1.1, r.2.1.2.1, r.2.1.2.2), x.2.2.2.2) else some false).bind fun r_1 => some (PE.andM
 r.2.2 r_1)
theorem le26 (x) : Le (m26F x) (m26 x) := by
 unfold m26F m26
 repeat' first | with_reducible exact le62 _ | with_reducible exact le66 _ | with_reducible exact Le.refl _ | intro _ | apply Le.bind | apply Le.cond | apply Le.nil | apply Le.loop | apply Le.elim
noncomputable def m56F : ((Int × List (Int × Int × Int)) × List Int) → Option (Bool) :=
 fun (x : (Int × List (Int × Int × Int)) × List Int) => (m64F (x.1.1, x.1.2)).bind fun r => (bif PE.notM (PE.orM (PE.notM r) (PE.notM (eqM (lenM x.2) x.1.1)))
 then ((loopF (fun (s : Int) => bif ltM s (lenM x.2) then (idxM x.2 s).bind fun r_1 => (m97 r_1).bind fun r => bif r then some (Sum.inr (Sum.inr s)) else some
 (Sum.inl (wrap .i64 (s + 1))) else some (Sum.inr (Sum.inl ()))) 0).bind fun (o : Unit ⊕ Int) => Sum.elim (fun (t : Unit) => some (-1)) (fun (t : Int) => some
 t) o).bind fun (ov : Int) => some (leM 0 ov) else some false).bind fun (ov : Bool) => bif PE.orM (PE.orM (PE.notM r) (PE.notM (eqM (lenM x.2) x.1.1))) ov then
 some false else ((loopF (fun (s : Int) => bif ltM s (lenM x.1.2) then (idxM x.1.2 s).bind fun r_1 => (idxM x.2 r_1.2.1).bind fun r_2 => (idxM x.2 r_1.1).bind
 fun r => bif ltM r_1.2.2 (wrap .i64 (r_2 - r)) then some (Sum.inr (Sum.inr s)) else some (Sum.inl (wrap .i64 (s + 1))) else some (Sum.inr (Sum.inl ())))
 0).bind fun (o : Unit ⊕ Int) => Sum.elim (fun (t : Unit) => some (-1)) (fun (t : Int) => some t) o).bind fun (ov : Int) => some (PE.notM (leM 0 ov))
theorem le56 (x) : Le (m56F x) (m56 x) := by
 unfold m56F m56
 repeat' first | with_reducible exact le64 _ | with_reducible exact Le.refl _ | intro _ | apply Le.bind | apply Le.cond | apply Le.nil | apply Le.loop | apply Le.elim
noncomputable def m18F : (((Int × List (Int × Int)) × List (Int × Int × Int × Int × Int)) × List Int) → Option (Bool) :=
 fun (x : ((Int × List (Int × Int)) × List (Int × Int × Int × Int × Int)) × List Int) => (m24F ((x.1.1.1, x.1.1.2), x.1.2)).bind fun r => bif eqM r.2 0 then bif
 PE.andM true (eqM (lenM x.2) x.1.1.1) then ((loopF (fun (s : Int) => bif ltM s (lenM x.2) then (idxM x.2 s).bind fun r_1 => (m53 r_1).bind fun r => bif r then
 some (Sum.inr (Sum.inr s)) else some (Sum.inl (wrap .i64 (s + 1))) else some (Sum.inr (Sum.inl ()))) 0).bind fun (o : Unit ⊕ Int) => Sum.elim (fun (t : Unit)
 => some (-1)) (fun (t : Int) => some t) o).bind fun (ov : Int) => bif PE.andM true (PE.notM (leM 0 ov)) then (mo57 x.2).bind fun r_1 => (appM (nat_lit 8) r_1
 [0]).bind fun r_2 => (m56F ((r.1.1, r.1.2), r_2)).bind fun r => some (PE.andM true r) else some false else some false else some false
theorem le18 (x) : Le (m18F x) (m18 x) := by
 unfold m18F m18
 repeat' first | with_reducible exact le24 _ | with_reducible exact le56 _ | with_reducible exact Le.refl _ | intro _ | apply Le.bind | apply Le.cond | apply Le.nil | apply Le.loop | apply Le.elim
noncomputable def m10F : Unit → Option (Bool) :=
 fun (x : Unit) => (sliceM [(2, 0, 0, 1320, 0), (1, 2, 0, 1300, 1341), (5, 0, 1, 5, 200)] 0 2).bind fun r => (appM (nat_lit 40) [] [(2, 0, 0, 1320, 0), (1, 2, 0,
 1300, 1341), (5, 0, 1, 5, 200)]).bind fun r_1 => (appM (nat_lit 40) r_1 [(3, 1, 0, 1324, 0)]).bind fun r_2 => (m17F ((3, [(0, 1), (1, 2)]), [(2, 0, 0, 1320,
 0), (1, 2, 0, 1300, 1341), (5, 0, 1, 5, 200)])).bind fun r_3 => (m17F ((3, [(0, 1), (1, 2)]), r)).bind fun r_4 => (m17F ((3, [(0, 1), (1, 2)]), r_2)).bind fun
 r_5 => (m23F (((3, [(0, 1), (1, 2)]), [(2, 0, 0, 1320, 0), (1, 2, 0, 1300, 1341), (5, 0, 1, 5, 200)]), 0, 2, 5)).bind fun r_6 => (m23F (((3, [(0, 1), (1,
 2)]), [(2, 0, 0, 1320, 0), (1, 2, 0, 1300, 1341), (5, 0, 1, 5, 200)]), 0, 2, 6)).bind fun r_7 => (m16F ((3, [(0, 1), (1, 2)]), r_2)).bind fun r_8 => (m16F
 ((3, [(0, 1), (1, 2)]), [(2, 0, 0, 1320, 0), (1, 2, 0, 1300, 1341), (5, 0, 1, 5, 200)])).bind fun r_9 => (m24F ((3, [(0, 1), (1, 2)]), [(2, 0, 0, 1320, 0),
 (1, 2, 0, 1300, 1341), (5, 0, 1, 5, 200)])).bind fun r_10 => (m31F ((800001, 2), [], (0, 0, 0, 0, 0, 1340, (-1)), 2)).bind fun r_11 => (m32F ((1400, [10, 12,
 11, 15, 14, 13, 16, 18, 12]), [11, 15, 14, 13, 16, 18], 1, 0, true, 1)).bind fun r_12 => (m32F ((1400, [10, 12, 11, 15, 14, 13, 16, 18, 12]), [11, 15, 14, 13,
 16, 18], 40, 0, true, 9)).bind fun r_13 => bif PE.orM (PE.orM (PE.orM (PE.orM (PE.orM (PE.orM (PE.orM (PE.orM (PE.orM (PE.orM (PE.notM (eqM r_3.2 0)) (PE.notM
 (eqM r_4.2 0))) (PE.notM (eqM r_5.2 220))) (PE.notM (eqM r_10.2 0))) (PE.notM (eqM r_11.2 0))) (PE.notM (eqM r_12.2 0))) (PE.notM (eqM r_13.2 220))) (PE.notM
 r_6.2)) r_7.2) (PE.notM r_8.2)) r_9.2 then some false else (m33F (r_3.1, [(1320, 1336), (1325, 1341), (1325, 1341)])).bind fun r_14 => (bif r_14 then m33F
 (r_4.1, [(1320, 1341), (1320, 1341), (1320, 1341)]) else some false).bind fun r_15 => (m34F (r_6.1, [13, 11])).bind fun r_16 => (bif r_16 then m26F (((3, [(0,
 1), (1, 2)]), [(2, 0, 0, 1320, 0), (1, 2, 0, 1300, 1341), (5, 0, 1, 5, 200)]), 0, 2, 5, r_6.1) else some false).bind fun r_17 => (bif PE.andM r_16 r_17 then
 m26F (((3, [(0, 1), (1, 2)]), [(2, 0, 0, 1320, 0), (1, 2, 0, 1300, 1341), (5, 0, 1, 5, 200)]), 0, 2, 6, r_6.1) else some false).bind fun r_18 => (bif PE.andM
 (PE.andM r_16 r_17) (PE.notM r_18) then m34F (r_8.1, [0, 2, 3]) else some false).bind fun r_19 => (bif PE.andM (PE.andM (PE.andM r_14 r_15) (PE.andM (PE.andM
 (PE.andM (PE.andM (PE.andM r_16 r_17) (PE.notM r_18)) r_19) (eqM r_10.1.1 4)) (eqM (lenM r_10.1.2) 14))) (PE.andM (PE.andM (eqM r_11.1.1 1) (PE.andM (eqM
 r_11.1.2.1 2) (PE.andM (eqM r_11.1.2.2.1 0) (PE.andM (eqM r_11.1.2.2.2.1 1340) (eqM r_11.1.2.2.2.2 1342))))) (PE.andM (eqM r_12.1.1 1) (PE.andM (eqM
 r_12.1.2.1 1) (PE.andM (eqM r_12.1.2.2.1 0) (PE.andM (eqM r_12.1.2.2.2.1 1407) (eqM r_12.1.2.2.2.2 1410)))))) then m20F ((3, [(0, 1), (1, 2)]), [(2, 0, 0,
 1320, 0), (1, 2, 0, 1300, 1341), (5, 0, 1, 5, 200)]) else some false).bind fun r_20 => (bif PE.andM (PE.andM (PE.andM (PE.andM r_14 r_15) (PE.andM (PE.andM
 (PE.andM (PE.andM (PE.andM r_16 r_17) (PE.notM r_18)) r_19) (eqM r_10.1.1 4)) (eqM (lenM r_10.1.2) 14))) (PE.andM (PE.andM (eqM r_11.1.1 1) (PE.andM (eqM
 r_11.1.2.1 2) (PE.andM (eqM r_11.1.2.2.1 0) (PE.andM (eqM r_11.1.2.2.2.1 1340) (eqM r_11.1.2.2.2.2 1342))))) (PE.andM (eqM r_12.1.1 1) (PE.andM (eqM
 r_12.1.2.1 1) (PE.andM (eqM r_12.1.2.2.1 0) (PE.andM (eqM r_12.1.2.2.2.1 1407) (eqM r_12.1.2.2.2.2 1410))))))) r_20 then m20F ((9, []), []) else some
 false).bind fun r_21 => (bif PE.andM (PE.andM (PE.andM (PE.andM (PE.andM r_14 r_15) (PE.andM (PE.andM (PE.andM (PE.andM (PE.andM r_16 r_17) (PE.notM r_18))
 r_19) (eqM r_10.1.1 4)) (eqM (lenM r_10.1.2) 14))) (PE.andM (PE.andM (eqM r_11.1.1 1) (PE.andM (eqM r_11.1.2.1 2) (PE.andM (eqM r_11.1.2.2.1 0) (PE.andM (eqM
 r_11.1.2.2.2.1 1340) (eqM r_11.1.2.2.2.2 1342))))) (PE.andM (eqM r_12.1.1 1) (PE.andM (eqM r_12.1.2.1 1) (PE.andM (eqM r_12.1.2.2.1 0) (PE.andM (eqM
 r_12.1.2.2.2.1 1407) (eqM r_12.1.2.2.2.2 1410))))))) r_20) (PE.notM r_21) then m18F (((3, [(0, 1), (1, 2)]), [(2, 0, 0, 1320, 0), (1, 2, 0, 1300, 1341), (5,
 0, 1, 5, 200)]), [1320, 1325, 1340]) else some false).bind fun r_22 => (bif PE.andM (PE.andM (PE.andM (PE.andM (PE.andM (PE.andM r_14 r_15) (PE.andM (PE.andM
 (PE.andM (PE.andM (PE.andM r_16 r_17) (PE.notM r_18)) r_19) (eqM r_10.1.1 4)) (eqM (lenM r_10.1.2) 14))) (PE.andM (PE.andM (eqM r_11.1.1 1) (PE.andM (eqM
 r_11.1.2.1 2) (PE.andM (eqM r_11.1.2.2.1 0) (PE.andM (eqM r_11.1.2.2.2.1 1340) (eqM r_11.1.2.2.2.2 1342))))) (PE.andM (eqM r_12.1.1 1) (PE.andM (eqM
 r_12.1.2.1 1) (PE.andM (eqM r_12.1.2.2.1 0) (PE.andM (eqM r_12.1.2.2.2.1 1407) (eqM r_12.1.2.2.2.2 1410))))))) r_20) (PE.notM r_21)) r_22 then m18F (((3, [(0,
 1), (1, 2)]), [(2, 0, 0, 1320, 0), (1, 2, 0, 1300, 1341), (5, 0, 1, 5, 200)]), [1320, 1324, 1340]) else some false).bind fun r => some (PE.andM (PE.andM
 (PE.andM (PE.andM (PE.andM (PE.andM (PE.andM r_14 r_15) (PE.andM (PE.andM (PE.andM (PE.andM (PE.andM r_16 r_17) (PE.notM r_18)) r_19) (eqM r_10.1.1 4)) (eqM
 (lenM r_10.1.2) 14))) (PE.andM (PE.andM (eqM r_11.1.1 1) (PE.andM (eqM r_11.1.2.1 2) (PE.andM (eqM r_11.1.2.2.1 0) (PE.andM (eqM r_11.1.2.2.2.1 1340) (eqM
 r_11.1.2.2.2.2 1342))))) (PE.andM (eqM r_12.1.1 1) (PE.andM (eqM r_12.1.2.1 1) (PE.andM (eqM r_12.1.2.2.1 0) (PE.andM (eqM r_12.1.2.2.2.1 1407) (eqM
 r_12.1.2.2.2.2 1410))))))) r_20) (PE.notM r_21)) r_22) (PE.notM r))
theorem le10 (x) : Le (m10F x) (m10 x) := by
 unfold m10F m10
 repeat' first | with_reducible exact le16 _ | with_reducible exact le17 _ | with_reducible exact le18 _ | with_reducible exact le20 _ | with_reducible exact le23 _ | with_reducible exact le24 _ | with_reducible exact le26 _ | with_reducible exact le31 _ | with_reducible exact le32 _ | with_reducible exact le33 _ | with_reducible exact le34 _ | with_reducible exact Le.refl _ | intro _ | apply Le.bind | apply Le.cond | apply Le.nil | apply Le.loop | apply Le.elim
end Go.Proofs.YthfgccfaildmfaaGreatDoor
/-
 Dating: the self-test of the laws answers true.
 No conditions.
-/
namespace Go.Proofs.YthfgccfaildmfaaGreatDoor
open Go Go.Abs Go.PE
set_option maxRecDepth 100000 in
theorem saneF : m10F () = some true := by kernel_rfl
theorem sane_ok : m10 () = some true := (le10 ()).out saneF
end Go.Proofs.YthfgccfaildmfaaGreatDoor
/-
 Dating: the law DatingOrder.
 No conditions.
-/
namespace Go.Proofs.YthfgccfaildmfaaGreatDoor
open Go Go.Abs Go.PE
open Ord (Rel clos)
set_option linter.unusedVariables false
set_option maxRecDepth 10000
theorem gd_dok {d : Dat} {N b : Int} (hO : okO d.1 = true) (h20 : d.1.2.length ≤ 20) (h10 : d.2.length ≤ 11) (hN : N = d.1.1) (hg : ∀ q ∈ d.2, gd N b q) : DOK d := by
 refine ⟨?_, h10, h20⟩
 unfold vld
 rw [hO, decide_eq_true (by omega), Bool.true_and, Bool.true_and, List.all_eq_true]
 intro q hq
 rw [← hN]
 exact (hg q hq).1
end Go.Proofs.YthfgccfaildmfaaGreatDoor
/-
 Dating: years that keep all bounds; what a part of the bounds says.
 No conditions.
-/
namespace Go.Proofs.YthfgccfaildmfaaGreatDoor
open Go Go.Abs Go.PE
open Ord (Rel clos)
set_option linter.unusedVariables false
set_option maxRecDepth 10000
def kp (x : Sys) (g : Nat → Int) : Prop := ∀ a b : Nat, ∀ m : Int, ((a : Int), (b : Int), m) ∈ x.2 → g b - g a ≤ m
theorem kp_good {x : Sys} (hs : sys x = true) {g : Nat → Int} (h : kp x g) : ovS x = false := by
 cases hov : ovS x with
 | false => rfl
 | true =>
  obtain ⟨i, w, _, hw, hwk⟩ := ov_walk hs hov
  have := keep_walk h hwk
  omega
def fit (e : Int) (y : List Int) (q : Clu) : Prop :=
 (q.1 = 1 → q.2.2.2.1 ≤ y.getD q.2.1.toNat 0 + e ∧ y.getD q.2.1.toNat 0 < q.2.2.2.2 + e) ∧ (q.1 = 2 → q.2.2.2.1 ≤ y.getD q.2.1.toNat 0 + e) ∧ (q.1 = 3 → y.getD q.2.1.toNat 0 ≤ q.2.2.2.1 + e) ∧
 (q.1 = 4 → y.getD q.2.2.1.toNat 0 = y.getD q.2.1.toNat 0) ∧ (q.1 = 5 → q.2.2.2.1 ≤ y.getD q.2.2.1.toNat 0 - y.getD q.2.1.toNat 0 + e ∧ y.getD q.2.2.1.toNat 0 - y.getD q.2.1.toNat 0 ≤ q.2.2.2.2 + e)
theorem fit_of {y : List Int} {q : Clu} (h : tru y q) : fit 0 y q := by
 unfold tru at h
 obtain ⟨t1, t2, t3, t4, t5⟩ := h
 exact ⟨fun k => by have := t1 k; omega, fun k => by have := t2 k; omega, fun k => by have := t3 k; omega, t4, fun k => by have := t5 k; omega⟩
theorem clb_fit {N e : Int} {y : List Int} {q : Clu} (hN : 0 ≤ N) (he : 0 ≤ e) (l0 : y.getD N.toNat 0 = 0) (hr : 0 ≤ y.getD q.2.1.toNat 0 ∧ y.getD q.2.1.toNat 0 ≤ 2100) (hv : vcl N q = true) (ht : fit e y q) {a b : Nat} {m : Int} (hc : ((a : Int), (b : Int), m) ∈ clb N q) : y.getD b 0 - y.getD a 0 ≤ m + e := by
 obtain ⟨v1, v2, v3⟩ := vcl_of hv
 obtain ⟨t1, t2, t3, t4, t5⟩ := ht
 unfold clb at hc
 split at hc
 ·have := t1 ‹_›
  simp only [List.mem_cons, List.not_mem_nil, or_false, Prod.mk.injEq] at hc
  rcases hc with ⟨e1, e2, rfl⟩ | ⟨e1, e2, rfl⟩
  ·rw [show a = q.2.1.toNat by omega, show b = N.toNat by omega]; omega
  ·rw [show b = q.2.1.toNat by omega, show a = N.toNat by omega]; omega
 ·split at hc
  ·have := t2 ‹_›
   simp only [List.mem_cons, List.not_mem_nil, or_false, Prod.mk.injEq] at hc
   rcases hc with ⟨e1, e2, rfl⟩ | ⟨e1, e2, rfl⟩
   ·rw [show a = q.2.1.toNat by omega, show b = N.toNat by omega]; omega
   ·rw [show b = q.2.1.toNat by omega, show a = N.toNat by omega]; omega
  ·split at hc
   ·have := t3 ‹_›
    simp only [List.mem_cons, List.not_mem_nil, or_false, Prod.mk.injEq] at hc
    rcases hc with ⟨e1, e2, rfl⟩ | ⟨e1, e2, rfl⟩
    ·rw [show a = q.2.1.toNat by omega, show b = N.toNat by omega]; omega
    ·rw [show b = q.2.1.toNat by omega, show a = N.toNat by omega]; omega
   ·simp only [List.mem_cons, List.not_mem_nil, or_false, Prod.mk.injEq] at hc
    rcases hc with ⟨e1, e2, rfl⟩ | ⟨e1, e2, rfl⟩
    ·rw [show a = q.2.1.toNat by omega, show b = q.2.2.1.toNat by omega]
     rcases (show q.1 = 4 ∨ q.1 = 5 by omega) with k | k
     ·have := t4 k; omega
     ·have := t5 k; omega
    ·rw [show b = q.2.1.toNat by omega, show a = q.2.2.1.toNat by omega]
     rcases (show q.1 = 4 ∨ q.1 = 5 by omega) with k | k
     ·have := t4 k; omega
     ·have := t5 k; omega
theorem hid_og {d : Dat} {y : List Int} (hH : Hid d.1 y) : y.getD (og d) 0 = 0 := by
 rw [List.getD_eq_getElem?_getD, List.getElem?_eq_none (by rw [hH.len]; exact Nat.le_refl _)]
 rfl
theorem hid_clb {e : Int} {d : Dat} (h : DOK d) {y : List Int} (hH : Hid d.1 y) (he : 0 ≤ e) {q : Clu} (hq : q ∈ d.2) (ht : fit e y q) {a b : Nat} {m : Int} (hc : ((a : Int), (b : Int), m) ∈ clb d.1.1 q) : y.getD b 0 - y.getD a 0 ≤ m + e := by
 have hv := (vld_of h.v).2.2 q hq
 have hn := h.n0
 obtain ⟨v1, v2, v3⟩ := vcl_of hv
 have A := hH.rg q.2.1.toNat (by omega)
 exact clb_fit hn.1 he (hid_og hH) (by omega) hv ht hc
theorem hid_prs {d : Dat} {y : List Int} (hH : Hid d.1 y) {s t a b : Nat} {m : Int} (hr : rdc d.1 s t = true) (e : (((a : Int), (b : Int), m) : Bnd) = ((t : Int), (s : Int), 0)) : y.getD b 0 - y.getD a 0 ≤ m := by
 simp only [Prod.mk.injEq] at e
 obtain ⟨e1, e2, rfl⟩ := e
 rw [show a = t by omega, show b = s by omega]
 have := hH.up s t (Ord.red_iff.1 hr).1
 omega
theorem hid_og2 {d : Dat} (h : DOK d) {y : List Int} (hH : Hid d.1 y) {c a b : Nat} {m : Int} (hc : c < og d) (e : (((a : Int), (b : Int), m) : Bnd) = ((c : Int), d.1.1, 0) ∨ (((a : Int), (b : Int), m) : Bnd) = (d.1.1, (c : Int), 2100)) : y.getD b 0 - y.getD a 0 + 389 ≤ m := by
 have l0 := hid_og hH
 have e0 := og_is h
 have R := hH.rg c hc
 simp only [Prod.mk.injEq] at e
 rcases e with ⟨e1, e2, rfl⟩ | ⟨e1, e2, rfl⟩
 ·rw [show a = c by omega, show b = og d by omega]; omega
 ·rw [show b = c by omega, show a = og d by omega]; omega
theorem pass_loop {n : Nat} {body : Int → Option (Int ⊕ (Unit ⊕ Bool))} (hb : ∀ k, k < n → body (k : Int) = some (.inl ((k : Int) + 1))) (he : body (n : Int) = some (.inr (.inl ()))) : loopM body 0 = some (.inl ()) := by
 obtain ⟨b, q1, q2⟩ := all_loop (n := n) (fun _ => true) (body := body) hb he
 have : b = true := q2.2 fun _ _ => rfl
 subst this
 exact q1
end Go.Proofs.YthfgccfaildmfaaGreatDoor
/-
 Dating: contradictions of few observations.
 No conditions.
-/
namespace Go.Proofs.YthfgccfaildmfaaGreatDoor
open Go Go.Abs Go.PE
open Ord (Rel clos)
set_option linter.unusedVariables false
set_option maxRecDepth 10000
theorem memD {α : Type} {xs : List α} {k : Nat} (h : k < xs.length) (z : α) : xs.getD k z ∈ xs := by
 rw [getD_of h]
 exact List.getElem_mem h
theorem getD_left {α : Type} {xs ys : List α} {k : Nat} (h : k < xs.length) (z : α) : (xs ++ ys).getD k z = xs.getD k z := by
 rw [List.getD_eq_getElem?_getD, List.getElem?_append_left h, ← List.getD_eq_getElem?_getD]
theorem getD_right {α : Type} {xs ys : List α} {k : Nat} (h : xs.length ≤ k) (z : α) : (xs ++ ys).getD k z = ys.getD (k - xs.length) z := by
 rw [List.getD_eq_getElem?_getD, List.getElem?_append_right h, ← List.getD_eq_getElem?_getD]
theorem nodup_len : ∀ (a b : List Int), a.Nodup → (∀ x ∈ a, x ∈ b) → a.length ≤ b.length := fun a b h1 h2 => nodup_sub a b h1 h2
structure Cyc (x : Sys) (m : Nat) (v : Nat → Nat) (S : Nat → Int) : Prop where
 pos : 1 ≤ m
 v0 : v 0 < x.1.toNat
 ret : v m = v 0
 s0 : S 0 = 0
 neg : S m < 0
 st : ∀ k, k < m → ((v k : Int), (v (k + 1) : Int), S (k + 1) - S k) ∈ x.2
 inj : ∀ a b, a < b → b < m → v a ≠ v b
theorem cyc_of {x : Sys} (hs : sys x = true) (ho : ovS x = true) : ∃ v S, Cyc x (cycL x.2).length v S ∧
  (∀ k (hk : k < (cycL x.2).length), 0 ≤ (cycL x.2)[k] ∧ (cycL x.2)[k] < x.2.length ∧ x.2.getD (cycL x.2)[k].toNat (0, 0, 0) = ((v k : Int), (v (k + 1) : Int), S (k + 1) - S k)) ∧
  (∀ u m w, u < x.1.toNat → m < (cycL x.2).length → WN x.2 u u m w → 0 ≤ w) ∧ (cycL x.2).length ≤ x.1.toNat := by
 obtain ⟨_, v, S, p1, p2, p3, p4, p5, p6, p7, p8⟩ := cyc_st hs ho
 have hst : ∀ k, k < (cycL x.2).length → ((v k : Int), (v (k + 1) : Int), S (k + 1) - S k) ∈ x.2 := fun k hk => by
  obtain ⟨g1, g2, g3⟩ := p7 k hk
  rw [← g3]
  exact memD (by omega) _
 exact ⟨v, S, ⟨p1, p3, p4, p5, p6, hst, fun a b hab hb => cyc_inj hs p3 p4 p5 p6 hst p8 hab hb⟩, p7, p8, p2⟩
theorem Cyc.wn {x : Sys} {m : Nat} {v : Nat → Nat} {S : Nat → Int} (h : Cyc x m v S) {bs : List Bnd} (hst : ∀ k, k < m → ((v k : Int), (v (k + 1) : Int), S (k + 1) - S k) ∈ bs) : WN bs (v 0) (v 0) m (S m) := by
 have w := seg hst 0 m (by omega)
 rw [Nat.zero_add, h.ret, h.s0, Int.sub_zero] at w
 exact w
theorem Cyc.cross {x : Sys} {m : Nat} {v : Nat → Nat} {S : Nat → Int} (h : Cyc x m v S) {a b : Nat} (hab : a < b) (hb : b < m) (x1 : v a = v (b + 1)) (x2 : v (a + 1) = v b) (hw : 0 ≤ (S (a + 1) - S a) + (S (b + 1) - S b)) : False := by
 have e1 : a + 1 = b := Classical.byContradiction fun hne => h.inj (a + 1) b (by omega) hb x2
 have e2 : b + 1 = m := Classical.byContradiction fun hne => h.inj a (b + 1) (by omega) (by omega) x1
 rw [e2, h.ret] at x1
 have e3 : a = 0 := Classical.byContradiction fun hne => h.inj 0 a (by omega) (by omega) x1.symm
 subst e3
 have e4 : b = 1 := by omega
 subst e4
 have e5 : m = 2 := by omega
 subst e5
 have r1 := h.s0
 have r2 := h.neg
 have r3 : S (0 + 1) = S 1 := rfl
 have r4 : S (1 + 1) = S 2 := rfl
 omega
theorem clb_two {n : Int} {q : Clu} (hv : vcl n q = true) : ∃ p r m1 m2, clb n q = [(p, r, m1), (r, p, m2)] ∧ 0 ≤ m1 + m2 := by
 obtain ⟨v1, v2, v3⟩ := vcl_of hv
 unfold clb
 split
 ·exact ⟨_, _, _, _, rfl, by omega⟩
 ·split
  ·exact ⟨_, _, _, _, rfl, by omega⟩
  ·split
   ·exact ⟨_, _, _, _, rfl, by omega⟩
   ·exact ⟨_, _, _, _, rfl, by omega⟩
theorem Cyc.clue {x : Sys} {m : Nat} {v : Nat → Nat} {S : Nat → Int} (h : Cyc x m v S) {n : Int} {q : Clu} (hv : vcl n q = true) {a b : Nat} (hab : a < b) (hb : b < m)
  (h1 : ((v a : Int), (v (a + 1) : Int), S (a + 1) - S a) ∈ clb n q) (h2 : ((v b : Int), (v (b + 1) : Int), S (b + 1) - S b) ∈ clb n q) : False := by
 obtain ⟨p, r, m1, m2, e, hm⟩ := clb_two hv
 rw [e] at h1 h2
 simp only [List.mem_cons, List.not_mem_nil, or_false, Prod.mk.injEq] at h1 h2
 have n1 := h.inj a b hab hb
 rcases h1 with ⟨x1, x2, x3⟩ | ⟨x1, x2, x3⟩ <;> rcases h2 with ⟨y1, y2, y3⟩ | ⟨y1, y2, y3⟩
 ·omega
 ·exact h.cross hab hb (by omega) (by omega) (by omega)
 ·exact h.cross hab hb (by omega) (by omega) (by omega)
 ·omega
theorem climb {T : Nat → Int} {m p j : Nat} (hj : j < m) (hpj : p ≠ j) (h : ∀ k, k < m → k ≠ p → T k ≤ T (k + 1)) (hp : p < m → T p ≤ T (p + 1) + 30) (hJ : T j + 389 ≤ T (j + 1)) : T 0 < T m := by
 have key : ∀ k, k ≤ m → (j < k → T 0 + 359 ≤ T k) ∧ (p < k → T 0 ≤ T k + 30) ∧ (j < k → ¬ p < k → T 0 + 389 ≤ T k) ∧ (¬ p < k → T 0 ≤ T k) := fun k => by
  induction k with
  | zero => intro _; exact ⟨fun h => by omega, fun h => by omega, fun h => by omega, fun _ => Int.le_refl _⟩
  | succ k ih =>
   intro hk
   obtain ⟨i1, i2, i3, i4⟩ := ih (by omega)
   have hs := h k (by omega)
   by_cases e : k = p
   ·have h1 := hp (by omega)
    have h2 := i4 (by omega)
    have h3 := fun hh : j < k => i3 hh (by omega)
    subst e
    refine ⟨fun hh => ?_, fun hh => by omega, fun hh h2 => by omega, fun hh => by omega⟩
    have := h3 (by omega)
    omega
   ·have hs := hs e
    by_cases e2 : k = j
    ·subst e2
     refine ⟨fun _ => ?_, fun hh => ?_, fun _ hh => ?_, fun hh => ?_⟩
     ·by_cases hpk : p < k
      ·have := i2 hpk; omega
      ·have := i4 hpk; omega
     ·have := i2 (by omega); omega
     ·have := i4 (by omega); omega
     ·have := i4 (by omega); omega
    ·refine ⟨fun hh => ?_, fun hh => ?_, fun hh h2 => ?_, fun hh => ?_⟩
     ·have := i1 (by omega); omega
     ·have := i2 (by omega); omega
     ·have := i3 (by omega) (by omega); omega
     ·have := i4 (by omega); omega
 have := (key m (Nat.le_refl _)).1 hj
 omega
theorem Cyc.far {d : Dat} (h : DOK d) {y : List Int} (hH : Hid d.1 y) (hn : near y d.2) {m : Nat} {v : Nat → Nat} {S : Nat → Int} (c : Cyc (bds d) m v S) {j : Nat} (hj : j < m) {a : Nat} (ha : a < og d)
  (e : ((v j : Int), (v (j + 1) : Int), S (j + 1) - S j) = ((a : Int), d.1.1, (0 : Int)) ∨ ((v j : Int), (v (j + 1) : Int), S (j + 1) - S j) = (d.1.1, (a : Int), (2100 : Int))) : False := by
 obtain ⟨q0, n1, n2⟩ := hn
 have hJ := hid_og2 h hH ha e
 have step : ∀ k, k < m → ¬ (q0 ∈ d.2 ∧ ((v k : Int), (v (k + 1) : Int), S (k + 1) - S k) ∈ clb d.1.1 q0) → S k - y.getD (v k) 0 ≤ S (k + 1) - y.getD (v (k + 1)) 0 := fun k hk hno => by
  rcases mem_bds.1 (c.st k hk) with ⟨a, ha, e1⟩ | ⟨q, hq, hc⟩ | ⟨s, t, hs, ht', hr, e1⟩
  ·have := hid_og2 h hH ha e1
   omega
  ·rcases n2 q hq with rfl | ht
   ·exact absurd ⟨hq, hc⟩ hno
   ·have := hid_clb h hH (Int.le_refl 0) hq (fit_of ht) hc
    omega
  ·have := hid_prs hH hr e1
   omega
 have fin : ∀ p, p ≠ j → (p < m → S p - y.getD (v p) 0 ≤ S (p + 1) - y.getD (v (p + 1)) 0 + 30) → (∀ k, k < m → k ≠ p → S k - y.getD (v k) 0 ≤ S (k + 1) - y.getD (v (k + 1)) 0) → False := fun p hpj hp hk => by
  have := climb (T := fun k => S k - y.getD (v k) 0) hj hpj hk hp (by omega)
  rw [c.ret, c.s0] at this
  have := c.neg
  omega
 by_cases ex : ∃ p, p < m ∧ p ≠ j ∧ q0 ∈ d.2 ∧ ((v p : Int), (v (p + 1) : Int), S (p + 1) - S p) ∈ clb d.1.1 q0
 ·obtain ⟨p, hp, hpj, hq, hb⟩ := ex
  refine fin p hpj (fun _ => ?_) fun k hk hkp => step k hk fun hh => ?_
  ·have := hid_clb (e := 30) h hH (by omega) hq (n1 hq) hb
   omega
  ·have hv := (vld_of h.v).2.2 q0 hq
   rcases Nat.lt_or_gt_of_ne hkp with h1 | h1
   ·exact c.clue hv h1 hp hh.2 hb
   ·exact c.clue hv h1 hk hb hh.2
 ·refine fin m (by omega) (fun h => by omega) fun k hk _ => ?_
  by_cases hkj : k = j
  ·subst hkj
   omega
  ·exact step k hk fun hh => ex ⟨k, hk, hkj, hh⟩
def pickC (d : Dat) (i : Int) : Clu := d.2.getD i.toNat (0, 0, 0, 0, 0)
def pickP (d : Dat) (i : Int) : Int × Int := (rpr d.1).getD (i - (d.2.length : Int)).toNat (0, 0)
def isC (d : Dat) (i : Int) : Bool := decide (i < (d.2.length : Int))
def onC (d : Dat) (l : List Int) : List Clu := (l.filter (isC d)).map (pickC d)
def onP (d : Dat) (l : List Int) : List (Int × Int) := (l.filter fun i => !isC d i).map (pickP d)
def onl (d : Dat) (l : List Int) : Dat := ((d.1.1, onP d l), onC d l)
def inl (d : Dat) (l : List Int) : Prop := ∀ i ∈ l, 0 ≤ i ∧ i < (d.2.length : Int) + (rpr d.1).length
theorem onC_len (d : Dat) (l : List Int) : (onC d l).length ≤ l.length := by unfold onC; rw [List.length_map]; exact List.length_filter_le _ _
theorem onP_len (d : Dat) (l : List Int) : (onP d l).length ≤ l.length := by unfold onP; rw [List.length_map]; exact List.length_filter_le _ _
theorem onC_mem {d : Dat} {l : List Int} (hi : inl d l) {q : Clu} (h : q ∈ onC d l) : ∃ i ∈ l, isC d i = true ∧ q = pickC d i ∧ q ∈ d.2 := by
 obtain ⟨i, h1, rfl⟩ := List.mem_map.1 h
 obtain ⟨h1, h2⟩ := List.mem_filter.1 h1
 have := hi i h1
 have h3 : i < (d.2.length : Int) := of_decide_eq_true h2
 exact ⟨i, h1, h2, rfl, memD (by omega) _⟩
theorem onP_mem {d : Dat} {l : List Int} (hi : inl d l) {p : Int × Int} (h : p ∈ onP d l) : ∃ i ∈ l, isC d i = false ∧ p = pickP d i ∧ p ∈ rpr d.1 := by
 obtain ⟨i, h1, rfl⟩ := List.mem_map.1 h
 obtain ⟨h1, h2⟩ := List.mem_filter.1 h1
 have h2 : isC d i = false := by simpa using h2
 have := hi i h1
 have h3 : ¬ i < (d.2.length : Int) := of_decide_eq_false h2
 exact ⟨i, h1, h2, rfl, memD (by omega) _⟩
theorem onl_rl {d : Dat} (h : DOK d) {l : List Int} (hi : inl d l) {a b : Nat} (hr : rl (onl d l).1 a b = true) : rl d.1 a b = true := by
 have hf := h.f
 exact Ord.clos_ind (d := rel0 (onP d l)) (P := fun a b => rl d.1 a b = true) (fun a b hab => by
  obtain ⟨_, _, _, _, hm⟩ := onP_mem hi (rel0_iff.1 hab)
  obtain ⟨s, t, _, _, h3, e⟩ := mem_rpr.1 hm
  have e := Prod.mk.inj e
  have e1 : a = s := by omega
  have e2 : b = t := by omega
  rw [e1, e2]
  exact (Ord.red_iff.1 h3).1) (fun a b c h1 h2 => rl_tri hf h1 h2) _ a b hr
theorem onl_dok {d : Dat} (h : DOK d) {l : List Int} (hi : inl d l) (hl : l.length ≤ 9) : DOK (onl d l) := by
 have h1 := onC_len d l
 have h2 := onP_len d l
 have hn := h.n0
 have hO := (vld_of h.v).1
 have hac : ∀ a, a < d.1.1.toNat → rl d.1 a a = false := fun a ha => by
  unfold okO at hO
  rw [Bool.and_eq_true] at hO
  have := List.all_eq_true.1 hO.2 a (List.mem_range.2 ha)
  simpa using this
 have ok : okO (onl d l).1 = true := by
  unfold okO frm
  rw [Bool.and_eq_true, Bool.and_eq_true, decide_eq_true_eq, List.all_eq_true]
  refine ⟨⟨⟨hn.1, hn.2, by show (onP d l).length ≤ 28; omega⟩, fun p hp => ?_⟩, List.all_eq_true.2 fun a ha => ?_⟩
  ·obtain ⟨_, _, _, _, hm⟩ := onP_mem hi hp
   obtain ⟨s, t, hs, ht, hr, rfl⟩ := mem_rpr.1 hm
   refine decide_eq_true ?_
   show 0 ≤ (s : Int) ∧ (s : Int) < d.1.1 ∧ 0 ≤ (t : Int) ∧ (t : Int) < d.1.1 ∧ (s : Int) ≠ (t : Int)
   refine ⟨by omega, by omega, by omega, by omega, fun e => ?_⟩
   have e : s = t := by omega
   subst e
   have := (Ord.red_iff.1 hr).1
   rw [hac s hs] at this
   cases this
  ·have ha := List.mem_range.1 ha
   cases hr : rl (onl d l).1 a a with
   | false => rfl
   | true => exact absurd (onl_rl h hi hr) (by rw [hac a ha]; decide)
 refine ⟨?_, by show (onC d l).length ≤ 11; omega, by show (onP d l).length ≤ 20; omega⟩
 unfold vld
 rw [ok, decide_eq_true (by show (onC d l).length ≤ 14; omega), Bool.true_and, Bool.true_and, List.all_eq_true]
 intro q hq
 obtain ⟨_, _, _, _, hm⟩ := onC_mem hi hq
 exact (vld_of h.v).2.2 q hm
theorem onl_hid {d : Dat} (h : DOK d) {l : List Int} (hi : inl d l) {y : List Int} (hH : Hid d.1 y) : Hid (onl d l).1 y :=
 ⟨hH.len, hH.rg, fun a b hr => hH.up a b (onl_rl h hi hr)⟩
theorem onl_near {d : Dat} {l : List Int} (hi : inl d l) {y : List Int} (hn : near y d.2) : near y (onl d l).2 := by
 obtain ⟨q0, n1, n2⟩ := hn
 exact ⟨q0, fun hq => n1 (onC_mem hi hq).choose_spec.2.2.2, fun q hq => n2 q (onC_mem hi hq).choose_spec.2.2.2⟩
theorem onl_rdc {d : Dat} (h : DOK d) {l : List Int} (hi : inl d l) {a b : Nat} (hm : ((a : Int), (b : Int)) ∈ onP d l) : rdc (onl d l).1 a b = true := by
 obtain ⟨_, _, _, _, hm2⟩ := onP_mem hi hm
 obtain ⟨s, t, hs, ht, hr, e⟩ := mem_rpr.1 hm2
 have e := Prod.mk.inj e
 have e1 : a = s := by omega
 have e2 : b = t := by omega
 subst e1 e2
 have := Ord.red_iff.1 hr
 exact Ord.red_iff.2 ⟨Ord.clos_sub (rel0_iff.2 hm) _, fun k hk hh => this.2 k hk ⟨onl_rl h hi hh.1, onl_rl h hi hh.2⟩⟩
theorem onl_from {d : Dat} (h : DOK d) {l : List Int} (hi : inl d l) (h2 : DOK (onl d l)) {c : Bnd} (hc : c ∈ (bds (onl d l)).2) :
  (∃ a : Nat, a < og d ∧ (c = ((a : Int), d.1.1, 0) ∨ c = (d.1.1, (a : Int), 2100))) ∨ ∃ i ∈ l, (isC d i = true ∧ pickC d i ∈ d.2 ∧ c ∈ clb d.1.1 (pickC d i)) ∨ (isC d i = false ∧ pickP d i ∈ rpr d.1 ∧ c = ((pickP d i).2, (pickP d i).1, 0)) := by
 rcases mem_bds.1 hc with ⟨a, ha, e⟩ | ⟨q, hq, hc⟩ | ⟨a, b, ha, hb, hr, rfl⟩
 ·exact .inl ⟨a, ha, e⟩
 ·obtain ⟨i, h1, h2, rfl, h3⟩ := onC_mem hi hq
  exact .inr ⟨i, h1, .inl ⟨h2, h3, hc⟩⟩
 ·obtain ⟨i, h1, h2, e, h3⟩ := onP_mem hi (red_pair h2.f hr)
  rw [e] at h3
  exact .inr ⟨i, h1, .inr ⟨h2, h3, by rw [← e]⟩⟩
theorem prs_in {d : Dat} {p : Int × Int} (h : p ∈ rpr d.1) : (p.2, p.1, (0 : Int)) ∈ (bds d).2 := by
 obtain ⟨a, b, ha, hb, hr, rfl⟩ := mem_rpr.1 h
 exact mem_bds.2 (.inr (.inr ⟨a, b, ha, hb, hr, rfl⟩))
theorem onl_sub {d : Dat} (h : DOK d) {l : List Int} (hi : inl d l) (h2 : DOK (onl d l)) {c : Bnd} (hc : c ∈ (bds (onl d l)).2) : c ∈ (bds d).2 := by
 rcases onl_from h hi h2 hc with ⟨a, ha, e⟩ | ⟨i, _, ⟨_, h3, h4⟩ | ⟨_, h3, rfl⟩⟩
 ·exact mem_bds.2 (.inl ⟨a, ha, e⟩)
 ·exact mem_bds.2 (.inr (.inl ⟨_, h3, h4⟩))
 ·exact prs_in h3
theorem few_len {d : Dat} (h : DOK d) {y : List Int} (hH : Hid d.1 y) (hn : near y d.2) {few : List Int} (hi : inl d few) (h2 : DOK (onl d few)) {m : Nat} {v : Nat → Nat} {S : Nat → Int} (c : Cyc (bds (onl d few)) m v S) : m ≤ few.length := by
 have hobs : ∀ k, ∃ i : Int, k < m → i ∈ few ∧ ((isC d i = true ∧ pickC d i ∈ d.2 ∧ ((v k : Int), (v (k + 1) : Int), S (k + 1) - S k) ∈ clb d.1.1 (pickC d i)) ∨ (isC d i = false ∧ ((v k : Int), (v (k + 1) : Int), S (k + 1) - S k) = ((pickP d i).2, (pickP d i).1, 0))) := fun k => by
  by_cases hk : k < m
  ·rcases onl_from h hi h2 (c.st k hk) with ⟨a, ha, e⟩ | ⟨i, h1, hh⟩
   ·exact (c.far h2 (onl_hid h hi hH) (onl_near hi hn) hk ha e).elim
   ·refine ⟨i, fun _ => ⟨h1, ?_⟩⟩
    rcases hh with hh | ⟨hh1, _, hh2⟩
    ·exact .inl hh
    ·exact .inr ⟨hh1, hh2⟩
  ·exact ⟨0, fun h => absurd h hk⟩
 obtain ⟨I, hI⟩ := Classical.axiomOfChoice hobs
 have hinj : ∀ a b, a < b → b < m → I a ≠ I b := fun a b hab hb e => by
  obtain ⟨m1, q1⟩ := hI a (by omega)
  obtain ⟨_, q2⟩ := hI b hb
  rw [← e] at q2
  rcases q1 with ⟨i1, mm, b1⟩ | ⟨i1, b1⟩ <;> rcases q2 with ⟨i2, _, b2⟩ | ⟨i2, b2⟩
  ·exact c.clue ((vld_of h.v).2.2 _ mm) hab hb b1 b2
  ·rw [i1] at i2; cases i2
  ·rw [i1] at i2; cases i2
  ·have e1 := congrArg (·.1) b1
   have e2 := congrArg (·.1) b2
   dsimp only at e1 e2
   exact c.inj a b hab hb (by omega)
 have hnd : ((List.range m).map I).Nodup := by
  unfold List.Nodup
  rw [List.pairwise_map]
  refine List.Pairwise.imp_of_mem (fun {a b} ha hb hab => ?_) (List.pairwise_lt_range (n := m))
  exact hinj a b hab (List.mem_range.1 hb)
 have := nodup_len _ few hnd fun x hx => by
  obtain ⟨k, hk, rfl⟩ := List.mem_map.1 hx
  exact (hI k (List.mem_range.1 hk)).1
 rwa [List.length_map, List.length_range] at this
theorem few_good {d : Dat} (h : DOK d) {y : List Int} (hH : Hid d.1 y) (hn : near y d.2) {few : List Int} (hi : inl d few) (hl : few.length < (cycL (bds d).2).length) (h9 : few.length ≤ 9) : DOK (onl d few) ∧ ovS (bds (onl d few)) = false := by
 have h2 := onl_dok h hi h9
 refine ⟨h2, ?_⟩
 cases ho : ovS (bds (onl d few)) with
 | false => rfl
 | true =>
  exfalso
  obtain ⟨v, S, c, _, _, _⟩ := cyc_of h2.s ho
  have hm := few_len h hH hn hi h2 c
  have w := c.wn (bs := (bds d).2) fun k hk => onl_sub h hi h2 (c.st k hk)
  have hv : v 0 < (bds d).1.toNat := c.v0
  have ho2 := ov_of_walk h.s hv c.neg w.wk
  obtain ⟨_, _, _, _, hmin, _⟩ := cyc_of h.s ho2
  have := hmin (v 0) _ _ hv (by omega) w
  have := c.neg
  omega
def ownr (d : Dat) (k : Nat) : Int := if k < 2 * og d then -1 else if k < 2 * og d + 2 * d.2.length then (((k - 2 * og d) / 2 : Nat) : Int) else ((k - 2 * og d - d.2.length : Nat) : Int)
theorem flat2 {α β : Type} {f : α → List β} (hf : ∀ q, (f q).length = 2) (z : β) (z' : α) : ∀ (L : List α) (k : Nat), k < 2 * L.length → (L.flatMap f).getD k z ∈ f (L.getD (k / 2) z')
 | [], k, h => by simp at h
 | q :: L, k, h => by
  rw [List.flatMap_cons]
  have h2 := hf q
  rcases Nat.lt_or_ge k 2 with hk | hk
  ·have e : k / 2 = 0 := by omega
   rw [e, List.getD_cons_zero, getD_left (by omega)]
   exact memD (by omega) _
  ·have e : k / 2 = (k - 2) / 2 + 1 := by omega
   rw [getD_right (by omega), h2, e, List.getD_cons_succ]
   refine flat2 hf z z' L (k - 2) ?_
   rw [List.length_cons] at h
   omega
theorem own_is {d : Dat} {k : Nat} (hk : k < (bds d).2.length) :
  (ownr d k = -1 ∧ ∃ a : Nat, a < og d ∧ ((bds d).2.getD k (0, 0, 0) = ((a : Int), d.1.1, 0) ∨ (bds d).2.getD k (0, 0, 0) = (d.1.1, (a : Int), 2100))) ∨
  (∃ j : Nat, j < d.2.length ∧ ownr d k = (j : Int) ∧ (bds d).2.getD k (0, 0, 0) ∈ clb d.1.1 (d.2.getD j (0, 0, 0, 0, 0))) ∨
  ∃ j : Nat, j < (rpr d.1).length ∧ ownr d k = (d.2.length : Int) + j ∧ (bds d).2.getD k (0, 0, 0) = (((rpr d.1).getD j (0, 0)).2, ((rpr d.1).getD j (0, 0)).1, 0) := by
 have lA : (obs d.1.1 d.1.1.toNat).length = 2 * og d := obs_len _ _
 have lB : (d.2.flatMap (clb d.1.1)).length = 2 * d.2.length := clbs_len _ _
 have lC : (prs (rpr d.1)).length = (rpr d.1).length := prs_len _
 have hk' : k < (obs d.1.1 d.1.1.toNat ++ d.2.flatMap (clb d.1.1) ++ prs (rpr d.1)).length := hk
 simp only [List.length_append, lA, lB, lC] at hk'
 show (ownr d k = -1 ∧ ∃ a : Nat, a < og d ∧ ((obs d.1.1 d.1.1.toNat ++ d.2.flatMap (clb d.1.1) ++ prs (rpr d.1)).getD k (0, 0, 0) = _ ∨ (obs d.1.1 d.1.1.toNat ++ d.2.flatMap (clb d.1.1) ++ prs (rpr d.1)).getD k (0, 0, 0) = _)) ∨ (∃ j : Nat, _ ∧ _ ∧ (obs d.1.1 d.1.1.toNat ++ d.2.flatMap (clb d.1.1) ++ prs (rpr d.1)).getD k (0, 0, 0) ∈ _) ∨ ∃ j : Nat, _ ∧ _ ∧ (obs d.1.1 d.1.1.toNat ++ d.2.flatMap (clb d.1.1) ++ prs (rpr d.1)).getD k (0, 0, 0) = _
 unfold ownr
 by_cases h1 : k < 2 * og d
 ·refine .inl ⟨if_pos h1, ?_⟩
  rw [List.append_assoc, getD_left (by omega)]
  have hm := memD (xs := obs d.1.1 d.1.1.toNat) (k := k) (by omega) (0, 0, 0)
  generalize (obs d.1.1 d.1.1.toNat).getD k (0, 0, 0) = c at hm
  unfold obs at hm
  obtain ⟨a, ha, hc⟩ := List.mem_flatMap.1 hm
  refine ⟨a, List.mem_range.1 ha, ?_⟩
  simpa using hc
 ·rw [if_neg h1]
  by_cases h2 : k < 2 * og d + 2 * d.2.length
  ·refine .inr (.inl ⟨(k - 2 * og d) / 2, by omega, if_pos h2, ?_⟩)
   rw [List.append_assoc, getD_right (by omega), lA, getD_left (by omega)]
   exact flat2 (clb_len _) _ _ _ _ (by omega)
  ·refine .inr (.inr ⟨k - 2 * og d - 2 * d.2.length, by omega, by rw [if_neg h2]; omega, ?_⟩)
   have lAB : (obs d.1.1 d.1.1.toNat ++ d.2.flatMap (clb d.1.1)).length = 2 * og d + 2 * d.2.length := by rw [List.length_append, lA, lB]
   rw [getD_right (by omega), lAB, show k - (2 * og d + 2 * d.2.length) = k - 2 * og d - 2 * d.2.length by omega, getD_of (by omega), getD_of (by omega)]
   unfold prs
   rw [List.getElem_map]
end Go.Proofs.YthfgccfaildmfaaGreatDoor
/-
 Dating: what Blame answers.
 No conditions.
-/
namespace Go.Proofs.YthfgccfaildmfaaGreatDoor
open Go Go.Abs Go.PE
open Ord (Rel clos)
set_option linter.unusedVariables false
set_option maxRecDepth 10000
def ownF (d : Dat) (l : List Int) : List Int := (l.map fun e => ownr d e.toNat).filter fun i => decide (0 ≤ i)
def ownL (d : Dat) : List Int := ownF d (cycL (bds d).2)
def blL (d : Dat) : List Int := if ovS (bds d) = true then Lib.compact (isortI (ownL d)) else []
theorem ownF_len (d : Dat) (l : List Int) : (ownF d l).length ≤ l.length := by
 unfold ownF
 refine Nat.le_trans (List.length_filter_le _ _) ?_
 rw [List.length_map]
 exact Nat.le_refl _
theorem ownF_snoc (d : Dat) (l : List Int) (e : Int) : ownF d (l ++ [e]) = if 0 ≤ ownr d e.toNat then ownF d l ++ [ownr d e.toNat] else ownF d l := by
 unfold ownF
 rw [List.map_append, List.filter_append]
 split
 ·rename_i h; simp [h]
 ·rename_i h; simp [h]
theorem own_0 {d : Dat} {k : Nat} (h : k < 2 * og d) : ownr d k = -1 := if_pos h
theorem own_1 {d : Dat} {j : Nat} (h : j < d.2.length) : ownr d (2 * og d + 2 * j) = (j : Int) ∧ ownr d (2 * og d + 2 * j + 1) = (j : Int) := by
 unfold ownr
 rw [if_neg (by omega), if_pos (by omega), if_neg (by omega), if_pos (by omega)]
 constructor <;> omega
theorem own_2 {d : Dat} {j : Nat} : ownr d (2 * og d + 2 * d.2.length + j) = (d.2.length : Int) + j := by
 unfold ownr
 rw [if_neg (by omega), if_neg (by omega)]
 omega
theorem app8 {m : Nat} {g : Nat → Int} {y : Int} (hy : y = g m) (h : m ≤ 1000) : appM (nat_lit 8) (row m g) [y] = some (row (m + 1) g) := app_rowOf hy (by show (m + 1) * 8 ≤ 140737488355328; omega)
theorem m16_eq {d : Dat} (h : DOK d) : m16 d = some (blL d, ovS (bds d)) := by
 unfold m16
 rw [show (((d.1.1, d.1.2), d.2) : Dat) = d from rfl, m24_eq, if_pos h.v, Option.bind_some]
 refine bind_of (m50_eq (bds d)) ?_
 dsimp only
 unfold cycR blL
 rw [h.s, Bool.true_and]
 cases ho : ovS (bds d) with
 | false => rfl
 | true =>
  rw [show PE.orM (PE.notM (eqM (0 : Int) (0 : Int))) (PE.notM (bif true then (cycL (bds d).2, true) else (([] : List Int), false)).2) = false from rfl, cond_false, if_pos rfl]
  have hn := h.n0
  have e := og_is h
  have hc := h.c
  have hO := (vld_of h.v).1
  have hcl := (vld_of h.v).2.2
  have hr := rpr_len d.1 hO
  have hbl : (bds d).2.length = 2 * og d + 2 * d.2.length + (rpr d.1).length := by
   show (obs d.1.1 d.1.1.toNat ++ d.2.flatMap (clb d.1.1) ++ prs (rpr d.1)).length = _
   simp only [List.length_append, obs_len, clbs_len, prs_len]
   rfl
  refine bind_of (x := row (2 * og d + 2 * d.2.length + (rpr d.1).length) (ownr d)) ?_ ?_
  ·refine bind_of (x := .inl (row (2 * og d) (ownr d))) ?_ ?_
   ·refine count_from (fun i => row (2 * i) (ownr d)) (og d) rfl (fun i hi => ?_) ?_
    ·rw [ltI (by dsimp only; omega), cond_true]
     dsimp only
     rw [app8 (own_0 (by omega)).symm (by omega), Option.bind_some, app8 (own_0 (by omega)).symm (by omega), Option.bind_some, wrap_in (by omega) (by omega)]
     rfl
    ·rw [geI (by dsimp only; omega), cond_false]
   ·rw [Sum.elim_inl]
    refine bind_of (x := .inl (row (2 * og d + 2 * d.2.length) (ownr d))) ?_ ?_
    ·refine count_from (fun i => row (2 * og d + 2 * i) (ownr d)) d.2.length rfl (fun i hi => ?_) ?_
     ·have hv := vcl_of (hcl _ (List.getElem_mem hi))
      dsimp only
      rw [ltI (by show (i : Int) < (d.2.length : Int); omega), cond_true, idxM_lt hi, Option.bind_some]
      have o1 := own_1 hi
      have two : Option.bind (appM (nat_lit 8) (row (2 * og d + 2 * i) (ownr d)) [(i : Int)]) (fun r => Option.bind (appM (nat_lit 8) r [(i : Int)]) fun r => (some (Sum.inr r) : Option (List Int ⊕ List Int))) = some (.inr (row (2 * og d + 2 * (i + 1)) (ownr d))) := by
       rw [app8 o1.1.symm (by omega), Option.bind_some, app8 o1.2.symm (by omega), Option.bind_some]
       rfl
      generalize d.2[i] = c at hv ⊢
      obtain ⟨v1, v2, hv⟩ := hv
      have e138 : m138 c = some (c.2.2.2.1, IntKind.wrap IntKind.i64 (c.2.2.2.2 - 1)) := rfl
      have e139 : m139 c = some (c.2.2.2.1, 2100) := rfl
      have e140 : m140 c = some (0, c.2.2.2.1) := rfl
      have e141 : m141 c = some (c.2.2.2.1, c.2.2.2.2) := rfl
      refine bind_of (x := .inr (row (2 * og d + 2 * (i + 1)) (ownr d))) ?_ ?_
      ·by_cases k1 : c.1 = 1
       ·rw [show PE.orM (eqM c.1 (1 : Int)) (PE.orM (eqM c.1 (2 : Int)) (eqM c.1 (3 : Int))) = true by rw [eqI k1]; rfl, cond_true, eqI k1, cond_true]
        exact bind_of e138 two
       ·by_cases k2 : c.1 = 2
        ·rw [show PE.orM (eqM c.1 (1 : Int)) (PE.orM (eqM c.1 (2 : Int)) (eqM c.1 (3 : Int))) = true by rw [neI k1, eqI k2]; rfl, cond_true, neI k1, cond_false, eqI k2, cond_true]
         exact bind_of e139 two
        ·by_cases k3 : c.1 = 3
         ·rw [show PE.orM (eqM c.1 (1 : Int)) (PE.orM (eqM c.1 (2 : Int)) (eqM c.1 (3 : Int))) = true by rw [neI k1, neI k2, eqI k3]; rfl, cond_true, neI k1, cond_false, neI k2, cond_false, eqI k3, cond_true]
          exact bind_of e140 two
         ·rw [show PE.orM (eqM c.1 (1 : Int)) (PE.orM (eqM c.1 (2 : Int)) (eqM c.1 (3 : Int))) = false by rw [neI k1, neI k2, neI k3]; rfl, cond_false]
          have e45 : (bif eqM c.1 (4 : Int) then m141 c else bif eqM c.1 (5 : Int) then m141 c else none) = some (c.2.2.2.1, c.2.2.2.2) := by
           by_cases k4 : c.1 = 4
           ·rw [eqI k4, cond_true, e141]
           ·have k5 : c.1 = 5 := by omega
            rw [neI k4, cond_false, eqI k5, cond_true, e141]
          exact bind_of e45 two
      ·rw [Sum.elim_inr, wrap_in (by omega) (by omega)]
     ·dsimp only
      rw [geI (by show (d.2.length : Int) ≤ (d.2.length : Int); omega), cond_false]
    ·rw [Sum.elim_inl, show ((d.1.1, d.1.2) : Int × List (Int × Int)) = d.1 from rfl, m28_eq hO, Option.bind_some]
     show Option.bind (loopM _ _) _ = _
     have hu : lst d.1.1.toNat (rdc d.1) d.1.1.toNat = rpr d.1 := rfl
     rw [hu]
     generalize hlr : rpr d.1 = R at hr hu hbl ⊢
     refine bind_of (x := row (2 * og d + 2 * d.2.length + R.length) (ownr d)) ?_ rfl
     refine count_from (fun i => row (2 * og d + 2 * d.2.length + i) (ownr d)) R.length rfl (fun i hi => ?_) ?_
     ·dsimp only
      rw [ltI (by show (i : Int) < (R.length : Int); omega), cond_true, idxM_lt hi, Option.bind_some, show lenM d.2 = (d.2.length : Int) from rfl, wrap_in (n := (d.2.length : Int) + i) (by omega) (by omega), app8 own_2.symm (by omega), Option.bind_some, wrap_in (by omega) (by omega)]
      rfl
     ·dsimp only
      rw [geI (by show (R.length : Int) ≤ (R.length : Int); omega), cond_false]
  ·obtain ⟨v, S, c, hC, _, hCl⟩ := cyc_of h.s ho
   have hN := bds_n h
   rw [hbl] at hC
   show Option.bind (loopM _ _) _ = _
   refine bind_of (x := ownL d) ?_ ?_
   ·unfold ownL
    generalize cycL (bds d).2 = C at *
    rw [show ownF d C = ownF d (C.take C.length) by rw [List.take_length]]
    refine count_from (fun k => ownF d (C.take k)) C.length rfl (fun k hk => ?_) ?_
    ·obtain ⟨g1, g2, _⟩ := hC k hk
     have hlen := ownF_len d (C.take k)
     rw [List.length_take] at hlen
     dsimp only
     rw [ltI (by show (k : Int) < (C.length : Int); omega), cond_true]
     rw [List.take_succ_eq_append_getElem hk, ownF_snoc]
     refine bind_of (x := if 0 ≤ ownr d C[k].toNat then ownF d (C.take k) ++ [ownr d C[k].toNat] else ownF d (C.take k)) ?_ (by rw [wrap_in (by omega) (by omega)])
     refine bind_of (idxM_lt hk) ?_
     have a1 : chkM C[k] (lenM (row (2 * og d + 2 * d.2.length + (rpr d.1).length) (ownr d))) = some () := chkM_of g1 (by rw [lenRow]; exact g2)
     have a2 : idxM (row (2 * og d + 2 * d.2.length + (rpr d.1).length) (ownr d)) C[k] = some (ownr d C[k].toNat) := row_idxI g1 g2
     refine bind_of a1 (bind_of a2 ?_)
     by_cases hp : 0 ≤ ownr d C[k].toNat
     ·rw [leI hp, cond_true, if_pos hp]
      refine bind_of a1 (bind_of a2 ?_)
      exact bind_of (appM_of (by show ((ownF d (C.take k)).length + 1) * 8 ≤ 140737488355328; omega)) rfl
     ·rw [gtI (by omega), cond_false, if_neg hp]
    ·dsimp only
     rw [geI (by show (C.length : Int) ≤ (C.length : Int); omega), cond_false]
   ·have hl : (ownL d).length ≤ 16 := by
     have := ownF_len d (cycL (bds d).2)
     unfold ownL
     omega
    have e1 : sortI (ownL d) = some (isortI (ownL d)) := by
     unfold sortI
     rw [decide_eq_true (by omega)]
    refine bind_of e1 ?_
    have hp := (isortI_perm (ownL d)).length_eq
    have e2 : compI (isortI (ownL d)) = some (Lib.compact (isortI (ownL d))) := by
     unfold compI
     rw [decide_eq_true (by omega)]
    exact bind_of e2 rfl
end Go.Proofs.YthfgccfaildmfaaGreatDoor
/-
 Dating: the law DatingBlames.
 No conditions.
-/
namespace Go.Proofs.YthfgccfaildmfaaGreatDoor
open Go Go.Abs Go.PE
open Ord (Rel clos)
set_option linter.unusedVariables false
set_option maxRecDepth 10000
theorem comp_lt {zs : List Int} (h : List.Pairwise (· ≤ ·) zs) : List.Pairwise (· < ·) (Lib.compact zs) := by
 unfold Lib.compact Lib.compactUpTo
 rw [List.pairwise_map]
 refine List.Pairwise.imp_of_mem (fun {a b} ha hb hab => ?_) ((List.pairwise_lt_range (n := zs.length)).filter _)
 have hal : a < zs.length := List.mem_range.1 (List.mem_filter.1 ha).1
 have hbl : b < zs.length := List.mem_range.1 (List.mem_filter.1 hb).1
 have hk := (List.mem_filter.1 hb).2
 unfold Lib.keeps at hk
 have hk := of_decide_eq_true hk
 rw [getB (by simpa using hbl), getB (by simp; omega)] at hk
 rw [getB (by simpa using hal), getB (by simpa using hbl)]
 simp only [List.getElem_toArray] at hk ⊢
 have hs := List.pairwise_iff_getElem.1 h
 have h1 : zs[b - 1] ≤ zs[b] := hs (b - 1) b (by omega) hbl (by omega)
 have h2 : zs[a] ≤ zs[b - 1] := by
  by_cases e : a = b - 1
  ·subst e; exact Int.le_refl _
  ·exact hs a (b - 1) hal (by omega) (by omega)
 rcases hk with h0 | hne
 ·omega
 ·omega
theorem mem_comp {zs : List Int} : ∀ (j : Nat) (hj : j < zs.length), zs[j] ∈ Lib.compact zs
 | j, hj => by
  by_cases hk : Lib.keeps zs.toArray j = true
  ·unfold Lib.compact Lib.compactUpTo
   refine List.mem_map.2 ⟨j, List.mem_filter.2 ⟨List.mem_range.2 hj, hk⟩, ?_⟩
   rw [getB (by simpa using hj)]
   simp
  ·have hk : ¬ (j = 0 ∨ zs.toArray[j]! ≠ zs.toArray[j - 1]!) := fun h => hk (decide_eq_true h)
   have h0 : j ≠ 0 := fun h => hk (.inl h)
   have he : zs.toArray[j]! = zs.toArray[j - 1]! := Classical.byContradiction fun h => hk (.inr h)
   rw [getB (by simpa using hj), getB (by simp; omega)] at he
   simp only [List.getElem_toArray] at he
   rw [he]
   exact mem_comp (j - 1) (by omega)
 termination_by j => j
theorem blL_lt (d : Dat) : List.Pairwise (· < ·) (blL d) := by
 unfold blL
 split
 ·exact comp_lt (isortI_sorted _)
 ·exact List.Pairwise.nil
theorem blL_of {d : Dat} (ho : ovS (bds d) = true) {e : Int} (h : e ∈ cycL (bds d).2) (h0 : 0 ≤ ownr d e.toNat) : ownr d e.toNat ∈ blL d := by
 have h1 : ownr d e.toNat ∈ isortI (ownL d) := (isortI_perm _).mem_iff.2 (List.mem_filter.2 ⟨List.mem_map.2 ⟨e, h, rfl⟩, decide_eq_true h0⟩)
 obtain ⟨j, hj, e1⟩ := List.mem_iff_getElem.1 h1
 rw [← e1]
 unfold blL
 rw [if_pos ho]
 exact mem_comp j hj
theorem of_blL {d : Dat} (ho : ovS (bds d) = true) {i : Int} (h : i ∈ blL d) : 0 ≤ i ∧ ∃ e ∈ cycL (bds d).2, ownr d e.toNat = i := by
 unfold blL at h
 rw [if_pos ho] at h
 have h1 := (isortI_perm _).mem_iff.1 (compact_mem h)
 obtain ⟨h1, h2⟩ := List.mem_filter.1 h1
 obtain ⟨e, h3, h4⟩ := List.mem_map.1 h1
 exact ⟨of_decide_eq_true h2, e, h3, h4⟩
theorem blL_len (d : Dat) (ho : ovS (bds d) = true) : (blL d).length ≤ (cycL (bds d).2).length := by
 unfold blL
 rw [if_pos ho]
 refine Nat.le_trans (compact_len _) ?_
 rw [(isortI_perm _).length_eq]
 exact ownF_len _ _
theorem bl_in {d : Dat} (h : DOK d) (ho : ovS (bds d) = true) : inl d (blL d) := fun i hi => by
 obtain ⟨h0, e, he, rfl⟩ := of_blL ho hi
 obtain ⟨v, S, c, hC, _, _⟩ := cyc_of h.s ho
 obtain ⟨k, hk, rfl⟩ := List.mem_iff_getElem.1 he
 obtain ⟨g1, g2, _⟩ := hC k hk
 rcases own_is (d := d) (k := (cycL (bds d).2)[k].toNat) (by omega) with ⟨e1, _⟩ | ⟨j, hj, e1, _⟩ | ⟨j, hj, e1, _⟩ <;> omega
theorem mem_onC {d : Dat} {l : List Int} {i : Int} (hi : i ∈ l) (h : isC d i = true) : pickC d i ∈ onC d l := List.mem_map.2 ⟨i, List.mem_filter.2 ⟨hi, h⟩, rfl⟩
theorem mem_onP {d : Dat} {l : List Int} {i : Int} (hi : i ∈ l) (h : isC d i = false) : pickP d i ∈ onP d l := List.mem_map.2 ⟨i, List.mem_filter.2 ⟨hi, by rw [h]; rfl⟩, rfl⟩
theorem bl_bad {d : Dat} (h : DOK d) (ho : ovS (bds d) = true) : DOK (onl d (blL d)) ∧ ovS (bds (onl d (blL d))) = true := by
 obtain ⟨v, S, c, hC, _, hCl⟩ := cyc_of h.s ho
 have hin := bl_in h ho
 have hl := blL_len d ho
 have hn := h.n0
 have hN := bds_n h
 have e := og_is h
 have h2 := onl_dok h hin (by omega)
 refine ⟨h2, ?_⟩
 have hst : ∀ k, k < (cycL (bds d).2).length → ((v k : Int), (v (k + 1) : Int), S (k + 1) - S k) ∈ (bds (onl d (blL d))).2 := fun k hk => by
  obtain ⟨g1, g2, g3⟩ := hC k hk
  have hm := List.getElem_mem hk
  have hb := blL_of ho hm
  rw [← g3]
  generalize (cycL (bds d).2)[k] = e at *
  rcases own_is (d := d) (k := e.toNat) (by omega) with ⟨_, a, ha, hc⟩ | ⟨j, hj, e1, hc⟩ | ⟨j, hj, e1, hc⟩
  ·exact mem_bds.2 (.inl ⟨a, ha, hc⟩)
  ·rw [e1] at hb
   have hb := hb (by omega)
   have hq := mem_onC hb (d := d) (decide_eq_true (by omega))
   exact mem_bds.2 (.inr (.inl ⟨_, hq, hc⟩))
  ·rw [e1] at hb
   have hb := hb (by omega)
   have hq := mem_onP hb (d := d) (decide_eq_false (by omega))
   have ep : pickP d ((d.2.length : Int) + j) = (rpr d.1).getD j (0, 0) := by
    unfold pickP
    rw [show ((d.2.length : Int) + j - (d.2.length : Int)).toNat = j by omega]
   rw [ep] at hq
   rw [hc]
   obtain ⟨s, t, hs, ht, _, e2⟩ := mem_rpr.1 (memD hj ((0 : Int), (0 : Int)))
   rw [e2] at hq ⊢
   exact mem_bds.2 (.inr (.inr ⟨s, t, hs, ht, onl_rdc h hin hq, rfl⟩))
 exact ov_of_walk h2.s (i := v 0) c.v0 c.neg (c.wn hst).wk
theorem bl_pos {d : Dat} (h : DOK d) (ho : ovS (bds d) = true) : 1 ≤ (blL d).length := by
 obtain ⟨h2, hb⟩ := bl_bad h ho
 rcases Nat.lt_or_ge 0 (blL d).length with h0 | h0
 ·exact h0
 ·exfalso
  have hnil : blL d = [] := List.length_eq_zero_iff.1 (by omega)
  rw [hnil] at h2 hb
  have : kp (bds (onl d [])) fun _ => 0 := fun a b m hm => by
   rcases onl_from h (l := []) (fun i hi => by cases hi) h2 hm with ⟨c, hc, e | e⟩ | ⟨i, hi, _⟩
   ·have := congrArg (·.2.2) e
    dsimp only at this ⊢
    omega
   ·have := congrArg (·.2.2) e
    dsimp only at this ⊢
    omega
   ·cases hi
  rw [kp_good h2.s this] at hb
  cases hb
theorem onC_app (d : Dat) (a b : List Int) : onC d (a ++ b) = onC d a ++ onC d b := by unfold onC; rw [List.filter_append, List.map_append]
theorem onP_app (d : Dat) (a b : List Int) : onP d (a ++ b) = onP d a ++ onP d b := by unfold onP; rw [List.filter_append, List.map_append]
theorem onC_1 {d : Dat} {i : Int} (h : isC d i = true) : onC d [i] = [pickC d i] ∧ onP d [i] = [] := by
 unfold onC onP
 simp [h]
theorem onP_1 {d : Dat} {i : Int} (h : isC d i = false) : onC d [i] = [] ∧ onP d [i] = [pickP d i] := by
 unfold onC onP
 simp [h]
theorem idxD {α : Type} {xs : List α} {i : Nat} (h : i < xs.length) (d : α) : idxM xs (i : Int) = some (xs.getD i d) := by
 rw [idxM_lt h, getD_of h]
theorem m30_eq {d : Dat} (h : DOK d) {l : List Int} (hi : inl d l) (hl : l.length ≤ 1000) : m30 (d, l) = some (onl d l) := by
 have hO := (vld_of h.v).1
 have hc := h.c
 have hr := rpr_len d.1 hO
 unfold m30
 dsimp only
 rw [show ((d.1.1, d.1.2) : Int × List (Int × Int)) = d.1 from rfl]
 refine bind_of (m28_eq hO) ?_
 dsimp only
 rw [show lst d.1.1.toNat (rdc d.1) d.1.1.toNat = rpr d.1 from rfl]
 refine bind_of (x := (d.1.1, onP d l, onC d l)) ?_ rfl
 have L : ∀ k, k ≤ l.length → (onP d (l.take k)).length ≤ 1000 ∧ (onC d (l.take k)).length ≤ 1000 := fun k hk => by
  have l1 := onP_len d (l.take k)
  have l2 := onC_len d (l.take k)
  rw [List.length_take] at l1 l2
  omega
 rw [show (d.1.1, onP d l, onC d l) = (d.1.1, onP d (l.take l.length), onC d (l.take l.length)) by rw [List.take_length]]
 refine count_from (fun k => (d.1.1, onP d (l.take k), onC d (l.take k))) l.length rfl (fun k hk => ?_) ?_
 ·have hrg := hi _ (List.getElem_mem hk)
  obtain ⟨l1, l2⟩ := L k (by omega)
  dsimp only
  rw [ltI (by show (k : Int) < (l.length : Int); omega), cond_true, idxM_lt hk, Option.bind_some, Option.bind_some, List.take_succ_eq_append_getElem hk, onP_app, onC_app]
  generalize l[k] = i at *
  refine bind_of (x := (d.1.1, onP d (l.take k) ++ onP d [i], onC d (l.take k) ++ onC d [i])) ?_ ?_
  ·obtain ⟨j, rfl⟩ := Int.eq_ofNat_of_zero_le hrg.1
   by_cases hj : j < d.2.length
   ·obtain ⟨e1, e2⟩ := onC_1 (d := d) (i := (j : Int)) (decide_eq_true (by omega))
    rw [ltI (by show (j : Int) < (d.2.length : Int); omega), cond_true, e1, e2, idxD hj (0, 0, 0, 0, 0), Option.bind_some, List.append_nil]
    refine bind_of (appM_of ?_) rfl
    show ((onC d (l.take k)).length + 1) * 40 ≤ 140737488355328
    omega
   ·obtain ⟨e1, e2⟩ := onP_1 (d := d) (i := (j : Int)) (decide_eq_false (by omega))
    have hw : IntKind.wrap IntKind.i64 ((j : Int) - lenM d.2) = (((j : Int) - (d.2.length : Int)).toNat : Nat) := by
     have : IntKind.wrap IntKind.i64 ((j : Int) - (d.2.length : Int)) = (j : Int) - (d.2.length : Int) := wrap_in (by omega) (by omega)
     show IntKind.wrap IntKind.i64 ((j : Int) - (d.2.length : Int)) = _
     omega
    rw [geI (by show (d.2.length : Int) ≤ (j : Int); omega), cond_false, e1, e2, Option.bind_some, hw, ltI (by show _ < ((rpr d.1).length : Int); omega), cond_true, Option.bind_some, hw, idxD (by omega) (0, 0), Option.bind_some, List.append_nil]
    refine bind_of (appM_of ?_) rfl
    show ((onP d (l.take k)).length + 1) * 16 ≤ 140737488355328
    omega
  ·dsimp only
   rw [wrap_in (by omega) (by omega)]
 ·dsimp only
  rw [geI (by show (l.length : Int) ≤ (l.length : Int); omega), cond_false]
theorem m29_any {x : Sys} (hs : sys x = true) : ∃ l, m29 x = some (l, if ovS x = true then 90 else 0) := by
 cases ho : ovS x with
 | true => exact ⟨_, m29_bad hs ho⟩
 | false => exact ⟨_, m29_good hs ho⟩
theorem law9_ok (x : Nums) (hx : DNum x) {set : List Int} (hset : ∀ v ∈ set, IntKind.i64.has v) : m9 (x, set) = some true := by
 obtain ⟨o, y, d, _, hy, hd, e1, hO, h20, hH, k1, k2, _, hnear⟩ := m11_ok hx
 subst e1
 have h : DOK d := gd_dok hO h20 (by omega) rfl k2
 have hn := h.n0
 have hNb := bds_n h
 have eo := og_is h
 have hr := rpr_len d.1 hO
 unfold m9
 dsimp only
 rw [sane_ok, Option.bind_some, notT, cond_false]
 refine bind_of (x := d) hd ?_
 rw [show (((d.1.1, d.1.2), d.2) : Dat) = d from rfl]
 refine bind_of (m16_eq h) ?_
 rw [m24_eq, if_pos h.v, Option.bind_some, show ((d.1.1, d.1.2) : Int × List (Int × Int)) = d.1 from rfl]
 refine bind_of (m28_eq hO) ?_
 dsimp only
 rw [show lst d.1.1.toNat (rdc d.1) d.1.1.toNat = rpr d.1 from rfl]
 obtain ⟨l1, f1⟩ := m29_any h.s
 refine bind_of (x := (l1, if ovS (bds d) = true then 90 else 0)) f1 ?_
 dsimp only
 have e0 : PE.orM (PE.orM (PE.notM (eqM (0 : Int) (0 : Int))) (PE.notM (eqM (0 : Int) (0 : Int)))) (eqbM (ovS (bds d)) (eqM (if ovS (bds d) = true then (90 : Int) else 0) 0)) = false := by
  cases ovS (bds d) <;> rfl
 rw [e0, cond_false]
 cases ho : ovS (bds d) with
 | false =>
  rw [notF, cond_true]
  unfold blL
  rw [ho]
  rfl
 | true =>
  rw [notT, cond_false]
  have hin := bl_in h ho
  have hpos := bl_pos h ho
  obtain ⟨h2, hbad⟩ := bl_bad h ho
  have hlt := List.pairwise_iff_getElem.1 (blL_lt d)
  have hcy := blL_len d ho
  obtain ⟨_, _, _, _, _, hCl⟩ := cyc_of h.s ho
  have hfew : ∀ few, inl d few → few.length < (blL d).length → ∃ b, m30 (d, few) = some (onl d few) ∧ m16 (onl d few) = some (b, false) := fun few hi hl => by
   obtain ⟨g1, g2⟩ := few_good h hH hnear hi (by omega) (by omega)
   exact ⟨blL (onl d few), m30_eq h hi (by omega), by rw [m16_eq g1, g2]⟩
  have hbl : m16 (onl d (blL d)) = some (blL (onl d (blL d)), true) := by rw [m16_eq h2, hbad]
  have h16 : (blL d).length ≤ 16 := by omega
  clear hcy
  generalize blL (onl d (blL d)) = l' at hbl
  generalize blL d = l at *
  have hN : IntKind.wrap IntKind.i64 (lenM d.2 + lenM (rpr d.1)) = (d.2.length : Int) + (rpr d.1).length := by
   show IntKind.wrap IntKind.i64 ((d.2.length : Int) + ((rpr d.1).length : Int)) = _
   have := h.c
   exact wrap_in (by omega) (by omega)
  have hLl : lenM l = (l.length : Int) := rfl
  refine bind_of (x := Sum.inl ()) (pass_loop (n := l.length) (fun k hk => ?_) ?_) ?_
  ·have hrg := hin _ (List.getElem_mem hk)
   have a1 : ltM l[k] 0 = false := geI hrg.1
   have a2 : leM (IntKind.wrap IntKind.i64 (lenM d.2 + lenM (rpr d.1))) l[k] = false := by rw [hN]; exact gtI hrg.2
   have a0 : ltM (k : Int) (lenM l) = true := ltI (by rw [hLl]; omega)
   have w : IntKind.wrap IntKind.i64 ((k : Int) + 1) = (k : Int) + 1 := wrap_in (by omega) (by omega)
   rw [a0, cond_true, idxM_lt hk, Option.bind_some, a1, notF, cond_true, Option.bind_some, a2, w]
   by_cases hk0 : k = 0
   ·have a3 : ltM 0 (k : Int) = false := geI (by omega)
    rw [a3]
    rfl
   ·have a3 : ltM 0 (k : Int) = true := ltI (by omega)
    have a4 : max (IntKind.wrap IntKind.i64 ((k : Int) - 1)) 0 = ((k - 1 : Nat) : Int) := by
     rw [wrap_in (by omega) (by omega)]; omega
    have a5 : leM l[k] (l[k - 1]'(by omega)) = false := gtI (hlt (k - 1) k (by omega) hk (by omega))
    rw [a3, a4, idxM_lt (by omega : k - 1 < l.length)]
    simp only [orF, notF, andT, cond_true, cond_false, Option.bind_some, a5]
  ·rw [geI (by rw [hLl]; omega), cond_false]
  ·dsimp only [Sum.elim_inl]
   refine bind_of (x := onl d l) (m30_eq h hin (by omega)) (bind_of hbl ?_)
   dsimp only
   rw [notT, orF, neI (by rw [hLl]; omega), cond_false]
   refine bind_of (x := Sum.inl ()) (pass_loop (n := l.length) (fun k hk => ?_) ?_) ?_
   ·have a0 : ltM (k : Int) (lenM l) = true := ltI (by rw [hLl]; omega)
    have w : IntKind.wrap IntKind.i64 ((k : Int) + 1) = (k : Int) + 1 := wrap_in (by omega) (by omega)
    have s1 : sliceM l 0 (k : Int) = some (l.take k) := by
     rw [sliceM_of (Int.le_refl _) (by omega) (by omega)]
     simp
    have s2 : sliceM l ((k : Int) + 1) (lenM l) = some (l.drop (k + 1)) := by
     rw [hLl, sliceM_of (by omega) (by omega) (by omega)]
     have : ((k : Int) + 1).toNat = k + 1 := by omega
     rw [this]
     simp
    have p1 : appM (nat_lit 8) [] (l.take k) = some (l.take k) := by
     rw [appM_of]
     ·rfl
     ·rw [List.length_take]
      show (0 + min k l.length) * 8 ≤ 140737488355328
      omega
    have p2 : appM (nat_lit 8) (l.take k) (l.drop (k + 1)) = some (l.take k ++ l.drop (k + 1)) := appM_of (by
     rw [List.length_take, List.length_drop]
     show (min k l.length + (l.length - (k + 1))) * 8 ≤ 140737488355328
     omega)
    rw [a0, cond_true, w]
    refine bind_of s1 (bind_of p1 (bind_of s2 (bind_of p2 ?_)))
    obtain ⟨b, g1, g2⟩ := hfew (l.take k ++ l.drop (k + 1)) (fun i hi => by
     rcases List.mem_append.1 hi with hi | hi
     ·exact hin i (List.mem_of_mem_take hi)
     ·exact hin i (List.mem_of_mem_drop hi)) (by rw [List.length_append, List.length_take, List.length_drop]; omega)
    exact bind_of g1 (bind_of g2 rfl)
   ·rw [geI (by rw [hLl]; omega), cond_false]
   ·dsimp only [Sum.elim_inl]
    have hNpos : 0 < (d.2.length : Int) + (rpr d.1).length := by
     have := hin _ (List.getElem_mem (l := l) (n := 0) (by omega))
     omega
    have wl : IntKind.wrap IntKind.i64 (lenM l - 1) = (l.length : Int) - 1 := wrap_in (n := (l.length : Int) - 1) (by omega) (by omega)
    rw [hN, wl]
    have hM : ∃ M : Int, M = (d.2.length : Int) + (rpr d.1).length := ⟨_, rfl⟩
    obtain ⟨M, hM⟩ := hM
    rw [← hM]
    rw [← hM] at hNpos
    refine bind_of (x := (set.take (min set.length (l.length - 1))).map fun v => pk v M) ?_ ?_
    ·refine count_loop (fun k => (set.take k).map fun v => pk v M) (min set.length (l.length - 1)) (fun k hk => ?_) ?_
     ·have hks : k < set.length := by omega
      have hlk : ((set.take k).map fun v => pk v M).length = k := by rw [List.length_map, List.length_take]; omega
      have a1 : ltM (k : Int) (lenM set) = true := ltI (by show (k : Int) < (set.length : Int); omega)
      have a2 : ltM (lenM ((set.take k).map fun v => pk v M)) ((l.length : Int) - 1) = true := ltI (by show ((((set.take k).map fun v => pk v M).length : Nat) : Int) < _; omega)
      dsimp only
      rw [a1, a2, andT, cond_true, idxM_lt hks, Option.bind_some, m13_eq (hset _ (List.getElem_mem hks)) hNpos, Option.bind_some, wrap_in (by omega) (by omega), List.take_succ_eq_append_getElem hks, List.map_append]
      refine bind_of (appM_of ?_) rfl
      rw [hlk]
      show (k + 1) * 8 ≤ 140737488355328
      omega
     ·have hlk : ((set.take (min set.length (l.length - 1))).map fun v => pk v M).length = min set.length (l.length - 1) := by rw [List.length_map, List.length_take]; omega
      dsimp only
      by_cases hms : set.length ≤ l.length - 1
      ·have a1 : ltM ((min set.length (l.length - 1) : Nat) : Int) (lenM set) = false := geI (by show (set.length : Int) ≤ _; omega)
       rw [a1]
       rfl
      ·have a2 : ltM (lenM ((set.take (min set.length (l.length - 1))).map fun v => pk v M)) ((l.length : Int) - 1) = false := geI (by show (l.length : Int) - 1 ≤ ((((set.take (min set.length (l.length - 1))).map fun v => pk v M).length : Nat) : Int); omega)
       rw [a2]
       cases ltM ((min set.length (l.length - 1) : Nat) : Int) (lenM set) <;> rfl
    ·obtain ⟨b, g1, g2⟩ := hfew ((set.take (min set.length (l.length - 1))).map fun v => pk v M) (fun i hi => by
      obtain ⟨v, _, rfl⟩ := List.mem_map.1 hi
      have := pk_lo (c := v) (n := M) (by omega)
      have := pk_hi (c := v) (n := M) (by omega)
      omega) (by rw [List.length_map, List.length_take]; omega)
     exact bind_of g1 (bind_of g2 rfl)
end Go.Proofs.YthfgccfaildmfaaGreatDoor
/-
 Dating: what is known of the integers that determine a dating.
 No conditions.
-/
namespace Go.Proofs.YthfgccfaildmfaaGreatDoor
open Go Go.Abs Go.PE
theorem dn_ok {x : Nums} (h : InR (.pair tI (.pair (.list (.pair tI tI)) (.pair tI (.pair tI (.pair (.list tI) (.pair (.list (.pair tI (.pair tI (.pair tI (.pair tI tI))))) (.pair tI (.pair tI tI)))))))) x) : DNum x := by
 obtain ⟨h0, ⟨_, h1⟩, h2, h3, ⟨_, h4⟩, ⟨_, h5⟩, h6, h7, h8⟩ := h
 refine ⟨h0, fun p hp => ?_, h2, h3, fun g hg => ?_, fun c hc => ?_, h6, h7, h8⟩
 ·obtain ⟨i, hi, rfl⟩ := List.mem_iff_getElem.1 hp
  exact h1 i _ (List.getElem?_eq_getElem hi)
 ·obtain ⟨i, hi, rfl⟩ := List.mem_iff_getElem.1 hg
  exact h4 i _ (List.getElem?_eq_getElem hi)
 ·obtain ⟨i, hi, rfl⟩ := List.mem_iff_getElem.1 hc
  exact h5 i _ (List.getElem?_eq_getElem hi)
end Go.Proofs.YthfgccfaildmfaaGreatDoor
/-
 Dating: the plain law of DatingBlames, as the frame asks for it.
 No conditions.
-/
namespace Go.Proofs.YthfgccfaildmfaaGreatDoor
open Go Go.Abs Go.PE
theorem law9 : ∀ (S : Cells) (w : World) (η : Eta) (vs : List Value) x, All2 (RM S w η) (rvs as9 x) vs → m9 x = some true :=
 law_of_ok fun x h => law9_ok x.1 (dn_ok h.1) fun v hv => by
  obtain ⟨_, h1⟩ := h.2
  obtain ⟨i, hi, rfl⟩ := List.mem_iff_getElem.1 hv
  exact h1 i _ (List.getElem?_eq_getElem hi)
end Go.Proofs.YthfgccfaildmfaaGreatDoor
