/-
  Texts of this proof, put together: 9D, 9E, LawBetweenContradicts.
  No conditions.
-/
import Derived.Test.YtadcohacnmicjaaZ5
set_option linter.all false
/-
  Between: Cycle, as the model computes it.
  No conditions.
-/
namespace Go.Proofs.Ytadcohacnmicjaa
open Go Go.Abs Go.PE
set_option linter.unusedVariables false
/-- A loop that ends at the first element that passes a test, with a result of its own. -/
theorem findg_loop {α γ : Type} {xs : List α} (p : α → Bool) (g : Nat → γ) {body : Int → Option (Int ⊕ (Unit ⊕ γ))}
    (h1 : ∀ j, xs.findIdx? p = some j → body (j : Int) = some (.inr (.inr (g j)))) (h2 : ∀ j (hj : j < xs.length), p xs[j] = false → body (j : Int) = some (.inl ((j : Int) + 1))) (he : body (xs.length : Int) = some (.inr (.inl ()))) :
    loopM body 0 = some (match xs.findIdx? p with | some j => .inr (g j) | none => .inl ()) := by
  cases hf : xs.findIdx? p with
  | none =>
    rw [List.findIdx?_eq_none_iff] at hf
    refine loopM_fn (fun k => (k : Int)) xs.length (fun k hk => h2 k hk (hf _ (List.getElem_mem hk))) he
  | some j =>
    obtain ⟨hj, hp, hall⟩ := List.findIdx?_eq_some_iff_getElem.1 hf
    refine loopM_fn (fun k => (k : Int)) j (fun k hk => h2 k (by omega) ?_) (h1 j hf)
    have := hall k hk
    simpa using this
/-- A bound that m further ones make a contradiction. -/
def cst (bs : List (Int × Int × Int)) (m : Nat) (c : Int × Int × Int) : Bool := decide (pl c.2.2 (wkT bs m c.2.1.toNat c.1.toNat) < 0)
def cycM (bs : List (Int × Int × Int)) : Nat := ((List.range 17).find? fun m => (bs.findIdx? (cst bs m)).isSome).getD 0
/-- The first contradiction. -/
def cycL (bs : List (Int × Int × Int)) : List Int := match bs.findIdx? (cst bs (cycM bs)) with
  | some k => (k : Int) :: chP bs (bs.getD k (0, 0, 0)).1.toNat (cycM bs) (bs.getD k (0, 0, 0)).2.1.toNat (-1 - (bs.getD k (0, 0, 0)).2.2)
  | none => []
theorem cst_walk {n : Nat} {bs : List (Int × Int × Int)} (hb : bs.all (bnd (n : Int)) = true) {m : Nat} (hm : m ≤ 999) {c : Int × Int × Int} (hc : c ∈ bs) : cst bs m c = true ↔ wkT bs m c.2.1.toNat c.1.toNat ≤ -1 - c.2.2 := by
  have hcb := of_decide_eq_true (List.all_eq_true.1 hb _ hc)
  unfold cst
  rcases wk_sz hb (m := m) (i := c.2.1.toNat) (j := c.1.toNat) (by omega) (by omega) (by omega) with e | e
  · rw [e, far_pl]
    constructor
    · intro h; exact absurd (of_decide_eq_true h) (by omega)
    · intro h; omega
  · rw [pl_sz (by omega) (by omega)]
    constructor
    · intro h; have := of_decide_eq_true h; omega
    · intro h; exact decide_eq_true (by omega)
/-- Where a closed walk of m + 1 bounds is negative, a bound passes. -/
theorem cst_of {n : Nat} {bs : List (Int × Int × Int)} (hb : bs.all (bnd (n : Int)) = true) {m u : Nat} {w : Int} (hm : m ≤ 999) (hu : u < n) (hw : w < 0) (h : WN bs u u (m + 1) w) : (bs.findIdx? (cst bs m)).isSome = true := by
  cases h with
  | @cons _ a _ _ c w' hmem h2 =>
    have hc := of_decide_eq_true (List.all_eq_true.1 hb _ hmem)
    simp only at hc
    have ha : a < n := by omega
    have h3 := (wk_le hb (by omega) ha h2).1
    have hp : cst bs m ((u : Int), (a : Int), c) = true := (cst_walk hb hm hmem).2 (by
      have t1 : ((a : Int)).toNat = a := by omega
      have t2 : ((u : Int)).toNat = u := by omega
      simp only [t1, t2]
      omega)
    cases hf : bs.findIdx? (cst bs m) with
    | none =>
      rw [List.findIdx?_eq_none_iff] at hf
      rw [hf _ hmem] at hp
      cases hp
    | some k => rfl
theorem of_cst {n : Nat} {bs : List (Int × Int × Int)} (hb : bs.all (bnd (n : Int)) = true) {m k : Nat} (hm : m ≤ 999) (h : bs.findIdx? (cst bs m) = some k) : ∃ hk : k < bs.length, wkT bs m bs[k].2.1.toNat bs[k].1.toNat ≤ -1 - bs[k].2.2 := by
  obtain ⟨hk, hp, _⟩ := List.findIdx?_eq_some_iff_getElem.1 h
  exact ⟨hk, (cst_walk hb hm (List.getElem_mem hk)).1 hp⟩
/-- The least number of further bounds. -/
theorem cycM_of {x : Sys} (hs : sys x = true) (ho : ovS x = true) : cycM x.2 < x.1.toNat ∧ (x.2.findIdx? (cst x.2 (cycM x.2))).isSome = true ∧ ∀ k, k < cycM x.2 → (x.2.findIdx? (cst x.2 k)).isSome = false := by
  obtain ⟨hn, hb, he⟩ := sys_all hs
  obtain ⟨i, w, hi, hw, hwk⟩ := ov_walk hs ho
  obtain ⟨m0, hm0⟩ := hwk.wn
  obtain ⟨u, m1, w1, hu, g1, g2, g3, g4⟩ := WN.cycle hb m0 hi hw hm0
  obtain ⟨m, rfl⟩ : ∃ m, m1 = m + 1 := ⟨m1 - 1, by omega⟩
  have hex := cst_of hb (by omega) hu g3 g4
  unfold cycM
  cases e : (List.range 17).find? fun m => (x.2.findIdx? (cst x.2 m)).isSome with
  | none =>
    rw [List.find?_eq_none] at e
    exact absurd hex (e m (List.mem_range.2 (by omega)))
  | some k =>
    rw [List.find?_eq_some_iff_getElem] at e
    obtain ⟨h1, i, hi, h2, h3⟩ := e
    rw [List.getElem_range] at h2
    subst h2
    rw [List.length_range] at hi
    have h3' : ∀ j, j < i → (x.2.findIdx? (cst x.2 j)).isSome = false := fun j hj => by
      have := h3 j hj
      rw [List.getElem_range] at this
      simpa using this
    refine ⟨?_, h1, h3'⟩
    show i < x.1.toNat
    refine Classical.byContradiction fun hn => ?_
    have := h3' m (by omega)
    rw [hex] at this
    cases this
/-- What Cycle returns. -/
def cycR (x : Sys) : List Int × Bool := bif sys x && ovS x then (cycL x.2, true) else ([], false)
theorem m20_eq (x : Sys) : m20 x = some (cycR x) := by
  unfold m20 cycR
  dsimp only
  rw [show (x.1, x.2) = x from rfl, m22_eq, Option.bind_some]
  cases hs : sys x with
  | false => rfl
  | true =>
    obtain ⟨hn, hb, he⟩ := sys_all hs
    have hl := (sys_bnd hs).1.2.2
    have h39 := m39_eq hn hl hb
    rw [he] at h39
    rw [notT, cond_false]
    refine bind_of (x := bif ovS x then ([], false) else (rt x.1.toNat (fun _ => x.1.toNat) (fwS x), true)) h39 ?_
    cases ho : ovS x with
    | false => rfl
    | true =>
      obtain ⟨c1, c2, c3⟩ := cycM_of hs ho
      obtain ⟨k0, hk0⟩ := Option.isSome_iff_exists.1 c2
      obtain ⟨hkl, hkw⟩ := of_cst hb (by omega) hk0
      have h58 := none_table hn
      rw [he] at h58
      rw [cond_true, cond_false]
      refine bind_of h58 ?_
      have hcy : cycL x.2 = (k0 : Int) :: chP x.2 x.2[k0].1.toNat (cycM x.2) x.2[k0].2.1.toNat (-1 - x.2[k0].2.2) := by
        unfold cycL
        rw [hk0]
        dsimp only
        rw [getD_of hkl]
      rw [hcy]
      generalize cycM x.2 = m0 at *
      refine bind_of (x := ((k0 : Int) :: chP x.2 x.2[k0].1.toNat m0 x.2[k0].2.1.toNat (-1 - x.2[k0].2.2), true, row (m0 + 2) fun m => rt x.1.toNat (fun _ => x.1.toNat) (wkT x.2 m)))
        (loopM_fn (fun m => (rt x.1.toNat (fun _ => x.1.toNat) (wkT x.2 m), row m fun m => rt x.1.toNat (fun _ => x.1.toNat) (wkT x.2 m))) (m0 + 1) (fun k hk => ?_) ?_) rfl
      · dsimp only
        refine bind_of (app_rowOf rfl (by show (k + 1) * 24 ≤ 140737488355328; omega)) ?_
        have elen : IntKind.wrap IntKind.i64 (lenM (row (k + 1) fun m => rt x.1.toNat (fun _ => x.1.toNat) (wkT x.2 m)) - 1) = (k : Int) := by rw [lenRow, wrap_in (by omega) (by omega)]; omega
        rw [elen]
        refine bind_of (x := Sum.inl ()) (loopM_is (fun j s => s = (j : Int)) x.2.length rfl fun j s hj hs => ?_) ?_
        · subst hs
          by_cases hlt : j < x.2.length
          · refine .inl ⟨((j + 1 : Nat) : Int), hlt, ?_, rfl⟩
            obtain ⟨a, b, ha, hb', e1, e2, _, _⟩ := bnd_of (List.all_eq_true.1 hb _ (List.getElem_mem hlt))
            have ej : IntKind.wrap IntKind.i64 ((j : Int) + 1) = ((j + 1 : Nat) : Int) := by rw [wrap_in (by omega) (by omega)]; rfl
            rw [ltI (a := (j : Int)) (b := lenM x.2) (by show (j : Int) < (x.2.length : Int); omega), cond_true, idxM_lt hlt, Option.bind_some]
            cases k with
            | zero =>
              rw [geI (by omega), cond_false, Option.bind_some, cond_false, Option.bind_some, cond_false, Option.bind_some, cond_false, Option.bind_some, cond_false, Option.bind_some, andF, cond_false, ej]
            | succ k =>
              have e3 : ((k + 1 : Nat) : Int) - 1 = (k : Int) := by omega
              have hno := c3 k (by omega)
              have hpf : cst x.2 k x.2[j] = false := by
                have : x.2.findIdx? (cst x.2 k) = none := by
                  cases hq : x.2.findIdx? (cst x.2 k) with
                  | none => rfl
                  | some z => rw [hq] at hno; cases hno
                rw [List.findIdx?_eq_none_iff] at this
                exact this _ (List.getElem_mem hlt)
              unfold cst at hpf
              have hpf := of_decide_eq_false hpf
              have t1 : x.2[j].1.toNat = a := by omega
              have t2 : x.2[j].2.1.toNat = b := by omega
              rw [t1, t2] at hpf
              rw [ltI (by omega), cond_true, e3, wrap_in (n := (k : Int)) (by omega) (by omega), chkM_of (by omega) (by rw [lenRow]; omega), Option.bind_some, cond_true, row_idx (by omega), Option.bind_some, cond_true, e2, rt_idx hb', Option.bind_some, cond_true, e1, row_idx ha, Option.bind_some, cond_true, m43_pl, Option.bind_some, geI (by omega), andT, cond_false, ej]
          · refine .inr ?_
            have e : j = x.2.length := by omega
            rw [e, geI (Int.le_refl _), cond_false]
        · have hmk := none_make hn
          have hfl := far_loop hn
          rw [he] at hmk hfl
          have hnl := next_loop hn hl hb (wkT x.2 k)
          rw [he] at hnl
          show Option.bind _ _ = _
          refine bind_of hmk (bind_of hfl (bind_of hnl ?_))
          rfl
      · dsimp only
        refine bind_of (app_rowOf rfl (by show (m0 + 1 + 1) * 24 ≤ 140737488355328; omega)) ?_
        have elen : IntKind.wrap IntKind.i64 (lenM (row (m0 + 1 + 1) fun m => rt x.1.toNat (fun _ => x.1.toNat) (wkT x.2 m)) - 1) = ((m0 + 1 : Nat) : Int) := by rw [lenRow, wrap_in (by omega) (by omega)]; omega
        rw [elen]
        have e3 : ((m0 + 1 : Nat) : Int) - 1 = (m0 : Int) := by omega
        refine bind_of (x := Sum.inr ((k0 : Int) :: chP x.2 x.2[k0].1.toNat m0 x.2[k0].2.1.toNat (-1 - x.2[k0].2.2), true, row (m0 + 1 + 1) fun m => rt x.1.toNat (fun _ => x.1.toNat) (wkT x.2 m))) ?_ rfl
        have hfg := fun body h1 h2 he => findg_loop (xs := x.2) (cst x.2 m0) (fun j => ((j : Int) :: chP x.2 (x.2.getD j (0, 0, 0)).1.toNat m0 (x.2.getD j (0, 0, 0)).2.1.toNat (-1 - (x.2.getD j (0, 0, 0)).2.2), true, row (m0 + 1 + 1) fun m => rt x.1.toNat (fun _ => x.1.toNat) (wkT x.2 m))) (body := body) h1 h2 he
        rw [hk0] at hfg
        dsimp only at hfg
        rw [getD_of hkl] at hfg
        refine hfg _ (fun j hj => ?_) (fun j hj hp => ?_) ?_
        · have ej : j = k0 := (Option.some.inj hj).symm
          subst ej
          obtain ⟨a, b, ha, hb', e1, e2, g1, g2⟩ := bnd_of (List.all_eq_true.1 hb _ (List.getElem_mem hkl))
          have t1 : x.2[j].1.toNat = a := by omega
          have t2 : x.2[j].2.1.toNat = b := by omega
          have hpt := (cst_walk hb (by omega) (List.getElem_mem hkl)).2 hkw
          unfold cst at hpt
          have hpt := of_decide_eq_true hpt
          rw [t1, t2] at hpt hkw
          rw [ltI (a := (j : Int)) (b := lenM x.2) (by show (j : Int) < (x.2.length : Int); omega), cond_true, idxM_lt hkl, Option.bind_some]
          rw [ltI (by omega), cond_true, e3, wrap_in (n := (m0 : Int)) (by omega) (by omega), chkM_of (by omega) (by rw [lenRow]; omega), Option.bind_some, cond_true, row_idx (by omega), Option.bind_some, cond_true, e2, rt_idx hb', Option.bind_some, cond_true, e1, row_idx ha, Option.bind_some, cond_true, m43_pl, Option.bind_some, ltI hpt, andT, cond_true]
          rw [wrap_in (n := -1 - x.2[j].2.2) (by omega) (by omega)]
          have h44 := m44_eq (n := x.1.toNat) hl hb (M := m0 + 1 + 1) (to := a) (m := m0) (f := b) (q := -1 - x.2[j].2.2) ha (by omega) (by omega) hb' (by omega) (by omega) hkw
          rw [he] at h44
          refine bind_of h44 ?_
          obtain ⟨k1, _⟩ := chP_fol hb ha m0 b (-1 - x.2[j].2.2) 0 (by omega) hb' (by omega) (by omega) (by omega) (by omega) hkw
          refine bind_of (appM_of (by show (1 + (chP x.2 a m0 b (-1 - x.2[j].2.2)).length) * 8 ≤ 140737488355328; omega)) ?_
          rw [getD_of hkl, t1, t2]
          rfl
        · obtain ⟨a, b, ha, hb', e1, e2, g1, g2⟩ := bnd_of (List.all_eq_true.1 hb _ (List.getElem_mem hj))
          have t1 : x.2[j].1.toNat = a := by omega
          have t2 : x.2[j].2.1.toNat = b := by omega
          unfold cst at hp
          have hp := of_decide_eq_false hp
          rw [t1, t2] at hp
          rw [ltI (a := (j : Int)) (b := lenM x.2) (by show (j : Int) < (x.2.length : Int); omega), cond_true, idxM_lt hj, Option.bind_some]
          rw [ltI (by omega), cond_true, e3, wrap_in (n := (m0 : Int)) (by omega) (by omega), chkM_of (by omega) (by rw [lenRow]; omega), Option.bind_some, cond_true, row_idx (by omega), Option.bind_some, cond_true, e2, rt_idx hb', Option.bind_some, cond_true, e1, row_idx ha, Option.bind_some, cond_true, m43_pl, Option.bind_some, geI (by omega), andT, cond_false, wrap_in (by omega) (by omega)]
        · rw [geI (Int.le_refl _), cond_false]
end Go.Proofs.Ytadcohacnmicjaa
/-
  Between: the first contradiction is one of which no bound can be left out; the law BetweenContradicts.
  No conditions.
-/
namespace Go.Proofs.Ytadcohacnmicjaa
open Go Go.Abs Go.PE
set_option linter.unusedVariables false
/-- The stations of a list of bounds. -/
theorem folP_st {n : Nat} {bs : List (Int × Int × Int)} (hb : bs.all (bnd (n : Int)) = true) : ∀ (l : List Int) (f : Nat) (s : Int) {e s' : Int}, l.length ≤ 100 → -1000000000000000 + l.length * 1000000000 ≤ s → s ≤ 1000000000000000 - l.length * 1000000000 → folP bs l f s = some (e, s') →
    ∃ (v : Nat → Nat) (S : Nat → Int), v 0 = f ∧ (v l.length : Int) = e ∧ S 0 = s ∧ S l.length = s' ∧ ∀ k (hk : k < l.length), 0 ≤ l[k] ∧ l[k] < bs.length ∧ bs.getD l[k].toNat (0, 0, 0) = ((v k : Int), (v (k + 1) : Int), S (k + 1) - S k) := by
  intro l
  induction l with
  | nil =>
    intro f s e s' _ _ _ h
    have h' : some ((f : Int), s) = some (e, s') := h
    have h1 := congrArg Prod.fst (Option.some.inj h')
    have h2 := congrArg Prod.snd (Option.some.inj h')
    simp only at h1 h2
    exact ⟨fun _ => f, fun _ => s, rfl, h1, rfl, h2, fun k hk => absurd hk (Nat.not_lt_zero _)⟩
  | cons k l ih =>
    intro f s e s' hl h1 h2 h
    unfold folP at h
    have hl' : (k :: l).length = l.length + 1 := rfl
    rw [hl'] at hl h1 h2
    split at h
    · rename_i hk
      obtain ⟨k0, k1, k2⟩ := hk
      have hkl : k.toNat < bs.length := by omega
      obtain ⟨a, b, ha, hb', e1, e2, e3, e4⟩ := bnd_of (List.all_eq_true.1 hb _ (List.getElem_mem hkl))
      have hgd := getD_of (z := (0, 0, 0)) hkl
      rw [hgd] at h k2
      rw [wrap_in (by omega) (by omega), e2] at h
      obtain ⟨v, S, g1, g2, g3, g4, g5⟩ := ih b _ (by omega) (by omega) (by omega) h
      refine ⟨fun j => match j with | 0 => f | j + 1 => v j, fun j => match j with | 0 => s | j + 1 => S j, rfl, g2, rfl, g4, fun j hj => ?_⟩
      cases j with
      | zero =>
        refine ⟨k0, k1, ?_⟩
        show bs.getD k.toNat (0, 0, 0) = ((f : Int), (v 0 : Int), S 0 - s)
        rw [hgd, g1, g3, ← k2, ← e2]
        have : s + bs[k.toNat].2.2 - s = bs[k.toNat].2.2 := by omega
        rw [this]
      | succ j => exact g5 j (by rw [hl'] at hj; omega)
    · cases h
/-- The first contradiction: its stations. -/
theorem cyc_st {x : Sys} (hs : sys x = true) (ho : ovS x = true) : chkCycle x (cycL x.2) = true ∧ ∃ (v : Nat → Nat) (S : Nat → Int), 1 ≤ (cycL x.2).length ∧ (cycL x.2).length ≤ x.1.toNat ∧ v 0 < x.1.toNat ∧ v (cycL x.2).length = v 0 ∧ S 0 = 0 ∧ S (cycL x.2).length < 0 ∧
    (∀ k (hk : k < (cycL x.2).length), 0 ≤ (cycL x.2)[k] ∧ (cycL x.2)[k] < x.2.length ∧ x.2.getD (cycL x.2)[k].toNat (0, 0, 0) = ((v k : Int), (v (k + 1) : Int), S (k + 1) - S k)) ∧
    (∀ u m w, u < x.1.toNat → m < (cycL x.2).length → WN x.2 u u m w → 0 ≤ w) := by
  obtain ⟨hn, hb, he⟩ := sys_all hs
  have hl := (sys_bnd hs).1.2.2
  obtain ⟨c1, c2, c3⟩ := cycM_of hs ho
  obtain ⟨k0, hk0⟩ := Option.isSome_iff_exists.1 c2
  obtain ⟨hkl, hkw⟩ := of_cst hb (by omega) hk0
  obtain ⟨a, b, ha, hb', e1, e2, g1, g2⟩ := bnd_of (List.all_eq_true.1 hb _ (List.getElem_mem hkl))
  have t1 : x.2[k0].1.toNat = a := by omega
  have t2 : x.2[k0].2.1.toNat = b := by omega
  rw [t1, t2] at hkw
  have hcy : cycL x.2 = (k0 : Int) :: chP x.2 a (cycM x.2) b (-1 - x.2[k0].2.2) := by
    unfold cycL
    rw [hk0]
    dsimp only
    rw [getD_of hkl, t1, t2]
  have hmin : ∀ u m w, u < x.1.toNat → m < cycM x.2 + 1 → WN x.2 u u m w → 0 ≤ w := fun u m w hu hm hw => by
    refine Classical.byContradiction fun hneg => ?_
    cases m with
    | zero => have := hw.zero.2; omega
    | succ m =>
      have h1 := cst_of hb (by omega) hu (by omega) hw
      rw [c3 m (by omega)] at h1
      cases h1
  generalize cycM x.2 = m0 at *
  obtain ⟨k1, s', k2, k3⟩ := chP_fol hb ha m0 b (-1 - x.2[k0].2.2) x.2[k0].2.2 (by omega) hb' (by omega) (by omega) (by omega) (by omega) hkw
  have hlen : (cycL x.2).length = m0 + 1 := by rw [hcy, List.length_cons, k1]
  have hfol : folP x.2 (cycL x.2) a 0 = some ((a : Int), s') := by
    rw [hcy]
    unfold folP
    have t3 : ((k0 : Int)).toNat = k0 := by omega
    rw [t3, getD_of hkl, if_pos ⟨by omega, by omega, e1⟩, wrap_in (by omega) (by omega), Int.zero_add, e2]
    exact k2
  refine ⟨?_, ?_⟩
  · have hR : folR x.2 (cycL x.2) a = ((a : Int), s', true) := by
      unfold folR
      rw [hfol, hlen]
      dsimp only
      rw [decide_eq_true (by omega)]
    rw [hcy] at hR ⊢
    unfold chkCycle
    have t3 : ((k0 : Int)).toNat = k0 := by omega
    dsimp only
    rw [hs, t3, getD_of hkl, e1, hR, decide_eq_true (by omega), decide_eq_true (by omega)]
    show (true && (true && true) && (true && decide ((a : Int) = a) && decide (s' < 0))) = true
    rw [decide_eq_true (show (a : Int) = a from rfl), decide_eq_true (show s' < 0 by omega)]
    rfl
  · obtain ⟨v, S, h1, h2, h3, h4, h5⟩ := folP_st hb (cycL x.2) a 0 (by omega) (by omega) (by omega) hfol
    refine ⟨v, S, by omega, by omega, by omega, by omega, h3, by omega, h5, ?_⟩
    rw [hlen]
    exact hmin
/-- No station comes twice. -/
theorem cyc_inj {x : Sys} (hs : sys x = true) {m : Nat} {v : Nat → Nat} {S : Nat → Int} (h0 : v 0 < x.1.toNat) (hc : v m = v 0) (hS : S 0 = 0) (hneg : S m < 0) (hst : ∀ k, k < m → ((v k : Int), (v (k + 1) : Int), S (k + 1) - S k) ∈ x.2) (hmin : ∀ u k w, u < x.1.toNat → k < m → WN x.2 u u k w → 0 ≤ w)
    {a b : Nat} (hab : a < b) (hb : b < m) : v a ≠ v b := fun e => by
  obtain ⟨_, hall, _⟩ := sys_all hs
  have s1 := seg hst 0 a (by omega)
  have s2 := seg hst a (b - a) (by omega)
  have s3 := seg hst b (m - b) (by omega)
  rw [Nat.zero_add] at s1
  rw [show a + (b - a) = b by omega] at s2
  rw [show b + (m - b) = m by omega, ← e, hc] at s3
  have hva : v a < x.1.toNat := s1.stays hall h0
  rw [← e] at s2
  have g1 := hmin _ _ _ hva (by omega) s2
  have g2 := hmin _ _ _ h0 (by omega) (s1.trans s3)
  omega
/-- Along bounds that each lead one place on there is no way back. -/
theorem wn_pot {bs : List (Int × Int × Int)} (f : Nat → Nat) (h : ∀ a b : Nat, ∀ c : Int, ((a : Int), (b : Int), c) ∈ bs → f b = f a + 1) {i j m : Nat} {w : Int} (hw : WN bs i j m w) : f j = f i + m := by
  induction hw with
  | nil => omega
  | cons hm _ ih => have := h _ _ _ hm; omega
theorem pot_good {y : Sys} (hs : sys y = true) (f : Nat → Nat) (h : ∀ a b : Nat, ∀ c : Int, ((a : Int), (b : Int), c) ∈ y.2 → f b = f a + 1) : ovS y = false := by
  cases ho : ovS y with
  | false => rfl
  | true =>
    obtain ⟨i, w, _, hw, hwk⟩ := ov_walk hs ho
    obtain ⟨m, hm⟩ := hwk.wn
    have := wn_pot f h hm
    have e : m = 0 := by omega
    subst e
    have := hm.zero.2
    omega
/-- The bounds of a contradiction, without the k-th one. -/
def lessL (g : Nat → Int × Int × Int) (k i : Nat) : List (Int × Int × Int) := if i ≤ k then row i g else row (i - 1) fun e => if e < k then g e else g (e + 1)
theorem lessL_len {g : Nat → Int × Int × Int} {k i : Nat} : (lessL g k i).length ≤ i := by
  unfold lessL
  split <;> rw [row_length] <;> omega
theorem lessL_mem {g : Nat → Int × Int × Int} {k i : Nat} {c : Int × Int × Int} (h : c ∈ lessL g k i) : ∃ e, e < i ∧ e ≠ k ∧ g e = c := by
  unfold lessL at h
  split at h
  · obtain ⟨e, he, rfl⟩ := row_mem h
    exact ⟨e, he, by omega, rfl⟩
  · obtain ⟨e, he, rfl⟩ := row_mem h
    by_cases h' : e < k
    · exact ⟨e, by omega, by omega, by rw [if_pos h']⟩
    · exact ⟨e + 1, by omega, by omega, by rw [if_neg h']⟩
theorem lessL_step {g : Nat → Int × Int × Int} {k i : Nat} (h : i ≠ k) : lessL g k i ++ [g i] = lessL g k (i + 1) := by
  unfold lessL
  by_cases h1 : i < k
  · rw [if_pos (by omega), if_pos (by omega), row_succ]
  · rw [if_neg (by omega), if_neg (by omega)]
    obtain ⟨j, rfl⟩ : ∃ j, i = j + 1 := ⟨i - 1, by omega⟩
    show row j _ ++ _ = row (j + 1) _
    rw [row_succ, if_neg (by omega)]
theorem lessL_same {g : Nat → Int × Int × Int} (k : Nat) : lessL g k k = lessL g k (k + 1) := by
  unfold lessL
  rw [if_pos (Nat.le_refl _), if_neg (by omega)]
  exact row_congr fun i hi => by rw [if_pos (by omega)]
theorem less_good {x : Sys} (hs : sys x = true) {m k : Nat} {v : Nat → Nat} {S : Nat → Int} (hk : k < m) (hm : m ≤ 16) (h0 : v 0 < x.1.toNat) (hc : v m = v 0) (hS : S 0 = 0) (hneg : S m < 0) (hst : ∀ k, k < m → ((v k : Int), (v (k + 1) : Int), S (k + 1) - S k) ∈ x.2) (hmin : ∀ u k w, u < x.1.toNat → k < m → WN x.2 u u k w → 0 ≤ w) :
    sys (x.1, lessL (fun e => ((v e : Int), (v (e + 1) : Int), S (e + 1) - S e)) k m) = true ∧ ovS (x.1, lessL (fun e => ((v e : Int), (v (e + 1) : Int), S (e + 1) - S e)) k m) = false := by
  have hsys : sys (x.1, lessL (fun e => ((v e : Int), (v (e + 1) : Int), S (e + 1) - S e)) k m) = true := by
    have hb := sys_bnd hs
    unfold sys
    rw [Bool.and_eq_true]
    refine ⟨decide_eq_true ⟨hb.1.1, hb.1.2.1, ?_⟩, List.all_eq_true.2 fun c hc => ?_⟩
    · have := lessL_len (g := fun e => ((v e : Int), (v (e + 1) : Int), S (e + 1) - S e)) (k := k) (i := m)
      show (lessL _ k m).length ≤ 60
      omega
    · obtain ⟨e, he, _, rfl⟩ := lessL_mem hc
      exact decide_eq_true (hb.2 _ (hst e he))
  refine ⟨hsys, ?_⟩
  have inj : ∀ a b, a < m → b < m → v a = v b → a = b := fun a b ha hb e => by
    rcases Nat.lt_trichotomy a b with h | h | h
    · exact absurd e (cyc_inj hs h0 hc hS hneg hst hmin h hb)
    · exact h
    · exact absurd e.symm (cyc_inj hs h0 hc hS hneg hst hmin h ha)
  let f : Nat → Nat := fun u => match (List.range m).find? (fun e => decide (v e = u)) with
    | some e => if e ≤ k then e + m else e
    | none => 0
  have hf : ∀ e, e < m → f (v e) = if e ≤ k then e + m else e := fun e he => by
    show (match (List.range m).find? (fun e' => decide (v e' = v e)) with | some e => if e ≤ k then e + m else e | none => 0) = _
    cases hq : (List.range m).find? (fun e' => decide (v e' = v e)) with
    | none =>
      rw [List.find?_eq_none] at hq
      exact absurd (decide_eq_true rfl) (hq e (List.mem_range.2 he))
    | some e' =>
      have h1 := List.find?_some hq
      have h2 := List.mem_range.1 (List.mem_of_find?_eq_some hq)
      have := inj e' e h2 he (of_decide_eq_true h1)
      rw [this]
  refine pot_good hsys f fun a b c hm' => ?_
  obtain ⟨e, he, hek, h3⟩ := lessL_mem hm'
  have e1 : (v e : Int) = a := congrArg (·.1) h3
  have e2 : (v (e + 1) : Int) = b := congrArg (·.2.1) h3
  have e1' : a = v e := by omega
  have e2' : b = v (e + 1) := by omega
  rw [e1', e2', hf e he]
  by_cases hl : e + 1 < m
  · rw [hf (e + 1) hl]
    by_cases h4 : e < k
    · rw [if_pos (by omega), if_pos (by omega)]; omega
    · rw [if_neg (by omega), if_neg (by omega)]
  · have : e + 1 = m := by omega
    rw [this, hc, hf 0 (by omega), if_pos (by omega), if_neg (by omega)]
    omega
theorem all_bad {x : Sys} (hs : sys x = true) {m : Nat} {v : Nat → Nat} {S : Nat → Int} (hm : m ≤ 16) (h0 : v 0 < x.1.toNat) (hc : v m = v 0) (hS : S 0 = 0) (hneg : S m < 0) (hst : ∀ k, k < m → ((v k : Int), (v (k + 1) : Int), S (k + 1) - S k) ∈ x.2) :
    sys (x.1, row m (fun e => ((v e : Int), (v (e + 1) : Int), S (e + 1) - S e))) = true ∧ ovS (x.1, row m (fun e => ((v e : Int), (v (e + 1) : Int), S (e + 1) - S e))) = true := by
  have hsys : sys (x.1, row m (fun e => ((v e : Int), (v (e + 1) : Int), S (e + 1) - S e))) = true := by
    have hb := sys_bnd hs
    unfold sys
    rw [Bool.and_eq_true]
    refine ⟨decide_eq_true ⟨hb.1.1, hb.1.2.1, ?_⟩, List.all_eq_true.2 fun c hc => ?_⟩
    · show (row m _).length ≤ 60
      rw [row_length]; omega
    · obtain ⟨e, he, rfl⟩ := row_mem hc
      exact decide_eq_true (hb.2 _ (hst e he))
  refine ⟨hsys, ?_⟩
  have hw := seg (bs := row m (fun e => ((v e : Int), (v (e + 1) : Int), S (e + 1) - S e))) (v := v) (s := S) (m := m) (fun k hk => mem_row (g := fun e => ((v e : Int), (v (e + 1) : Int), S (e + 1) - S e)) hk) 0 m (by omega)
  rw [Nat.zero_add, hc, hS] at hw
  exact ov_of_walk hsys h0 (by omega) hw.wk
theorem law5_ok (x : Num × Int × List Int × List Int) (h : NumOK x.1) (h1 : i64 x.2.1) : m5 x = some true := by
  have hS := mde_sml x.1
  have hn := nH_bd x.1
  have hf := mde_fst' x.1
  have h35 := m35_eq h
  have h26 := m26_eq h
  have hsh := short_len x.2.2.1
  unfold m5
  refine bind_of sane_ok ?_
  rw [notT, cond_false]
  refine bind_of (x := mde x.1) (m12_eq h) (bind_of (x := cycR (mde x.1)) (m20_eq _) ?_)
  have h29s : m29 (mde x.1, short x.2.2.1) = some (chkCycle (mde x.1) (short x.2.2.1)) := m29_eq _ (by omega)
  cases ho : ovS (mde x.1) with
  | false =>
    have hcr : cycR (mde x.1) = ([], false) := by unfold cycR; rw [hS.sys, ho]; rfl
    have hno : chkCycle (mde x.1) (short x.2.2.1) = false := by
      cases hb : chkCycle (mde x.1) (short x.2.2.1) with
      | false => rfl
      | true => have := (chkCycle_ov hb).2; rw [ho] at this; cases this
    rw [hno] at h29s
    refine bind_of (m18_good hS.sys ho) ?_
    rw [hcr]
    dsimp only
    have e1 : eqM (0 : Int) 0 = true := rfl
    have e2 : eqbM false true = false := rfl
    rw [e1, e2, notF, andT, cond_true]
    refine bind_of (m27_eq (mde x.1) _) ?_
    rw [sol_allw hS ho, notT, andT, orF, cond_false, cond_false, Option.bind_some, andF, cond_false, Option.bind_some, andF, cond_false]
    refine bind_of (x := false) (m29_eq (mde x.1) (l := []) (by show 0 ≤ _; omega)) ?_
    rw [notF, cond_true]
    refine bind_of (m11_eq x.2.2.1) ?_
    rw [cond_true]
    refine bind_of h29s ?_
    rfl
  | true =>
    have hcr : cycR (mde x.1) = (cycL (mde x.1).2, true) := by unfold cycR; rw [hS.sys, ho]; rfl
    have hna : ∀ y, allw (mde x.1) y = false := fun y => by
      cases hb : allw (mde x.1) y with
      | false => rfl
      | true => have := allw_good hb; rw [ho] at this; cases this
    obtain ⟨hcc, v, S, l1, l2, g1, g2, g3, g4, g5, g6⟩ := cyc_st hS.sys ho
    have hms := ov_misses ho
    refine bind_of (m18_bad hS.sys ho) ?_
    rw [hcr]
    rw [hf] at l2
    have hfst : (mde x.1).1 = (nH x.1 : Int) := rfl
    have h29c : m29 (mde x.1, cycL (mde x.1).2) = some true := by rw [← hcc]; exact m29_eq _ (by omega)
    generalize hlist : cycL (mde x.1).2 = l at *
    dsimp only
    have e1 : eqM (90 : Int) 0 = false := rfl
    have e2 : eqbM true false = false := rfl
    rw [e1, e2, notF, andT, cond_false, Option.bind_some, andF, orF, cond_false, cond_true]
    refine bind_of (x := misses x.1) h35 ?_
    rw [hms, notT, notF, andT, cond_true]
    refine bind_of h29c ?_
    rw [notT, orF, andT, cond_false]
    refine bind_of h29c ?_
    rw [notT, cond_false, Option.bind_some, cond_false, Option.bind_some, orT, andT, cond_true]
    refine bind_of (m11_eq x.2.2.2) ?_
    rw [cond_true]
    refine bind_of (m27_eq (mde x.1) _) ?_
    rw [hna, orF, notF, andT, cond_true]
    refine bind_of (x := hid x.1) h26 ?_
    rw [cond_true]
    refine bind_of (m27_eq (mde x.1) _) ?_
    rw [hna, orF, andT, cond_false, cond_false]
    have p1 := pk_lo (c := x.2.1) (n := lenM l) (by show 0 < (l.length : Int); omega)
    have p2 := pk_hi (c := x.2.1) (n := lenM l) (by show 0 < (l.length : Int); omega)
    refine bind_of (m13_eq h1 (by show 0 < (l.length : Int); omega)) ?_
    obtain ⟨k, hk⟩ := Int.eq_ofNat_of_zero_le p1
    rw [hk] at p2 ⊢
    have hkl : k < l.length := by have : (k : Int) < (l.length : Int) := p2; omega
    have hstm : ∀ k, k < l.length → ((v k : Int), (v (k + 1) : Int), S (k + 1) - S k) ∈ (mde x.1).2 := fun k hk => by
      obtain ⟨q1, q2, q3⟩ := g5 k hk
      rw [← q3, getD_of (by omega)]
      exact List.getElem_mem _
    obtain ⟨b1, b2⟩ := less_good hS.sys hkl (by omega) g1 g2 g3 g4 hstm g6
    obtain ⟨b3, b4⟩ := all_bad hS.sys (by omega) g1 g2 g3 g4 hstm
    refine bind_of (x := ((mde x.1).1, (mde x.1).1, lessL (fun e => ((v e : Int), (v (e + 1) : Int), S (e + 1) - S e)) k l.length, row l.length (fun e => ((v e : Int), (v (e + 1) : Int), S (e + 1) - S e)))) ?_ ?_
    · refine count_loop (fun i => ((mde x.1).1, (mde x.1).1, lessL (fun e => ((v e : Int), (v (e + 1) : Int), S (e + 1) - S e)) k i, row i (fun e => ((v e : Int), (v (e + 1) : Int), S (e + 1) - S e)))) l.length (fun i hi => ?_) ?_
      · dsimp only
        obtain ⟨q1, q2, q3⟩ := g5 i hi
        have e3 : idxM (mde x.1).2 l[i] = some ((v i : Int), (v (i + 1) : Int), S (i + 1) - S i) := by
          rw [idxM_of q1 q2, ← q3, getD_of (by omega)]
        rw [ltI (by show (i : Int) < (l.length : Int); omega), cond_true, idxM_lt hi, Option.bind_some, e3, Option.bind_some]
        refine bind_of (app_rowOf rfl (by show (i + 1) * 24 ≤ 140737488355328; omega)) ?_
        by_cases hik : i = k
        · subst hik
          rw [eqI rfl, notT, cond_false, wrap_in (by omega) (by omega), lessL_same]
        · rw [neI (by omega), notF, cond_true, Option.bind_some, e3, Option.bind_some]
          have := lessL_len (g := fun e => ((v e : Int), (v (e + 1) : Int), S (e + 1) - S e)) (k := k) (i := i)
          refine bind_of (appM_of (by show ((lessL _ k i).length + 1) * 24 ≤ 140737488355328; omega)) ?_
          have hstep := lessL_step (g := fun e => ((v e : Int), (v (e + 1) : Int), S (e + 1) - S e)) hik
          rw [hstep, wrap_in (by omega) (by omega)]
      · dsimp only
        rw [geI (Int.le_refl _), cond_false]
    · refine bind_of (m18_good b1 b2) (bind_of (m18_bad b3 b4) ?_)
      rfl
end Go.Proofs.Ytadcohacnmicjaa
/-
  Between: the plain law of BetweenContradicts, as the frame asks for it.
  No conditions.
-/
namespace Go.Proofs.Ytadcohacnmicjaa
open Go Go.Abs Go.PE
theorem law5 : ∀ (S : Cells) (w : World) (η : Eta) (vs : List Value) x, All2 (RM S w η) (rvs as5 x) vs → m5 x = some true :=
  law_of_ok fun x h => law5_ok x (num_ok h.1) h.2.1
end Go.Proofs.Ytadcohacnmicjaa
