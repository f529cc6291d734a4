/-
  Texts of this proof, put together: 9D, 9E, 9G, 9H, 9I, 9J, LawBetweenMatchesReference.
  No conditions.
-/
import Derived.Test.YtadcohacnmicjaaZ5
set_option linter.all false
/-
  Between: Cycle, as the model computes it.
  No conditions.
-/
namespace Go.Proofs.Ytadcohacnmicjaa
open Go Go.Abs Go.PE
set_option linter.unusedVariables false
/-- A loop that ends at the first element that passes a test, with a result of its own. -/
theorem findg_loop {α γ : Type} {xs : List α} (p : α → Bool) (g : Nat → γ) {body : Int → Option (Int ⊕ (Unit ⊕ γ))}
    (h1 : ∀ j, xs.findIdx? p = some j → body (j : Int) = some (.inr (.inr (g j)))) (h2 : ∀ j (hj : j < xs.length), p xs[j] = false → body (j : Int) = some (.inl ((j : Int) + 1))) (he : body (xs.length : Int) = some (.inr (.inl ()))) :
    loopM body 0 = some (match xs.findIdx? p with | some j => .inr (g j) | none => .inl ()) := by
  cases hf : xs.findIdx? p with
  | none =>
    rw [List.findIdx?_eq_none_iff] at hf
    refine loopM_fn (fun k => (k : Int)) xs.length (fun k hk => h2 k hk (hf _ (List.getElem_mem hk))) he
  | some j =>
    obtain ⟨hj, hp, hall⟩ := List.findIdx?_eq_some_iff_getElem.1 hf
    refine loopM_fn (fun k => (k : Int)) j (fun k hk => h2 k (by omega) ?_) (h1 j hf)
    have := hall k hk
    simpa using this
/-- A bound that m further ones make a contradiction. -/
def cst (bs : List (Int × Int × Int)) (m : Nat) (c : Int × Int × Int) : Bool := decide (pl c.2.2 (wkT bs m c.2.1.toNat c.1.toNat) < 0)
def cycM (bs : List (Int × Int × Int)) : Nat := ((List.range 17).find? fun m => (bs.findIdx? (cst bs m)).isSome).getD 0
/-- The first contradiction. -/
def cycL (bs : List (Int × Int × Int)) : List Int := match bs.findIdx? (cst bs (cycM bs)) with
  | some k => (k : Int) :: chP bs (bs.getD k (0, 0, 0)).1.toNat (cycM bs) (bs.getD k (0, 0, 0)).2.1.toNat (-1 - (bs.getD k (0, 0, 0)).2.2)
  | none => []
theorem cst_walk {n : Nat} {bs : List (Int × Int × Int)} (hb : bs.all (bnd (n : Int)) = true) {m : Nat} (hm : m ≤ 999) {c : Int × Int × Int} (hc : c ∈ bs) : cst bs m c = true ↔ wkT bs m c.2.1.toNat c.1.toNat ≤ -1 - c.2.2 := by
  have hcb := of_decide_eq_true (List.all_eq_true.1 hb _ hc)
  unfold cst
  rcases wk_sz hb (m := m) (i := c.2.1.toNat) (j := c.1.toNat) (by omega) (by omega) (by omega) with e | e
  · rw [e, far_pl]
    constructor
    · intro h; exact absurd (of_decide_eq_true h) (by omega)
    · intro h; omega
  · rw [pl_sz (by omega) (by omega)]
    constructor
    · intro h; have := of_decide_eq_true h; omega
    · intro h; exact decide_eq_true (by omega)
/-- Where a closed walk of m + 1 bounds is negative, a bound passes. -/
theorem cst_of {n : Nat} {bs : List (Int × Int × Int)} (hb : bs.all (bnd (n : Int)) = true) {m u : Nat} {w : Int} (hm : m ≤ 999) (hu : u < n) (hw : w < 0) (h : WN bs u u (m + 1) w) : (bs.findIdx? (cst bs m)).isSome = true := by
  cases h with
  | @cons _ a _ _ c w' hmem h2 =>
    have hc := of_decide_eq_true (List.all_eq_true.1 hb _ hmem)
    simp only at hc
    have ha : a < n := by omega
    have h3 := (wk_le hb (by omega) ha h2).1
    have hp : cst bs m ((u : Int), (a : Int), c) = true := (cst_walk hb hm hmem).2 (by
      have t1 : ((a : Int)).toNat = a := by omega
      have t2 : ((u : Int)).toNat = u := by omega
      simp only [t1, t2]
      omega)
    cases hf : bs.findIdx? (cst bs m) with
    | none =>
      rw [List.findIdx?_eq_none_iff] at hf
      rw [hf _ hmem] at hp
      cases hp
    | some k => rfl
theorem of_cst {n : Nat} {bs : List (Int × Int × Int)} (hb : bs.all (bnd (n : Int)) = true) {m k : Nat} (hm : m ≤ 999) (h : bs.findIdx? (cst bs m) = some k) : ∃ hk : k < bs.length, wkT bs m bs[k].2.1.toNat bs[k].1.toNat ≤ -1 - bs[k].2.2 := by
  obtain ⟨hk, hp, _⟩ := List.findIdx?_eq_some_iff_getElem.1 h
  exact ⟨hk, (cst_walk hb hm (List.getElem_mem hk)).1 hp⟩
/-- The least number of further bounds. -/
theorem cycM_of {x : Sys} (hs : sys x = true) (ho : ovS x = true) : cycM x.2 < x.1.toNat ∧ (x.2.findIdx? (cst x.2 (cycM x.2))).isSome = true ∧ ∀ k, k < cycM x.2 → (x.2.findIdx? (cst x.2 k)).isSome = false := by
  obtain ⟨hn, hb, he⟩ := sys_all hs
  obtain ⟨i, w, hi, hw, hwk⟩ := ov_walk hs ho
  obtain ⟨m0, hm0⟩ := hwk.wn
  obtain ⟨u, m1, w1, hu, g1, g2, g3, g4⟩ := WN.cycle hb m0 hi hw hm0
  obtain ⟨m, rfl⟩ : ∃ m, m1 = m + 1 := ⟨m1 - 1, by omega⟩
  have hex := cst_of hb (by omega) hu g3 g4
  unfold cycM
  cases e : (List.range 17).find? fun m => (x.2.findIdx? (cst x.2 m)).isSome with
  | none =>
    rw [List.find?_eq_none] at e
    exact absurd hex (e m (List.mem_range.2 (by omega)))
  | some k =>
    rw [List.find?_eq_some_iff_getElem] at e
    obtain ⟨h1, i, hi, h2, h3⟩ := e
    rw [List.getElem_range] at h2
    subst h2
    rw [List.length_range] at hi
    have h3' : ∀ j, j < i → (x.2.findIdx? (cst x.2 j)).isSome = false := fun j hj => by
      have := h3 j hj
      rw [List.getElem_range] at this
      simpa using this
    refine ⟨?_, h1, h3'⟩
    show i < x.1.toNat
    refine Classical.byContradiction fun hn => ?_
    have := h3' m (by omega)
    rw [hex] at this
    cases this
/-- What Cycle returns. -/
def cycR (x : Sys) : List Int × Bool := bif sys x && ovS x then (cycL x.2, true) else ([], false)
theorem m20_eq (x : Sys) : m20 x = some (cycR x) := by
  unfold m20 cycR
  dsimp only
  rw [show (x.1, x.2) = x from rfl, m22_eq, Option.bind_some]
  cases hs : sys x with
  | false => rfl
  | true =>
    obtain ⟨hn, hb, he⟩ := sys_all hs
    have hl := (sys_bnd hs).1.2.2
    have h39 := m39_eq hn hl hb
    rw [he] at h39
    rw [notT, cond_false]
    refine bind_of (x := bif ovS x then ([], false) else (rt x.1.toNat (fun _ => x.1.toNat) (fwS x), true)) h39 ?_
    cases ho : ovS x with
    | false => rfl
    | true =>
      obtain ⟨c1, c2, c3⟩ := cycM_of hs ho
      obtain ⟨k0, hk0⟩ := Option.isSome_iff_exists.1 c2
      obtain ⟨hkl, hkw⟩ := of_cst hb (by omega) hk0
      have h58 := none_table hn
      rw [he] at h58
      rw [cond_true, cond_false]
      refine bind_of h58 ?_
      have hcy : cycL x.2 = (k0 : Int) :: chP x.2 x.2[k0].1.toNat (cycM x.2) x.2[k0].2.1.toNat (-1 - x.2[k0].2.2) := by
        unfold cycL
        rw [hk0]
        dsimp only
        rw [getD_of hkl]
      rw [hcy]
      generalize cycM x.2 = m0 at *
      refine bind_of (x := ((k0 : Int) :: chP x.2 x.2[k0].1.toNat m0 x.2[k0].2.1.toNat (-1 - x.2[k0].2.2), true, row (m0 + 2) fun m => rt x.1.toNat (fun _ => x.1.toNat) (wkT x.2 m)))
        (loopM_fn (fun m => (rt x.1.toNat (fun _ => x.1.toNat) (wkT x.2 m), row m fun m => rt x.1.toNat (fun _ => x.1.toNat) (wkT x.2 m))) (m0 + 1) (fun k hk => ?_) ?_) rfl
      · dsimp only
        refine bind_of (app_rowOf rfl (by show (k + 1) * 24 ≤ 140737488355328; omega)) ?_
        have elen : IntKind.wrap IntKind.i64 (lenM (row (k + 1) fun m => rt x.1.toNat (fun _ => x.1.toNat) (wkT x.2 m)) - 1) = (k : Int) := by rw [lenRow, wrap_in (by omega) (by omega)]; omega
        rw [elen]
        refine bind_of (x := Sum.inl ()) (loopM_is (fun j s => s = (j : Int)) x.2.length rfl fun j s hj hs => ?_) ?_
        · subst hs
          by_cases hlt : j < x.2.length
          · refine .inl ⟨((j + 1 : Nat) : Int), hlt, ?_, rfl⟩
            obtain ⟨a, b, ha, hb', e1, e2, _, _⟩ := bnd_of (List.all_eq_true.1 hb _ (List.getElem_mem hlt))
            have ej : IntKind.wrap IntKind.i64 ((j : Int) + 1) = ((j + 1 : Nat) : Int) := by rw [wrap_in (by omega) (by omega)]; rfl
            rw [ltI (a := (j : Int)) (b := lenM x.2) (by show (j : Int) < (x.2.length : Int); omega), cond_true, idxM_lt hlt, Option.bind_some]
            cases k with
            | zero =>
              rw [geI (by omega), cond_false, Option.bind_some, cond_false, Option.bind_some, cond_false, Option.bind_some, cond_false, Option.bind_some, cond_false, Option.bind_some, andF, cond_false, ej]
            | succ k =>
              have e3 : ((k + 1 : Nat) : Int) - 1 = (k : Int) := by omega
              have hno := c3 k (by omega)
              have hpf : cst x.2 k x.2[j] = false := by
                have : x.2.findIdx? (cst x.2 k) = none := by
                  cases hq : x.2.findIdx? (cst x.2 k) with
                  | none => rfl
                  | some z => rw [hq] at hno; cases hno
                rw [List.findIdx?_eq_none_iff] at this
                exact this _ (List.getElem_mem hlt)
              unfold cst at hpf
              have hpf := of_decide_eq_false hpf
              have t1 : x.2[j].1.toNat = a := by omega
              have t2 : x.2[j].2.1.toNat = b := by omega
              rw [t1, t2] at hpf
              rw [ltI (by omega), cond_true, e3, wrap_in (n := (k : Int)) (by omega) (by omega), chkM_of (by omega) (by rw [lenRow]; omega), Option.bind_some, cond_true, row_idx (by omega), Option.bind_some, cond_true, e2, rt_idx hb', Option.bind_some, cond_true, e1, row_idx ha, Option.bind_some, cond_true, m43_pl, Option.bind_some, geI (by omega), andT, cond_false, ej]
          · refine .inr ?_
            have e : j = x.2.length := by omega
            rw [e, geI (Int.le_refl _), cond_false]
        · have hmk := none_make hn
          have hfl := far_loop hn
          rw [he] at hmk hfl
          have hnl := next_loop hn hl hb (wkT x.2 k)
          rw [he] at hnl
          show Option.bind _ _ = _
          refine bind_of hmk (bind_of hfl (bind_of hnl ?_))
          rfl
      · dsimp only
        refine bind_of (app_rowOf rfl (by show (m0 + 1 + 1) * 24 ≤ 140737488355328; omega)) ?_
        have elen : IntKind.wrap IntKind.i64 (lenM (row (m0 + 1 + 1) fun m => rt x.1.toNat (fun _ => x.1.toNat) (wkT x.2 m)) - 1) = ((m0 + 1 : Nat) : Int) := by rw [lenRow, wrap_in (by omega) (by omega)]; omega
        rw [elen]
        have e3 : ((m0 + 1 : Nat) : Int) - 1 = (m0 : Int) := by omega
        refine bind_of (x := Sum.inr ((k0 : Int) :: chP x.2 x.2[k0].1.toNat m0 x.2[k0].2.1.toNat (-1 - x.2[k0].2.2), true, row (m0 + 1 + 1) fun m => rt x.1.toNat (fun _ => x.1.toNat) (wkT x.2 m))) ?_ rfl
        have hfg := fun body h1 h2 he => findg_loop (xs := x.2) (cst x.2 m0) (fun j => ((j : Int) :: chP x.2 (x.2.getD j (0, 0, 0)).1.toNat m0 (x.2.getD j (0, 0, 0)).2.1.toNat (-1 - (x.2.getD j (0, 0, 0)).2.2), true, row (m0 + 1 + 1) fun m => rt x.1.toNat (fun _ => x.1.toNat) (wkT x.2 m))) (body := body) h1 h2 he
        rw [hk0] at hfg
        dsimp only at hfg
        rw [getD_of hkl] at hfg
        refine hfg _ (fun j hj => ?_) (fun j hj hp => ?_) ?_
        · have ej : j = k0 := (Option.some.inj hj).symm
          subst ej
          obtain ⟨a, b, ha, hb', e1, e2, g1, g2⟩ := bnd_of (List.all_eq_true.1 hb _ (List.getElem_mem hkl))
          have t1 : x.2[j].1.toNat = a := by omega
          have t2 : x.2[j].2.1.toNat = b := by omega
          have hpt := (cst_walk hb (by omega) (List.getElem_mem hkl)).2 hkw
          unfold cst at hpt
          have hpt := of_decide_eq_true hpt
          rw [t1, t2] at hpt hkw
          rw [ltI (a := (j : Int)) (b := lenM x.2) (by show (j : Int) < (x.2.length : Int); omega), cond_true, idxM_lt hkl, Option.bind_some]
          rw [ltI (by omega), cond_true, e3, wrap_in (n := (m0 : Int)) (by omega) (by omega), chkM_of (by omega) (by rw [lenRow]; omega), Option.bind_some, cond_true, row_idx (by omega), Option.bind_some, cond_true, e2, rt_idx hb', Option.bind_some, cond_true, e1, row_idx ha, Option.bind_some, cond_true, m43_pl, Option.bind_some, ltI hpt, andT, cond_true]
          rw [wrap_in (n := -1 - x.2[j].2.2) (by omega) (by omega)]
          have h44 := m44_eq (n := x.1.toNat) hl hb (M := m0 + 1 + 1) (to := a) (m := m0) (f := b) (q := -1 - x.2[j].2.2) ha (by omega) (by omega) hb' (by omega) (by omega) hkw
          rw [he] at h44
          refine bind_of h44 ?_
          obtain ⟨k1, _⟩ := chP_fol hb ha m0 b (-1 - x.2[j].2.2) 0 (by omega) hb' (by omega) (by omega) (by omega) (by omega) hkw
          refine bind_of (appM_of (by show (1 + (chP x.2 a m0 b (-1 - x.2[j].2.2)).length) * 8 ≤ 140737488355328; omega)) ?_
          rw [getD_of hkl, t1, t2]
          rfl
        · obtain ⟨a, b, ha, hb', e1, e2, g1, g2⟩ := bnd_of (List.all_eq_true.1 hb _ (List.getElem_mem hj))
          have t1 : x.2[j].1.toNat = a := by omega
          have t2 : x.2[j].2.1.toNat = b := by omega
          unfold cst at hp
          have hp := of_decide_eq_false hp
          rw [t1, t2] at hp
          rw [ltI (a := (j : Int)) (b := lenM x.2) (by show (j : Int) < (x.2.length : Int); omega), cond_true, idxM_lt hj, Option.bind_some]
          rw [ltI (by omega), cond_true, e3, wrap_in (n := (m0 : Int)) (by omega) (by omega), chkM_of (by omega) (by rw [lenRow]; omega), Option.bind_some, cond_true, row_idx (by omega), Option.bind_some, cond_true, e2, rt_idx hb', Option.bind_some, cond_true, e1, row_idx ha, Option.bind_some, cond_true, m43_pl, Option.bind_some, geI (by omega), andT, cond_false, wrap_in (by omega) (by omega)]
        · rw [geI (Int.le_refl _), cond_false]
end Go.Proofs.Ytadcohacnmicjaa
/-
  Between: the first contradiction is one of which no bound can be left out; the law BetweenContradicts.
  No conditions.
-/
namespace Go.Proofs.Ytadcohacnmicjaa
open Go Go.Abs Go.PE
set_option linter.unusedVariables false
/-- The stations of a list of bounds. -/
theorem folP_st {n : Nat} {bs : List (Int × Int × Int)} (hb : bs.all (bnd (n : Int)) = true) : ∀ (l : List Int) (f : Nat) (s : Int) {e s' : Int}, l.length ≤ 100 → -1000000000000000 + l.length * 1000000000 ≤ s → s ≤ 1000000000000000 - l.length * 1000000000 → folP bs l f s = some (e, s') →
    ∃ (v : Nat → Nat) (S : Nat → Int), v 0 = f ∧ (v l.length : Int) = e ∧ S 0 = s ∧ S l.length = s' ∧ ∀ k (hk : k < l.length), 0 ≤ l[k] ∧ l[k] < bs.length ∧ bs.getD l[k].toNat (0, 0, 0) = ((v k : Int), (v (k + 1) : Int), S (k + 1) - S k) := by
  intro l
  induction l with
  | nil =>
    intro f s e s' _ _ _ h
    have h' : some ((f : Int), s) = some (e, s') := h
    have h1 := congrArg Prod.fst (Option.some.inj h')
    have h2 := congrArg Prod.snd (Option.some.inj h')
    simp only at h1 h2
    exact ⟨fun _ => f, fun _ => s, rfl, h1, rfl, h2, fun k hk => absurd hk (Nat.not_lt_zero _)⟩
  | cons k l ih =>
    intro f s e s' hl h1 h2 h
    unfold folP at h
    have hl' : (k :: l).length = l.length + 1 := rfl
    rw [hl'] at hl h1 h2
    split at h
    · rename_i hk
      obtain ⟨k0, k1, k2⟩ := hk
      have hkl : k.toNat < bs.length := by omega
      obtain ⟨a, b, ha, hb', e1, e2, e3, e4⟩ := bnd_of (List.all_eq_true.1 hb _ (List.getElem_mem hkl))
      have hgd := getD_of (z := (0, 0, 0)) hkl
      rw [hgd] at h k2
      rw [wrap_in (by omega) (by omega), e2] at h
      obtain ⟨v, S, g1, g2, g3, g4, g5⟩ := ih b _ (by omega) (by omega) (by omega) h
      refine ⟨fun j => match j with | 0 => f | j + 1 => v j, fun j => match j with | 0 => s | j + 1 => S j, rfl, g2, rfl, g4, fun j hj => ?_⟩
      cases j with
      | zero =>
        refine ⟨k0, k1, ?_⟩
        show bs.getD k.toNat (0, 0, 0) = ((f : Int), (v 0 : Int), S 0 - s)
        rw [hgd, g1, g3, ← k2, ← e2]
        have : s + bs[k.toNat].2.2 - s = bs[k.toNat].2.2 := by omega
        rw [this]
      | succ j => exact g5 j (by rw [hl'] at hj; omega)
    · cases h
/-- The first contradiction: its stations. -/
theorem cyc_st {x : Sys} (hs : sys x = true) (ho : ovS x = true) : chkCycle x (cycL x.2) = true ∧ ∃ (v : Nat → Nat) (S : Nat → Int), 1 ≤ (cycL x.2).length ∧ (cycL x.2).length ≤ x.1.toNat ∧ v 0 < x.1.toNat ∧ v (cycL x.2).length = v 0 ∧ S 0 = 0 ∧ S (cycL x.2).length < 0 ∧
    (∀ k (hk : k < (cycL x.2).length), 0 ≤ (cycL x.2)[k] ∧ (cycL x.2)[k] < x.2.length ∧ x.2.getD (cycL x.2)[k].toNat (0, 0, 0) = ((v k : Int), (v (k + 1) : Int), S (k + 1) - S k)) ∧
    (∀ u m w, u < x.1.toNat → m < (cycL x.2).length → WN x.2 u u m w → 0 ≤ w) := by
  obtain ⟨hn, hb, he⟩ := sys_all hs
  have hl := (sys_bnd hs).1.2.2
  obtain ⟨c1, c2, c3⟩ := cycM_of hs ho
  obtain ⟨k0, hk0⟩ := Option.isSome_iff_exists.1 c2
  obtain ⟨hkl, hkw⟩ := of_cst hb (by omega) hk0
  obtain ⟨a, b, ha, hb', e1, e2, g1, g2⟩ := bnd_of (List.all_eq_true.1 hb _ (List.getElem_mem hkl))
  have t1 : x.2[k0].1.toNat = a := by omega
  have t2 : x.2[k0].2.1.toNat = b := by omega
  rw [t1, t2] at hkw
  have hcy : cycL x.2 = (k0 : Int) :: chP x.2 a (cycM x.2) b (-1 - x.2[k0].2.2) := by
    unfold cycL
    rw [hk0]
    dsimp only
    rw [getD_of hkl, t1, t2]
  have hmin : ∀ u m w, u < x.1.toNat → m < cycM x.2 + 1 → WN x.2 u u m w → 0 ≤ w := fun u m w hu hm hw => by
    refine Classical.byContradiction fun hneg => ?_
    cases m with
    | zero => have := hw.zero.2; omega
    | succ m =>
      have h1 := cst_of hb (by omega) hu (by omega) hw
      rw [c3 m (by omega)] at h1
      cases h1
  generalize cycM x.2 = m0 at *
  obtain ⟨k1, s', k2, k3⟩ := chP_fol hb ha m0 b (-1 - x.2[k0].2.2) x.2[k0].2.2 (by omega) hb' (by omega) (by omega) (by omega) (by omega) hkw
  have hlen : (cycL x.2).length = m0 + 1 := by rw [hcy, List.length_cons, k1]
  have hfol : folP x.2 (cycL x.2) a 0 = some ((a : Int), s') := by
    rw [hcy]
    unfold folP
    have t3 : ((k0 : Int)).toNat = k0 := by omega
    rw [t3, getD_of hkl, if_pos ⟨by omega, by omega, e1⟩, wrap_in (by omega) (by omega), Int.zero_add, e2]
    exact k2
  refine ⟨?_, ?_⟩
  · have hR : folR x.2 (cycL x.2) a = ((a : Int), s', true) := by
      unfold folR
      rw [hfol, hlen]
      dsimp only
      rw [decide_eq_true (by omega)]
    rw [hcy] at hR ⊢
    unfold chkCycle
    have t3 : ((k0 : Int)).toNat = k0 := by omega
    dsimp only
    rw [hs, t3, getD_of hkl, e1, hR, decide_eq_true (by omega), decide_eq_true (by omega)]
    show (true && (true && true) && (true && decide ((a : Int) = a) && decide (s' < 0))) = true
    rw [decide_eq_true (show (a : Int) = a from rfl), decide_eq_true (show s' < 0 by omega)]
    rfl
  · obtain ⟨v, S, h1, h2, h3, h4, h5⟩ := folP_st hb (cycL x.2) a 0 (by omega) (by omega) (by omega) hfol
    refine ⟨v, S, by omega, by omega, by omega, by omega, h3, by omega, h5, ?_⟩
    rw [hlen]
    exact hmin
/-- No station comes twice. -/
theorem cyc_inj {x : Sys} (hs : sys x = true) {m : Nat} {v : Nat → Nat} {S : Nat → Int} (h0 : v 0 < x.1.toNat) (hc : v m = v 0) (hS : S 0 = 0) (hneg : S m < 0) (hst : ∀ k, k < m → ((v k : Int), (v (k + 1) : Int), S (k + 1) - S k) ∈ x.2) (hmin : ∀ u k w, u < x.1.toNat → k < m → WN x.2 u u k w → 0 ≤ w)
    {a b : Nat} (hab : a < b) (hb : b < m) : v a ≠ v b := fun e => by
  obtain ⟨_, hall, _⟩ := sys_all hs
  have s1 := seg hst 0 a (by omega)
  have s2 := seg hst a (b - a) (by omega)
  have s3 := seg hst b (m - b) (by omega)
  rw [Nat.zero_add] at s1
  rw [show a + (b - a) = b by omega] at s2
  rw [show b + (m - b) = m by omega, ← e, hc] at s3
  have hva : v a < x.1.toNat := s1.stays hall h0
  rw [← e] at s2
  have g1 := hmin _ _ _ hva (by omega) s2
  have g2 := hmin _ _ _ h0 (by omega) (s1.trans s3)
  omega
/-- Along bounds that each lead one place on there is no way back. -/
theorem wn_pot {bs : List (Int × Int × Int)} (f : Nat → Nat) (h : ∀ a b : Nat, ∀ c : Int, ((a : Int), (b : Int), c) ∈ bs → f b = f a + 1) {i j m : Nat} {w : Int} (hw : WN bs i j m w) : f j = f i + m := by
  induction hw with
  | nil => omega
  | cons hm _ ih => have := h _ _ _ hm; omega
theorem pot_good {y : Sys} (hs : sys y = true) (f : Nat → Nat) (h : ∀ a b : Nat, ∀ c : Int, ((a : Int), (b : Int), c) ∈ y.2 → f b = f a + 1) : ovS y = false := by
  cases ho : ovS y with
  | false => rfl
  | true =>
    obtain ⟨i, w, _, hw, hwk⟩ := ov_walk hs ho
    obtain ⟨m, hm⟩ := hwk.wn
    have := wn_pot f h hm
    have e : m = 0 := by omega
    subst e
    have := hm.zero.2
    omega
/-- The bounds of a contradiction, without the k-th one. -/
def lessL (g : Nat → Int × Int × Int) (k i : Nat) : List (Int × Int × Int) := if i ≤ k then row i g else row (i - 1) fun e => if e < k then g e else g (e + 1)
theorem lessL_len {g : Nat → Int × Int × Int} {k i : Nat} : (lessL g k i).length ≤ i := by
  unfold lessL
  split <;> rw [row_length] <;> omega
theorem lessL_mem {g : Nat → Int × Int × Int} {k i : Nat} {c : Int × Int × Int} (h : c ∈ lessL g k i) : ∃ e, e < i ∧ e ≠ k ∧ g e = c := by
  unfold lessL at h
  split at h
  · obtain ⟨e, he, rfl⟩ := row_mem h
    exact ⟨e, he, by omega, rfl⟩
  · obtain ⟨e, he, rfl⟩ := row_mem h
    by_cases h' : e < k
    · exact ⟨e, by omega, by omega, by rw [if_pos h']⟩
    · exact ⟨e + 1, by omega, by omega, by rw [if_neg h']⟩
theorem lessL_step {g : Nat → Int × Int × Int} {k i : Nat} (h : i ≠ k) : lessL g k i ++ [g i] = lessL g k (i + 1) := by
  unfold lessL
  by_cases h1 : i < k
  · rw [if_pos (by omega), if_pos (by omega), row_succ]
  · rw [if_neg (by omega), if_neg (by omega)]
    obtain ⟨j, rfl⟩ : ∃ j, i = j + 1 := ⟨i - 1, by omega⟩
    show row j _ ++ _ = row (j + 1) _
    rw [row_succ, if_neg (by omega)]
theorem lessL_same {g : Nat → Int × Int × Int} (k : Nat) : lessL g k k = lessL g k (k + 1) := by
  unfold lessL
  rw [if_pos (Nat.le_refl _), if_neg (by omega)]
  exact row_congr fun i hi => by rw [if_pos (by omega)]
theorem less_good {x : Sys} (hs : sys x = true) {m k : Nat} {v : Nat → Nat} {S : Nat → Int} (hk : k < m) (hm : m ≤ 16) (h0 : v 0 < x.1.toNat) (hc : v m = v 0) (hS : S 0 = 0) (hneg : S m < 0) (hst : ∀ k, k < m → ((v k : Int), (v (k + 1) : Int), S (k + 1) - S k) ∈ x.2) (hmin : ∀ u k w, u < x.1.toNat → k < m → WN x.2 u u k w → 0 ≤ w) :
    sys (x.1, lessL (fun e => ((v e : Int), (v (e + 1) : Int), S (e + 1) - S e)) k m) = true ∧ ovS (x.1, lessL (fun e => ((v e : Int), (v (e + 1) : Int), S (e + 1) - S e)) k m) = false := by
  have hsys : sys (x.1, lessL (fun e => ((v e : Int), (v (e + 1) : Int), S (e + 1) - S e)) k m) = true := by
    have hb := sys_bnd hs
    unfold sys
    rw [Bool.and_eq_true]
    refine ⟨decide_eq_true ⟨hb.1.1, hb.1.2.1, ?_⟩, List.all_eq_true.2 fun c hc => ?_⟩
    · have := lessL_len (g := fun e => ((v e : Int), (v (e + 1) : Int), S (e + 1) - S e)) (k := k) (i := m)
      show (lessL _ k m).length ≤ 60
      omega
    · obtain ⟨e, he, _, rfl⟩ := lessL_mem hc
      exact decide_eq_true (hb.2 _ (hst e he))
  refine ⟨hsys, ?_⟩
  have inj : ∀ a b, a < m → b < m → v a = v b → a = b := fun a b ha hb e => by
    rcases Nat.lt_trichotomy a b with h | h | h
    · exact absurd e (cyc_inj hs h0 hc hS hneg hst hmin h hb)
    · exact h
    · exact absurd e.symm (cyc_inj hs h0 hc hS hneg hst hmin h ha)
  let f : Nat → Nat := fun u => match (List.range m).find? (fun e => decide (v e = u)) with
    | some e => if e ≤ k then e + m else e
    | none => 0
  have hf : ∀ e, e < m → f (v e) = if e ≤ k then e + m else e := fun e he => by
    show (match (List.range m).find? (fun e' => decide (v e' = v e)) with | some e => if e ≤ k then e + m else e | none => 0) = _
    cases hq : (List.range m).find? (fun e' => decide (v e' = v e)) with
    | none =>
      rw [List.find?_eq_none] at hq
      exact absurd (decide_eq_true rfl) (hq e (List.mem_range.2 he))
    | some e' =>
      have h1 := List.find?_some hq
      have h2 := List.mem_range.1 (List.mem_of_find?_eq_some hq)
      have := inj e' e h2 he (of_decide_eq_true h1)
      rw [this]
  refine pot_good hsys f fun a b c hm' => ?_
  obtain ⟨e, he, hek, h3⟩ := lessL_mem hm'
  have e1 : (v e : Int) = a := congrArg (·.1) h3
  have e2 : (v (e + 1) : Int) = b := congrArg (·.2.1) h3
  have e1' : a = v e := by omega
  have e2' : b = v (e + 1) := by omega
  rw [e1', e2', hf e he]
  by_cases hl : e + 1 < m
  · rw [hf (e + 1) hl]
    by_cases h4 : e < k
    · rw [if_pos (by omega), if_pos (by omega)]; omega
    · rw [if_neg (by omega), if_neg (by omega)]
  · have : e + 1 = m := by omega
    rw [this, hc, hf 0 (by omega), if_pos (by omega), if_neg (by omega)]
    omega
theorem all_bad {x : Sys} (hs : sys x = true) {m : Nat} {v : Nat → Nat} {S : Nat → Int} (hm : m ≤ 16) (h0 : v 0 < x.1.toNat) (hc : v m = v 0) (hS : S 0 = 0) (hneg : S m < 0) (hst : ∀ k, k < m → ((v k : Int), (v (k + 1) : Int), S (k + 1) - S k) ∈ x.2) :
    sys (x.1, row m (fun e => ((v e : Int), (v (e + 1) : Int), S (e + 1) - S e))) = true ∧ ovS (x.1, row m (fun e => ((v e : Int), (v (e + 1) : Int), S (e + 1) - S e))) = true := by
  have hsys : sys (x.1, row m (fun e => ((v e : Int), (v (e + 1) : Int), S (e + 1) - S e))) = true := by
    have hb := sys_bnd hs
    unfold sys
    rw [Bool.and_eq_true]
    refine ⟨decide_eq_true ⟨hb.1.1, hb.1.2.1, ?_⟩, List.all_eq_true.2 fun c hc => ?_⟩
    · show (row m _).length ≤ 60
      rw [row_length]; omega
    · obtain ⟨e, he, rfl⟩ := row_mem hc
      exact decide_eq_true (hb.2 _ (hst e he))
  refine ⟨hsys, ?_⟩
  have hw := seg (bs := row m (fun e => ((v e : Int), (v (e + 1) : Int), S (e + 1) - S e))) (v := v) (s := S) (m := m) (fun k hk => mem_row (g := fun e => ((v e : Int), (v (e + 1) : Int), S (e + 1) - S e)) hk) 0 m (by omega)
  rw [Nat.zero_add, hc, hS] at hw
  exact ov_of_walk hsys h0 (by omega) hw.wk
theorem law5_ok (x : Num × Int × List Int × List Int) (h : NumOK x.1) (h1 : i64 x.2.1) : m5 x = some true := by
  have hS := mde_sml x.1
  have hn := nH_bd x.1
  have hf := mde_fst' x.1
  have h35 := m35_eq h
  have h26 := m26_eq h
  have hsh := short_len x.2.2.1
  unfold m5
  refine bind_of sane_ok ?_
  rw [notT, cond_false]
  refine bind_of (x := mde x.1) (m12_eq h) (bind_of (x := cycR (mde x.1)) (m20_eq _) ?_)
  have h29s : m29 (mde x.1, short x.2.2.1) = some (chkCycle (mde x.1) (short x.2.2.1)) := m29_eq _ (by omega)
  cases ho : ovS (mde x.1) with
  | false =>
    have hcr : cycR (mde x.1) = ([], false) := by unfold cycR; rw [hS.sys, ho]; rfl
    have hno : chkCycle (mde x.1) (short x.2.2.1) = false := by
      cases hb : chkCycle (mde x.1) (short x.2.2.1) with
      | false => rfl
      | true => have := (chkCycle_ov hb).2; rw [ho] at this; cases this
    rw [hno] at h29s
    refine bind_of (m18_good hS.sys ho) ?_
    rw [hcr]
    dsimp only
    have e1 : eqM (0 : Int) 0 = true := rfl
    have e2 : eqbM false true = false := rfl
    rw [e1, e2, notF, andT, cond_true]
    refine bind_of (m27_eq (mde x.1) _) ?_
    rw [sol_allw hS ho, notT, andT, orF, cond_false, cond_false, Option.bind_some, andF, cond_false, Option.bind_some, andF, cond_false]
    refine bind_of (x := false) (m29_eq (mde x.1) (l := []) (by show 0 ≤ _; omega)) ?_
    rw [notF, cond_true]
    refine bind_of (m11_eq x.2.2.1) ?_
    rw [cond_true]
    refine bind_of h29s ?_
    rfl
  | true =>
    have hcr : cycR (mde x.1) = (cycL (mde x.1).2, true) := by unfold cycR; rw [hS.sys, ho]; rfl
    have hna : ∀ y, allw (mde x.1) y = false := fun y => by
      cases hb : allw (mde x.1) y with
      | false => rfl
      | true => have := allw_good hb; rw [ho] at this; cases this
    obtain ⟨hcc, v, S, l1, l2, g1, g2, g3, g4, g5, g6⟩ := cyc_st hS.sys ho
    have hms := ov_misses ho
    refine bind_of (m18_bad hS.sys ho) ?_
    rw [hcr]
    rw [hf] at l2
    have hfst : (mde x.1).1 = (nH x.1 : Int) := rfl
    have h29c : m29 (mde x.1, cycL (mde x.1).2) = some true := by rw [← hcc]; exact m29_eq _ (by omega)
    generalize hlist : cycL (mde x.1).2 = l at *
    dsimp only
    have e1 : eqM (90 : Int) 0 = false := rfl
    have e2 : eqbM true false = false := rfl
    rw [e1, e2, notF, andT, cond_false, Option.bind_some, andF, orF, cond_false, cond_true]
    refine bind_of (x := misses x.1) h35 ?_
    rw [hms, notT, notF, andT, cond_true]
    refine bind_of h29c ?_
    rw [notT, orF, andT, cond_false]
    refine bind_of h29c ?_
    rw [notT, cond_false, Option.bind_some, cond_false, Option.bind_some, orT, andT, cond_true]
    refine bind_of (m11_eq x.2.2.2) ?_
    rw [cond_true]
    refine bind_of (m27_eq (mde x.1) _) ?_
    rw [hna, orF, notF, andT, cond_true]
    refine bind_of (x := hid x.1) h26 ?_
    rw [cond_true]
    refine bind_of (m27_eq (mde x.1) _) ?_
    rw [hna, orF, andT, cond_false, cond_false]
    have p1 := pk_lo (c := x.2.1) (n := lenM l) (by show 0 < (l.length : Int); omega)
    have p2 := pk_hi (c := x.2.1) (n := lenM l) (by show 0 < (l.length : Int); omega)
    refine bind_of (m13_eq h1 (by show 0 < (l.length : Int); omega)) ?_
    obtain ⟨k, hk⟩ := Int.eq_ofNat_of_zero_le p1
    rw [hk] at p2 ⊢
    have hkl : k < l.length := by have : (k : Int) < (l.length : Int) := p2; omega
    have hstm : ∀ k, k < l.length → ((v k : Int), (v (k + 1) : Int), S (k + 1) - S k) ∈ (mde x.1).2 := fun k hk => by
      obtain ⟨q1, q2, q3⟩ := g5 k hk
      rw [← q3, getD_of (by omega)]
      exact List.getElem_mem _
    obtain ⟨b1, b2⟩ := less_good hS.sys hkl (by omega) g1 g2 g3 g4 hstm g6
    obtain ⟨b3, b4⟩ := all_bad hS.sys (by omega) g1 g2 g3 g4 hstm
    refine bind_of (x := ((mde x.1).1, (mde x.1).1, lessL (fun e => ((v e : Int), (v (e + 1) : Int), S (e + 1) - S e)) k l.length, row l.length (fun e => ((v e : Int), (v (e + 1) : Int), S (e + 1) - S e)))) ?_ ?_
    · refine count_loop (fun i => ((mde x.1).1, (mde x.1).1, lessL (fun e => ((v e : Int), (v (e + 1) : Int), S (e + 1) - S e)) k i, row i (fun e => ((v e : Int), (v (e + 1) : Int), S (e + 1) - S e)))) l.length (fun i hi => ?_) ?_
      · dsimp only
        obtain ⟨q1, q2, q3⟩ := g5 i hi
        have e3 : idxM (mde x.1).2 l[i] = some ((v i : Int), (v (i + 1) : Int), S (i + 1) - S i) := by
          rw [idxM_of q1 q2, ← q3, getD_of (by omega)]
        rw [ltI (by show (i : Int) < (l.length : Int); omega), cond_true, idxM_lt hi, Option.bind_some, e3, Option.bind_some]
        refine bind_of (app_rowOf rfl (by show (i + 1) * 24 ≤ 140737488355328; omega)) ?_
        by_cases hik : i = k
        · subst hik
          rw [eqI rfl, notT, cond_false, wrap_in (by omega) (by omega), lessL_same]
        · rw [neI (by omega), notF, cond_true, Option.bind_some, e3, Option.bind_some]
          have := lessL_len (g := fun e => ((v e : Int), (v (e + 1) : Int), S (e + 1) - S e)) (k := k) (i := i)
          refine bind_of (appM_of (by show ((lessL _ k i).length + 1) * 24 ≤ 140737488355328; omega)) ?_
          have hstep := lessL_step (g := fun e => ((v e : Int), (v (e + 1) : Int), S (e + 1) - S e)) hik
          rw [hstep, wrap_in (by omega) (by omega)]
      · dsimp only
        rw [geI (Int.le_refl _), cond_false]
    · refine bind_of (m18_good b1 b2) (bind_of (m18_bad b3 b4) ?_)
      rfl
end Go.Proofs.Ytadcohacnmicjaa
/-
  Between: the reference: validity, sums, contradictions, distances, solutions.
  No conditions.
-/
namespace Go.Proofs.Ytadcohacnmicjaa
open Go Go.Abs Go.PE
set_option linter.unusedVariables false
theorem m51_eq (a b c : Int) : m51 (a, b, c) = some (decide (b ≤ a) && decide (a ≤ c)) := rfl
theorem m52_eq {n : Int} (c : Int × Int × Int) (h0 : 0 ≤ n) (h1 : n ≤ 16) : m52 (n, c.1, c.2.1, c.2.2) = some (bnd n c) := by
  unfold m52 bnd
  have e : ∀ a : Int, decide (a ≤ n - 1) = decide (a < n) := fun a => by
    by_cases h : a < n
    · rw [decide_eq_true h, decide_eq_true (by omega)]
    · rw [decide_eq_false h, decide_eq_false (by omega)]
  simp only [m51_eq, Option.bind_some, wrap_in (n := n - 1) (by omega) (by omega), Bool.decide_and, e]
  generalize decide ((0 : Int) ≤ c.1) = p1
  generalize decide (c.1 < n) = p2
  generalize decide ((0 : Int) ≤ c.2.1) = p3
  generalize decide (c.2.1 < n) = p4
  generalize decide ((-1000000000 : Int) ≤ c.2.2) = p5
  generalize decide (c.2.2 ≤ (1000000000 : Int)) = p6
  cases p1 <;> cases p2 <;> cases p3 <;> cases p4 <;> cases p5 <;> cases p6 <;> rfl
theorem m23_eq (x : Sys) : m23 x = some (sys x) := by
  unfold m23
  rw [m51_eq, Option.bind_some]
  by_cases h : 0 ≤ x.1 ∧ x.1 ≤ 16 ∧ x.2.length ≤ 60
  · obtain ⟨h0, h1, h2⟩ := h
    rw [decide_eq_true h0, decide_eq_true h1, Bool.and_self, notT, orF, geI (by show (x.2.length : Int) ≤ 60; omega), cond_false]
    obtain ⟨r, g1, g2⟩ := all_loop (n := x.2.length) (fun k => bnd x.1 (x.2.getD k (0, 0, 0))) (body := fun (s : Int) =>
              bif ltM s (lenM x.2) then
                Option.bind (idxM x.2 s) fun (r_1 : Int × Int × Int) =>
                  Option.bind (m52 (x.1, r_1.1, r_1.2.1, r_1.2.2)) fun (r : Bool) =>
                    bif PE.notM r then some (Sum.inr (Sum.inr false))
                    else some (Sum.inl (IntKind.wrap IntKind.i64 (s + (1 : Int))))
              else some (Sum.inr (Sum.inl ()))) (fun k hk => by
      rw [ltI (by show (k : Int) < (x.2.length : Int); omega), cond_true, idxM_lt hk, Option.bind_some, m52_eq _ h0 h1, Option.bind_some, wrap_in (by omega) (by omega), getD_of hk]
      cases bnd x.1 x.2[k] <;> rfl) (by rw [geI (Int.le_refl _)]; rfl)
    refine bind_of g1 ?_
    have e : sys x = r := by
      unfold sys
      rw [decide_eq_true ⟨h0, h1, h2⟩, Bool.true_and, Bool.eq_iff_iff, g2]
      constructor
      · intro h k hk
        rw [getD_of hk]
        exact List.all_eq_true.1 h _ (List.getElem_mem hk)
      · intro h
        refine List.all_eq_true.2 fun c hc => ?_
        obtain ⟨k, hk, rfl⟩ := List.mem_iff_getElem.1 hc
        have := h k hk
        rw [getD_of hk] at this
        exact this
    rw [e]
    cases r <;> rfl
  · have e : PE.orM (PE.notM (decide (0 ≤ x.1) && decide (x.1 ≤ 16))) (ltM 60 (lenM x.2)) = true := by
      by_cases a : 0 ≤ x.1
      · by_cases b : x.1 ≤ 16
        · rw [decide_eq_true a, decide_eq_true b, Bool.and_self, notT, orF]
          exact decide_eq_true (by show (60 : Int) < (x.2.length : Int); omega)
        · rw [decide_eq_false b, Bool.and_false]; rfl
      · rw [decide_eq_false a, Bool.false_and]; rfl
    rw [e, cond_true]
    unfold sys
    rw [decide_eq_false h, Bool.false_and]
/-- A row that is being worked on: its first j values are done. -/
theorem row_done {m : Nat} (g g' : Nat → Int) : row m (fun k => if k < m then g k else g' k) = row m g := row_congr fun k hk => if_pos hk
theorem row_put {m j : Nat} {g g' : Nat → Int} (hj : j < m) : (row m (fun k => if k < j then g k else g' k)).set j (g j) = row m (fun k => if k < j + 1 then g k else g' k) := by
  rw [row_set hj]
  refine row_congr fun k _ => ?_
  by_cases e : k = j
  · subst e; rw [if_pos rfl, if_pos (by omega)]
  · rw [if_neg e]
    by_cases e3 : k < j
    · rw [if_pos e3, if_pos (by omega)]
    · rw [if_neg e3, if_neg (by omega)]
theorem set_row {m j : Nat} {g : Nat → Int} {f : Int → Option Int} {y : Int} (hj : j < m) (hy : f (g j) = some y) : setM (row m g) (j : Int) f = some ((row m g).set j y) := by
  unfold setM
  rw [row_idx hj]
  simp only [hy]
  have e2 : ((j : Int)).toNat = j := by omega
  rw [e2]
theorem set_rowc {m j : Nat} {g : Nat → Int} {y : Int} (hj : j < m) : setM (row m g) (j : Int) (fun _ => some y) = some ((row m g).set j y) := set_row (f := fun _ => some y) hj rfl
def iniR (m i : Nat) (k : Nat) : Int := if m = 0 ∧ i = k then 0 else 1152921504606846976
theorem m41_eq {n : Nat} (hn : n ≤ 16) {bs : List (Int × Int × Int)} (hl : bs.length ≤ 60) (hb : bs.all (bnd (n : Int)) = true) : m41 ((n : Int), bs) = some (row (n + 1) fun m => rt n (fun _ => n) (wkT bs m)) := by
  unfold m41
  dsimp only
  refine bind_of (count_loop (fun m => row m fun m => rt n (fun _ => n) (wkT bs m)) (n + 1) (fun m hm => ?_) ?_) rfl
  · dsimp only
    rw [leI (by omega), cond_true]
    refine bind_of (x := rt n (fun _ => n) (wkT bs m)) ?_ (bind_of (app_rowOf rfl (by show (m + 1) * 24 ≤ 140737488355328; omega)) (by rw [wrap_in (by omega) (by omega)]))
    refine count_loop (fun i => row i fun i => row n (wkT bs m i)) n (fun i hi => ?_) ?_
    · dsimp only
      rw [ltI (by omega), cond_true]
      have hmk : mkM (n : Int) (n : Int) (nat_lit 8) (0 : Int) = some (row n fun _ => 0) := by
        rw [mkM_of (by omega) (by omega) (by show (n : Int) * 8 ≤ 140737488355328; omega), replicate_row]
        have ht : ((n : Int)).toNat = n := by omega
        rw [ht]
      refine bind_of hmk ?_
      refine bind_of (x := row n (iniR m i)) ?_ ?_
      · have e0 : (row n fun _ => (0 : Int)) = row n fun k => if k < 0 then iniR m i k else 0 := row_congr fun k _ => by rw [if_neg (by omega)]
        rw [e0]
        refine count_loop (fun j => row n fun k => if k < j then iniR m i k else 0) n (fun j hj => ?_) ?_
        · dsimp only
          rw [ltI (by omega), cond_true, chk_row hj, Option.bind_some, set_rowc hj, Option.bind_some]
          refine bind_of (x := row n fun k => if k < j + 1 then iniR m i k else 0) ?_ (by rw [wrap_in (by omega) (by omega)])
          by_cases e : m = 0 ∧ i = j
          · have e1 : PE.andM (eqM (m : Int) 0) (eqM (i : Int) (j : Int)) = true := by rw [eqI (by omega), eqI (by omega)]; rfl
            rw [e1, cond_true, row_set hj, chk_row hj, Option.bind_some, set_rowc hj, Option.bind_some, row_set hj]
            congr 1
            refine row_congr fun k _ => ?_
            by_cases e2 : k = j
            · subst e2
              rw [if_pos rfl, if_pos (by omega)]
              unfold iniR
              rw [if_pos e]
            · rw [if_neg e2, if_neg e2]
              by_cases e3 : k < j
              · rw [if_pos e3, if_pos (by omega)]
              · rw [if_neg e3, if_neg (by omega)]
          · have e1 : PE.andM (eqM (m : Int) 0) (eqM (i : Int) (j : Int)) = false := by
              by_cases e2 : m = 0
              · have : i ≠ j := fun h => e ⟨e2, h⟩
                rw [neI (a := (i : Int)) (b := (j : Int)) (by omega)]
                cases eqM (m : Int) 0 <;> rfl
              · rw [neI (by omega)]; rfl
            rw [e1, cond_false]
            have e4 : iniR m i j = 1152921504606846976 := by unfold iniR; rw [if_neg e]
            have := row_put (m := n) (g := iniR m i) (g' := fun _ => 0) hj
            rw [e4] at this
            rw [this]
        · dsimp only
          rw [geI (by omega), cond_false, row_done]
      · refine bind_of (x := row n (wkT bs m i)) ?_ (bind_of (app_rowOf rfl (by show (i + 1) * 24 ≤ 140737488355328; omega)) (by rw [wrap_in (by omega) (by omega)]))
        cases m with
        | zero =>
          rw [loopM_eq]
          have e1 : PE.andM (ltM (0 : Int) (lenM bs)) (ltM 0 ((0 : Nat) : Int)) = false := by
            rw [geI (a := 0) (b := ((0 : Nat) : Int)) (by omega)]
            cases ltM (0 : Int) (lenM bs) <;> rfl
          dsimp only
          rw [e1, cond_false]
          show some (row n (iniR 0 i)) = some (row n (d0 i))
          congr 1
          refine row_congr fun k _ => ?_
          unfold iniR d0
          by_cases e : i = k
          · rw [if_pos ⟨rfl, e⟩, if_pos e]
          · rw [if_neg fun h => e h.2, if_neg e]
        | succ m =>
          have e0 : row n (iniR (m + 1) i) = row n (farT i) := row_congr fun k _ => by unfold iniR; rw [if_neg (by omega)]; rfl
          rw [e0]
          refine count_loop (fun j => row n ((bs.take j).foldl (addW (wkT bs m)) farT i)) bs.length (fun j hj => ?_) ?_
          · obtain ⟨a, b, ha, hb', e1, e2, _, _⟩ := bnd_of (List.all_eq_true.1 hb _ (List.getElem_mem hj))
            have t1 : bs[j].1.toNat = a := by omega
            have t2 : bs[j].2.1.toNat = b := by omega
            have e3 : ((m + 1 : Nat) : Int) - 1 = (m : Int) := by omega
            have hle := foldW_le (wkT bs m) (bs.take j) farT i b
            have hfe : farT i b = 1152921504606846976 := rfl
            dsimp only
            rw [ltI (by show (j : Int) < (bs.length : Int); omega), andT, ltI (by omega), cond_true, idxM_lt hj, Option.bind_some, e3, wrap_in (n := (m : Int)) (by omega) (by omega), chkM_of (by omega) (by rw [lenRow]; omega), Option.bind_some, row_idx (by omega), Option.bind_some, rt_idx hi, Option.bind_some, e1, row_idx ha, Option.bind_some, e2, foldl_take (addW (wkT bs m)) farT bs j hj, wrap_in (n := (j : Int) + 1) (by omega) (by omega)]
            rcases wk_sz hb (m := m) (by omega) hi ha with e | e
            · rw [eqI e, notT, cond_false]
              have : row n ((bs.take j).foldl (addW (wkT bs m)) farT i) = row n (addW (wkT bs m) ((bs.take j).foldl (addW (wkT bs m)) farT) bs[j] i) := by
                refine row_congr fun k _ => ?_
                unfold addW
                rw [t1, t2, e, pl_far]
                by_cases ek : k = b
                · rw [if_pos ek, ek, Int.min_eq_left (by rw [← hfe]; exact hle)]
                · rw [if_neg ek]
              rw [this]
            · rw [neI (by omega), notF, cond_true, chk_row hb', Option.bind_some, row_idx hb', Option.bind_some, Option.bind_some]
              refine bind_of (set_row hb' rfl) ?_
              have : (row n ((bs.take j).foldl (addW (wkT bs m)) farT i)).set b (min ((bs.take j).foldl (addW (wkT bs m)) farT i b) (IntKind.wrap IntKind.i64 (wkT bs m i a + bs[j].2.2))) = row n (addW (wkT bs m) ((bs.take j).foldl (addW (wkT bs m)) farT) bs[j] i) := by
                rw [row_set hb']
                refine row_congr fun k _ => ?_
                unfold addW
                rw [t1, t2, pl_fin (by omega) (by omega), wrap_in (by omega) (by omega)]
                by_cases ek : k = b
                · rw [if_pos ek, if_pos ek, ek]
                · rw [if_neg ek, if_neg ek]
              rw [this]
          · dsimp only
            rw [geI (Int.le_refl _), andF, cond_false, List.take_length]
            rfl
    · dsimp only
      rw [geI (by omega), cond_false]
      rfl
  · dsimp only
    rw [gtI (by omega), cond_false]
theorem m40_eq {x : Sys} (hs : sys x = true) : m40 x = some (ovS x) := by
  obtain ⟨hn, hb, he⟩ := sys_all hs
  have hl := (sys_bnd hs).1.2.2
  have h41 := m41_eq hn hl hb
  rw [he] at h41
  unfold m40
  refine bind_of h41 ?_
  have hx : x.1 = ((x.1.toNat : Nat) : Int) := he.symm
  have hiff : ovS x = true ↔ ∃ m i, 1 ≤ m ∧ m ≤ x.1.toNat ∧ i < x.1.toNat ∧ wkT x.2 m i i < 0 := by
    constructor
    · intro ho
      obtain ⟨i, w, hi, hw, hwk⟩ := ov_walk hs ho
      obtain ⟨m0, hm0⟩ := hwk.wn
      obtain ⟨u, m, w1, hu, g1, g2, g3, g4⟩ := WN.cycle hb m0 hi hw hm0
      have := (wk_le hb (by omega) hu g4).1
      exact ⟨m, u, g1, g2, hu, by omega⟩
    · intro ⟨m, i, g1, g2, g3, g4⟩
      exact ov_of_walk hs g3 g4 (wk_walk hb (by omega) g3 g3 (by omega)).wk
  refine Ans.is (Ans.bind (P := fun o => (o = .inr true ∧ ovS x = true) ∨ (o = .inl () ∧ ovS x = false)) ?_ ?_)
  · refine Ans.loop (fun k s => s = ((k + 1 : Nat) : Int) ∧ ∀ m i, 1 ≤ m → m ≤ k → i < x.1.toNat → ¬ wkT x.2 m i i < 0) x.1.toNat ⟨rfl, fun m i h1 h2 => by omega⟩ fun k s hk hs' => ?_
    obtain ⟨hs', hP⟩ := hs'
    subst hs'
    by_cases hlt : k < x.1.toNat
    · rw [leI (by omega), cond_true]
      refine Ans.bind (P := fun o => (o = .inr true ∧ ∃ i, i < x.1.toNat ∧ wkT x.2 (k + 1) i i < 0) ∨ (o = .inl () ∧ ∀ i, i < x.1.toNat → ¬ wkT x.2 (k + 1) i i < 0)) ?_ ?_
      · refine Ans.loop (fun i s => s = (i : Int) ∧ ∀ i', i' < i → ¬ wkT x.2 (k + 1) i' i' < 0) x.1.toNat ⟨rfl, fun i h => by omega⟩ fun i s hi hs' => ?_
        obtain ⟨hs', hP'⟩ := hs'
        subst hs'
        by_cases hil : i < x.1.toNat
        · rw [ltI (by omega), cond_true, row_idx (by omega), Option.bind_some, rt_idx hil, Option.bind_some, row_idx hil, Option.bind_some]
          by_cases hneg : wkT x.2 (k + 1) i i < 0
          · rw [ltI hneg, cond_true]
            exact Ans.some (.inl ⟨rfl, i, hil, hneg⟩)
          · rw [geI (by omega), cond_false, wrap_in (by omega) (by omega)]
            refine Ans.some ⟨hil, rfl, fun i' hi' => ?_⟩
            by_cases e : i' = i
            · subst e; exact hneg
            · exact hP' i' (by omega)
        · rw [geI (by omega), cond_false]
          exact Ans.some (.inr ⟨rfl, fun i' hi' => hP' i' (by omega)⟩)
      · rintro o (⟨rfl, i, hi, hneg⟩ | ⟨rfl, hall⟩)
        · exact Ans.some (.inl ⟨rfl, hiff.2 ⟨k + 1, i, by omega, by omega, hi, hneg⟩⟩)
        · show Ans (some (Sum.inl (IntKind.wrap IntKind.i64 (((k + 1 : Nat) : Int) + 1)))) _
          rw [wrap_in (by omega) (by omega)]
          refine Ans.some ⟨hlt, rfl, fun m i h1 h2 hi => ?_⟩
          by_cases e : m = k + 1
          · subst e; exact hall i hi
          · exact hP m i h1 (by omega) hi
    · rw [gtI (by omega), cond_false]
      refine Ans.some (.inr ⟨rfl, ?_⟩)
      cases ho : ovS x with
      | false => rfl
      | true =>
        obtain ⟨m, i, g1, g2, g3, g4⟩ := hiff.1 ho
        exact absurd g4 (hP m i g1 (by omega) g3)
  · rintro o (⟨rfl, h⟩ | ⟨rfl, h⟩)
    · exact Ans.some h.symm
    · exact Ans.some h.symm
/-- The least sums along fewer than M bounds. -/
def mnf (bs : List (Int × Int × Int)) (i k : Nat) : Nat → Int
  | 0 => 1152921504606846976
  | m + 1 => min (mnf bs i k m) (wkT bs m i k)
theorem mnf_le (bs : List (Int × Int × Int)) (i k : Nat) : ∀ M m, m < M → mnf bs i k M ≤ wkT bs m i k
  | M + 1, m, h => by
    by_cases e : m = M
    · subst e; exact Int.min_le_right _ _
    · exact Int.le_trans (Int.min_le_left _ _) (mnf_le bs i k M m (by omega))
theorem mnf_ge {bs : List (Int × Int × Int)} {i k : Nat} {z : Int} (hz : z ≤ 1152921504606846976) : ∀ M, (∀ m, m < M → z ≤ wkT bs m i k) → z ≤ mnf bs i k M
  | 0, _ => hz
  | M + 1, h => by
    have h1 := mnf_ge hz M fun m hm => h m (by omega)
    have h2 := h M (by omega)
    show z ≤ min _ _
    omega
theorem mnf_fw {x : Sys} (hs : sys x = true) (ho : ovS x = false) {i k : Nat} (hi : i < x.1.toNat) (hk : k < x.1.toNat) : mnf x.2 i k (x.1.toNat + 1) = fwS x i k := by
  obtain ⟨hn, hb, he⟩ := sys_all hs
  have h1 := mnf_ge (bs := x.2) (i := i) (k := k) (fw_far hs ho hi hk) (x.1.toNat + 1) fun m hm => wk_ge_fw hs ho (by omega) hi hk
  refine Int.le_antisymm ?_ h1
  rcases fw_cases hs ho hi hk with ⟨e, _⟩ | ⟨_, e, _⟩
  · rw [e]
    have h2 := mnf_le x.2 i k (x.1.toNat + 1) 0 (by omega)
    have h3 : wkT x.2 0 i k ≤ 1152921504606846976 := by show d0 i k ≤ _; unfold d0; split <;> omega
    omega
  · obtain ⟨m, hm, hw⟩ := fw_short hs ho hi hk (q := fwS x i k) e (Int.le_refl _)
    have h2 := mnf_le x.2 i k (x.1.toNat + 1) m (by omega)
    omega
theorem m17_eq (x : Sys) : m17 x = m16 x := by
  rw [m16_eq]
  unfold m17
  rw [show (x.1, x.2) = x from rfl, m23_eq, Option.bind_some]
  cases hs : sys x with
  | false => rfl
  | true =>
    obtain ⟨hn, hb, he⟩ := sys_all hs
    have hl := (sys_bnd hs).1.2.2
    rw [notT, cond_false, m40_eq hs, Option.bind_some]
    cases ho : ovS x with
    | true =>
      unfold ovS at ho
      rw [ho]
      rfl
    | false =>
      have ho' := ho
      unfold ovS at ho'
      rw [ho', cond_false]
      have h41 := m41_eq hn hl hb
      rw [he] at h41
      refine bind_of h41 ?_
      have hmk : mkM x.1 x.1 (nat_lit 8) (0 : Int) = some (row x.1.toNat fun _ => 0) := by
        rw [mkM_of (by omega) (by omega) (by show x.1 * 8 ≤ 140737488355328; omega), replicate_row]
      refine bind_of (x := rt x.1.toNat (fun _ => x.1.toNat) (fwS x)) ?_ rfl
      refine count_loop (fun i => row i fun i => row x.1.toNat (fwS x i)) x.1.toNat (fun i hi => ?_) ?_
      · dsimp only
        rw [ltI (by omega), cond_true]
        refine bind_of hmk (bind_of (x := row x.1.toNat (fwS x i)) ?_ (bind_of (app_rowOf rfl (by show (i + 1) * 24 ≤ 140737488355328; omega)) (by rw [wrap_in (by omega) (by omega)])))
        have e0 : (row x.1.toNat fun _ => (0 : Int)) = row x.1.toNat fun k => if k < 0 then fwS x i k else 0 := row_congr fun k _ => by rw [if_neg (by omega)]
        rw [e0]
        refine count_loop (fun j => row x.1.toNat fun k => if k < j then fwS x i k else 0) x.1.toNat (fun j hj => ?_) ?_
        · dsimp only
          rw [ltI (by omega), cond_true, chk_row hj, Option.bind_some, set_rowc hj, Option.bind_some, row_set hj]
          refine bind_of (x := row x.1.toNat fun k => if k < j + 1 then fwS x i k else 0) ?_ (by rw [wrap_in (by omega) (by omega)])
          refine count_loop (fun m => row x.1.toNat fun k => if k = j then mnf x.2 i j m else if k < j then fwS x i k else 0) (x.1.toNat + 1) (fun m hm => ?_) ?_
          · dsimp only
            rw [leI (by omega), cond_true, chk_row hj, Option.bind_some, row_idx hj, Option.bind_some, row_idx (by omega), Option.bind_some, rt_idx hi, Option.bind_some, row_idx hj, Option.bind_some, Option.bind_some, if_pos rfl]
            refine bind_of (set_row hj rfl) ?_
            rw [row_set hj, wrap_in (by omega) (by omega)]
            congr 3
            refine row_congr fun k _ => ?_
            by_cases e : k = j
            · rw [if_pos e, if_pos e]; rfl
            · rw [if_neg e, if_neg e, if_neg e]
          · dsimp only
            rw [gtI (by omega), cond_false, mnf_fw hs ho hi hj]
            congr 2
            refine row_congr fun k _ => ?_
            by_cases e : k = j
            · subst e; rw [if_pos rfl, if_pos (by omega)]
            · rw [if_neg e]
              by_cases e3 : k < j
              · rw [if_pos e3, if_pos (by omega)]
              · rw [if_neg e3, if_neg (by omega)]
        · dsimp only
          rw [geI (by omega), cond_false, row_done]
      · dsimp only
        rw [geI (by omega), cond_false]
        rfl
theorem m16_sys {x : Sys} (hs : sys x = false) : m16 x = some ([], 90) := by
  rw [m16_eq, hs]
  rfl
theorem m19_eq (x : Sys) : m19 x = m18 x := by
  by_cases h : sys x = true ∧ ovS x = false
  · obtain ⟨hs, ho⟩ := h
    obtain ⟨hn, hb, he⟩ := sys_all hs
    rw [m18_good hs ho]
    unfold m19
    refine bind_of (by rw [show (x.1, x.2) = x from rfl, m17_eq]; exact m16_good hs ho) ?_
    dsimp only
    rw [eqI rfl, notT, cond_false]
    have hmk : mkM x.1 x.1 (nat_lit 8) (0 : Int) = some (row x.1.toNat fun _ => 0) := by
      rw [mkM_of (by omega) (by omega) (by show x.1 * 8 ≤ 140737488355328; omega), replicate_row]
    refine bind_of hmk ?_
    refine bind_of (x := row x.1.toNat (sol x)) (count_loop (fun i => row x.1.toNat (solf (fwS x) i)) x.1.toNat (fun i hi => ?_) ?_) rfl
    · dsimp only
      rw [ltI (by omega), cond_true]
      refine bind_of (x := row x.1.toNat (solf (fwS x) (i + 1))) ?_ (by rw [wrap_in (by omega) (by omega)])
      have e0 : row x.1.toNat (solf (fwS x) i) = row x.1.toNat (fun k => if k < 0 then solf (fwS x) (i + 1) k else solf (fwS x) i k) := row_congr fun k _ => by rw [if_neg (by omega)]
      rw [e0]
      refine count_loop (fun j => row x.1.toNat (fun k => if k < j then solf (fwS x) (i + 1) k else solf (fwS x) i k)) x.1.toNat (fun j hj => ?_) ?_
      · dsimp only
        rw [ltI (by omega), cond_true, chk_row hj, Option.bind_some, row_idx hj, Option.bind_some, rt_idx hi, Option.bind_some, row_idx hj, Option.bind_some, Option.bind_some, if_neg (by omega)]
        refine bind_of (set_row hj rfl) ?_
        have := row_put (m := x.1.toNat) (g := solf (fwS x) (i + 1)) (g' := solf (fwS x) i) hj
        have e5 : min (solf (fwS x) i j) (fwS x i j) = solf (fwS x) (i + 1) j := rfl
        rw [e5, this, wrap_in (by omega) (by omega)]
      · dsimp only
        rw [geI (by omega), cond_false, row_done]
    · dsimp only
      rw [geI (by omega), cond_false]
      rfl
  · have h16 : m16 x = some ([], 90) := by
      cases hs : sys x with
      | false => exact m16_sys hs
      | true =>
        refine m16_bad hs ?_
        cases ho : ovS x with
        | true => rfl
        | false => exact absurd ⟨hs, ho⟩ h
    rw [m18_of_bad h16]
    unfold m19
    exact bind_of (by rw [show (x.1, x.2) = x from rfl, m17_eq]; exact h16) rfl
end Go.Proofs.Ytadcohacnmicjaa
/-
  Between: the reference: chains, cycles, what is allowed.
  No conditions.
-/
namespace Go.Proofs.Ytadcohacnmicjaa
open Go Go.Abs Go.PE
set_option linter.unusedVariables false
/-- The reference's first chain. -/
theorem first_walk {n : Nat} {bs : List (Int × Int × Int)} (hl : bs.length ≤ 60) (hb : bs.all (bnd (n : Int)) = true) {M to : Nat} (ht : to < n) {body : Int × Int × Int × List Int → Option ((Int × Int × Int × List Int) ⊕ List Int)}
    (hbody : body = fun (s : Int × Int × Int × List Int) =>
                bif ltM (0 : Int) s.2.1 then
                  Option.bind
                    (loopM
                      (fun (s_1 : Int) =>
                        bif ltM s_1 (lenM bs) then
                          Option.bind (idxM bs s_1) fun (r_3 : Int × Int × Int) =>
                            Option.bind
                              (bif PE.notM (PE.notM (eqM r_3.1 s.1)) then
                                idxM (row M fun m => rt n (fun _ => n) (wkT bs m)) (IntKind.wrap IntKind.i64 (s.2.1 - (1 : Int)))
                              else some [])
                              fun (r_4 : List (List Int)) =>
                              Option.bind (bif PE.notM (PE.notM (eqM r_3.1 s.1)) then idxM r_4 r_3.2.1 else some [])
                                fun (r_5 : List Int) =>
                                Option.bind
                                  (bif PE.notM (PE.notM (eqM r_3.1 s.1)) then idxM r_5 (to : Int) else some (0 : Int))
                                  fun (r_6 : Int) =>
                                  Option.bind
                                    (bif
                                        PE.notM
                                          (PE.orM (PE.notM (eqM r_3.1 s.1)) (eqM r_6 (1152921504606846976 : Int))) then
                                      idxM (row M fun m => rt n (fun _ => n) (wkT bs m)) (IntKind.wrap IntKind.i64 (s.2.1 - (1 : Int)))
                                    else some [])
                                    fun (r_7 : List (List Int)) =>
                                    Option.bind
                                      (bif
                                          PE.notM
                                            (PE.orM (PE.notM (eqM r_3.1 s.1))
                                              (eqM r_6 (1152921504606846976 : Int))) then
                                        idxM r_7 r_3.2.1
                                      else some [])
                                      fun (r_8 : List Int) =>
                                      Option.bind
                                        (bif
                                            PE.notM
                                              (PE.orM (PE.notM (eqM r_3.1 s.1))
                                                (eqM r_6 (1152921504606846976 : Int))) then
                                          idxM r_8 (to : Int)
                                        else some (0 : Int))
                                        fun (r_9 : Int) =>
                                        bif
                                            PE.orM
                                              (PE.orM (PE.notM (eqM r_3.1 s.1)) (eqM r_6 (1152921504606846976 : Int)))
                                              (ltM s.2.2.1 (IntKind.wrap IntKind.i64 (r_3.2.2 + r_9))) then
                                          some (Sum.inl (IntKind.wrap IntKind.i64 (s_1 + (1 : Int))))
                                        else
                                          Option.bind (appM (nat_lit 8) s.2.2.2 [s_1]) fun (r : List Int) =>
                                            some
                                              (Sum.inr
                                                (Sum.inr (r_3.2.1, IntKind.wrap IntKind.i64 (s.2.2.1 - r_3.2.2), r)))
                        else some (Sum.inr (Sum.inl ())))
                      (0 : Int))
                    fun (o : Unit ⊕ Int × Int × List Int) =>
                    Sum.elim
                      (fun (t : Unit) =>
                        some (Sum.inl (s.1, IntKind.wrap IntKind.i64 (s.2.1 - (1 : Int)), s.2.2.1, s.2.2.2)))
                      (fun (t : Int × Int × List Int) =>
                        some (Sum.inl (t.1, IntKind.wrap IntKind.i64 (s.2.1 - (1 : Int)), t.2.1, t.2.2)))
                      o
                else some (Sum.inr s.2.2.2)) :
    ∀ (m f : Nat) (q : Int) (out : List Int), m ≤ M → m ≤ 100 → f < n → -10000000000000 + m * 1000000000 ≤ q → q ≤ 10000000000000 - m * 1000000000 → out.length + m ≤ 1000 → wkT bs m f to ≤ q →
      loopM body ((f : Int), (m : Int), q, out) = some (out ++ chP bs to m f q) := by
  intro m
  induction m with
  | zero =>
    intro f q out _ _ _ _ _ _ _
    have hstep : body ((f : Int), ((0 : Nat) : Int), q, out) = some (.inr out) := by
      rw [hbody]
      dsimp only
      rw [geI (by omega), cond_false]
    rw [loopM_eq, hstep]
    show some out = some (out ++ [])
    rw [List.append_nil]
  | succ m ih =>
    intro f q out hM hm hf hq1 hq2 ho h
    obtain ⟨c, hcm, hcp⟩ := stp_ex hb (by omega) hf ht (by omega) h
    cases hi : bs.findIdx? (stp bs to m f q) with
    | none =>
      rw [List.findIdx?_eq_none_iff] at hi
      rw [hi c hcm] at hcp
      cases hcp
    | some k =>
      obtain ⟨hk, hp2, _⟩ := List.findIdx?_eq_some_iff_getElem.1 hi
      obtain ⟨h1, h2, h3⟩ := stp_rest hb (by omega) ht (by omega) (List.getElem_mem hk) hp2
      have hcb := of_decide_eq_true (List.all_eq_true.1 hb _ (List.getElem_mem hk))
      have e4 : chP bs to (m + 1) f q = (k : Int) :: chP bs to m bs[k].2.1.toNat (q - bs[k].2.2) := by
        show (match bs.findIdx? (stp bs to m f q) with | some k => _ | none => _) = _
        rw [hi]
        show (k : Int) :: chP bs to m (bs.getD k (0, 0, 0)).2.1.toNat (q - (bs.getD k (0, 0, 0)).2.2) = _
        rw [getD_of hk]
      have t4 : ((bs[k].2.1.toNat : Nat) : Int) = bs[k].2.1 := by omega
      have e3 : ((m + 1 : Nat) : Int) - 1 = (m : Int) := by omega
      have hstep : body ((f : Int), ((m + 1 : Nat) : Int), q, out) = some (.inl ((bs[k].2.1.toNat : Int), (m : Int), q - bs[k].2.2, out ++ [(k : Int)])) := by
        rw [hbody]
        dsimp only
        rw [ltI (by omega), cond_true]
        have hfg := fun body h1 h2 he => findg_loop (xs := bs) (stp bs to m f q) (fun j => ((bs[k]'hk).2.1, q - (bs[k]'hk).2.2, out ++ [(k : Int)])) (body := body) h1 h2 he
        rw [hi] at hfg
        refine bind_of (hfg _ (fun j hj => ?_) (fun j hj hp => ?_) ?_) ?_
        · have ej : j = k := (Option.some.inj hj).symm
          subst ej
          obtain ⟨a, b, ha, hb', g1, g2, _, _⟩ := bnd_of (List.all_eq_true.1 hb _ (List.getElem_mem hk))
          have t2 : bs[j].2.1.toNat = b := by omega
          rw [t2] at h3
          rw [ltI (a := (j : Int)) (b := lenM bs) (by show (j : Int) < (bs.length : Int); omega), cond_true, idxM_lt hk, Option.bind_some, eqI h1, notT, notF, cond_true, e3, wrap_in (n := (m : Int)) (by omega) (by omega), row_idx (by omega), Option.bind_some, cond_true, g2, rt_idx hb', Option.bind_some, cond_true, row_idx ht, Option.bind_some, orF]
          rcases wk_sz hb (m := m) (by omega) hb' ht with e | e
          · omega
          · rw [neI (by omega), notF, cond_true, Option.bind_some, cond_true, rt_idx hb', Option.bind_some, cond_true, row_idx ht, Option.bind_some, orF, wrap_in (n := bs[j].2.2 + wkT bs m b to) (by omega) (by omega), geI (by omega), cond_false, appM_of (by show (out.length + 1) * 8 ≤ 140737488355328; omega), Option.bind_some, wrap_in (by omega) (by omega)]
        · obtain ⟨a, b, ha, hb', g1, g2, _, _⟩ := bnd_of (List.all_eq_true.1 hb _ (List.getElem_mem hj))
          have t2 : bs[j].2.1.toNat = b := by omega
          unfold stp at hp
          rw [t2] at hp
          rw [ltI (a := (j : Int)) (b := lenM bs) (by show (j : Int) < (bs.length : Int); omega), cond_true, idxM_lt hj, Option.bind_some]
          by_cases e : bs[j].1 = (f : Int)
          · rw [decide_eq_true e, Bool.true_and] at hp
            have hp := of_decide_eq_false hp
            rw [eqI e, notT, notF, cond_true, e3, wrap_in (n := (m : Int)) (by omega) (by omega), row_idx (by omega), Option.bind_some, cond_true, g2, rt_idx hb', Option.bind_some, cond_true, row_idx ht, Option.bind_some, orF]
            rcases wk_sz hb (m := m) (by omega) hb' ht with e' | e'
            · rw [eqI e', notT, cond_false, Option.bind_some, cond_false, Option.bind_some, cond_false, Option.bind_some, orT, cond_true, wrap_in (by omega) (by omega)]
            · rw [pl_sz (by omega) (by omega)] at hp
              rw [neI (by omega), notF, cond_true, Option.bind_some, cond_true, rt_idx hb', Option.bind_some, cond_true, row_idx ht, Option.bind_some, orF, wrap_in (n := bs[j].2.2 + wkT bs m b to) (by omega) (by omega), ltI (by omega), cond_true, wrap_in (by omega) (by omega)]
          · rw [neI e, notF, notT, cond_false, Option.bind_some, cond_false, Option.bind_some, cond_false, Option.bind_some, orT, notT, cond_false, Option.bind_some, cond_false, Option.bind_some, cond_false, Option.bind_some, orT, cond_true, wrap_in (by omega) (by omega)]
        · rw [geI (Int.le_refl _), cond_false]
        · show some (Sum.inl (bs[k].2.1, IntKind.wrap IntKind.i64 (((m + 1 : Nat) : Int) - 1), q - bs[k].2.2, out ++ [(k : Int)])) = _
          rw [e3, wrap_in (by omega) (by omega), t4]
      rw [loopM_eq, hstep]
      show loopM body _ = _
      rw [ih bs[k].2.1.toNat (q - bs[k].2.2) (out ++ [(k : Int)]) (by omega) (by omega) h2 (by omega) (by omega) (by rw [List.length_append]; show out.length + 1 + m ≤ 1000; omega) h3, e4, List.append_assoc]
      rfl
theorem m45_eq {n : Nat} {bs : List (Int × Int × Int)} (hl : bs.length ≤ 60) (hb : bs.all (bnd (n : Int)) = true) {M to m f : Nat} {q : Int} (ht : to < n) (hM : m < M) (hm : m ≤ 100) (hf : f < n) (hq1 : -1000000000000 ≤ q) (hq2 : q ≤ 1000000000000) :
    m45 (((n : Int), bs), row M (fun m => rt n (fun _ => n) (wkT bs m)), (f : Int), (to : Int), (m : Int), q) = some (if wkT bs m f to ≤ q then (chP bs to m f q, true) else ([], false)) := by
  unfold m45
  dsimp only
  rw [row_idx hM, Option.bind_some, rt_idx hf, Option.bind_some, row_idx ht, Option.bind_some]
  by_cases h : wkT bs m f to ≤ q
  · rw [geI h, cond_false, if_pos h]
    exact bind_of (first_walk hl hb (M := M) ht rfl m f q [] (by omega) hm hf (by omega) (by omega) (by show 0 + m ≤ 1000; omega) h) rfl
  · rw [ltI (by omega), cond_true, if_neg h]
theorem m34_eq (x : Sys) (v : Int × Int × Int) : m34 (x, v) = some (impR x v) := by
  unfold m34 impR
  dsimp only
  rw [show (x.1, x.2) = x from rfl, m23_eq, Option.bind_some]
  cases hs : sys x with
  | false => rfl
  | true =>
    obtain ⟨hn, hb, he⟩ := sys_all hs
    have hl := (sys_bnd hs).1.2.2
    rw [notT, notF, cond_true, m52_eq v (sys_bnd hs).1.1 (sys_bnd hs).1.2.1, Option.bind_some, orF]
    cases hv : bnd x.1 v with
    | false => rfl
    | true =>
      have hvb := of_decide_eq_true hv
      rw [notT, cond_false, m40_eq hs, Option.bind_some]
      cases ho : ovS x with
      | true => rfl
      | false =>
        have h41 := m41_eq hn hl hb
        rw [he] at h41
        rw [cond_false]
        refine bind_of h41 ?_
        have ef : ((v.1.toNat : Nat) : Int) = v.1 := by omega
        have et : ((v.2.1.toNat : Nat) : Int) = v.2.1 := by omega
        have hf : v.1.toNat < x.1.toNat := by omega
        have ht : v.2.1.toNat < x.1.toNat := by omega
        have h45 := fun m (hm : m < x.1.toNat + 1) => m45_eq hl hb (M := x.1.toNat + 1) (to := v.2.1.toNat) (m := m) (f := v.1.toNat) (q := v.2.2) ht hm (by omega) hf (by omega) (by omega)
        rw [he, ef, et] at h45
        by_cases hle : fwS x v.1.toNat v.2.1.toNat ≤ v.2.2
        · obtain ⟨m, hm, hmw⟩ := fw_short hs ho hf ht (by omega) hle
          obtain ⟨g1, g2, g3⟩ := fstM_of (bs := x.2) (f := v.1.toNat) (t := v.2.1.toNat) (q := v.2.2) (by omega) hmw
          rw [decide_eq_true hle]
          refine bind_of (loopM_fn (fun k => (k : Int)) (fstM x.2 v.1.toNat v.2.1.toNat v.2.2) (r := Sum.inr (chP x.2 v.2.1.toNat (fstM x.2 v.1.toNat v.2.1.toNat v.2.2) v.1.toNat v.2.2, true)) (fun k hk => ?_) ?_) rfl
          · rw [leI (by omega), cond_true]
            refine bind_of (h45 k (by omega)) ?_
            rw [if_neg (g3 k hk)]
            dsimp only
            rw [cond_false, wrap_in (by omega) (by omega)]
            rfl
          · rw [leI (by omega), cond_true]
            refine bind_of (h45 _ (by omega)) ?_
            rw [if_pos g2]
            rfl
        · rw [decide_eq_false hle]
          refine bind_of (loopM_fn (fun k => (k : Int)) (x.1.toNat + 1) (r := Sum.inl ()) (fun k hk => ?_) ?_) rfl
          · rw [leI (by omega), cond_true]
            refine bind_of (h45 k (by omega)) ?_
            have := wk_ge_fw hs ho (m := k) (by omega) hf ht
            rw [if_neg (by omega)]
            dsimp only
            rw [cond_false, wrap_in (by omega) (by omega)]
            rfl
          · rw [gtI (by omega), cond_false]
theorem m28_eq (x : Sys) {y : List Int} (hy : y.length ≤ 1000000000) : m28 (x, y) = some (allw x y) := by
  unfold m28
  dsimp only
  rw [show (x.1, x.2) = x from rfl, m23_eq, Option.bind_some]
  unfold allw
  by_cases h : sys x = true ∧ (y.length : Int) = x.1
  · obtain ⟨h1, h2⟩ := h
    have hs := sys_bnd h1
    rw [h1, eqI h2, notT, orF, cond_false, decide_eq_true h2]
    obtain ⟨r, g1, g2⟩ := all_loop (n := y.length) (fun k => smallV (y.getD k 0)) (body := fun (s : Int) =>
              bif ltM s (lenM y) then
                Option.bind (idxM y s) fun (r_1 : Int) =>
                  Option.bind (m51 (r_1, (-1000000000000 : Int), (1000000000000 : Int))) fun (r : Bool) =>
                    bif PE.notM r then some (Sum.inr (Sum.inr false))
                    else some (Sum.inl (IntKind.wrap IntKind.i64 (s + (1 : Int))))
              else some (Sum.inr (Sum.inl ()))) (fun k hk => by
      rw [ltI (by show (k : Int) < (y.length : Int); omega), cond_true, idxM_lt hk, Option.bind_some, m51_eq, Option.bind_some, wrap_in (by omega) (by omega), getD_of hk]
      have : (decide (-1000000000000 ≤ y[k]) && decide (y[k] ≤ 1000000000000)) = smallV y[k] := by unfold smallV; rw [Bool.decide_and]
      rw [this]
      cases smallV y[k] <;> rfl) (by rw [geI (Int.le_refl _)]; rfl)
    refine bind_of g1 ?_
    have e1 : y.all smallV = r := by
      rw [Bool.eq_iff_iff, g2]
      constructor
      · intro h k hk
        rw [getD_of hk]
        exact List.all_eq_true.1 h _ (List.getElem_mem hk)
      · intro h
        refine List.all_eq_true.2 fun c hc => ?_
        obtain ⟨k, hk, rfl⟩ := List.mem_iff_getElem.1 hc
        have := h k hk
        rw [getD_of hk] at this
        exact this
    rw [e1]
    cases hr : r with
    | false => rfl
    | true =>
      have hsm := small_getD (e1.trans hr)
      rw [cond_true]
      show Option.bind _ _ = _
      obtain ⟨r2, k1, k2⟩ := all_loop (n := x.2.length) (fun k => keeps y (x.2.getD k (0, 0, 0))) (body := fun (s : Int) =>
                    bif ltM s (lenM x.2) then
                      Option.bind (idxM x.2 s) fun (r_1 : Int × Int × Int) =>
                        Option.bind (idxM y r_1.2.1) fun (r_2 : Int) =>
                          Option.bind (idxM x.2 s) fun (r_3 : Int × Int × Int) =>
                            Option.bind (idxM y r_3.1) fun (r_4 : Int) =>
                              Option.bind (idxM x.2 s) fun (r : Int × Int × Int) =>
                                bif ltM r.2.2 (IntKind.wrap IntKind.i64 (r_2 - r_4)) then some (Sum.inr (Sum.inr false))
                                else some (Sum.inl (IntKind.wrap IntKind.i64 (s + (1 : Int))))
                    else some (Sum.inr (Sum.inl ()))) (fun k hk => by
        obtain ⟨b1, b2, b3, b4, _⟩ := hs.2 _ (List.getElem_mem hk)
        have u1 := hsm x.2[k].1.toNat
        have u2 := hsm x.2[k].2.1.toNat
        rw [ltI (by show (k : Int) < (x.2.length : Int); omega), cond_true, idxM_lt hk, Option.bind_some, idx_getD b3 (by omega), Option.bind_some, Option.bind_some, idx_getD b1 (by omega), Option.bind_some, Option.bind_some, wrap_in (n := y.getD x.2[k].2.1.toNat 0 - y.getD x.2[k].1.toNat 0) (by omega) (by omega), wrap_in (by omega) (by omega), getD_of hk]
        unfold keeps
        by_cases e : y.getD x.2[k].2.1.toNat 0 - y.getD x.2[k].1.toNat 0 ≤ x.2[k].2.2
        · rw [geI e, decide_eq_true e]; rfl
        · rw [ltI (by omega), decide_eq_false e]; rfl) (by rw [geI (Int.le_refl _)]; rfl)
      refine bind_of k1 ?_
      have e2 : x.2.all (keeps y) = r2 := by
        rw [Bool.eq_iff_iff, k2]
        constructor
        · intro h k hk
          rw [getD_of hk]
          exact List.all_eq_true.1 h _ (List.getElem_mem hk)
        · intro h
          refine List.all_eq_true.2 fun c hc => ?_
          obtain ⟨k, hk, rfl⟩ := List.mem_iff_getElem.1 hc
          have := h k hk
          rw [getD_of hk] at this
          exact this
      rw [e2]
      cases r2 <;> rfl
  · have e : PE.orM (PE.notM (sys x)) (PE.notM (eqM (lenM y) x.1)) = true := by
      by_cases h1 : sys x = true
      · have h2 : ¬ (y.length : Int) = x.1 := fun h2 => h ⟨h1, h2⟩
        rw [h1, neI h2]; rfl
      · have : sys x = false := by simpa using h1
        rw [this]; rfl
    rw [e, cond_true]
    have : (sys x && decide ((y.length : Int) = x.1)) = false := by
      rw [Bool.eq_false_iff]
      intro h'
      rw [Bool.and_eq_true] at h'
      exact h ⟨h'.1, of_decide_eq_true h'.2⟩
    rw [this]
    rfl
end Go.Proofs.Ytadcohacnmicjaa
/-
  Between: the reference: Cycle, CheckCycle, CheckChain.
  No conditions.
-/
namespace Go.Proofs.Ytadcohacnmicjaa
open Go Go.Abs Go.PE
set_option linter.unusedVariables false
theorem m46_heads {a b : Int} {l l' : List Int} (h : a ≠ b) : m46 (a :: l, b :: l') = some (decide (a < b)) := by
  unfold m46
  rw [loopM_eq]
  dsimp only
  have e1 : idxM (a :: l) 0 = some a := idxM_lt (xs := a :: l) (i := 0) (by show 0 < l.length + 1; omega)
  have e2 : idxM (b :: l') 0 = some b := idxM_lt (xs := b :: l') (i := 0) (by show 0 < l'.length + 1; omega)
  rw [ltI (a := 0) (b := lenM (a :: l)) (by show (0 : Int) < ((l.length + 1 : Nat) : Int); omega), ltI (a := 0) (b := lenM (b :: l')) (by show (0 : Int) < ((l'.length + 1 : Nat) : Int); omega), andT, cond_true, e1, Option.bind_some, e2, Option.bind_some, neI h, notF, cond_true, Option.bind_some, Option.bind_some]
  rfl
/-- The contradiction that begins with the k-th bound. -/
def lstK (bs : List (Int × Int × Int)) (m k : Nat) : List Int := (k : Int) :: chP bs (bs.getD k (0, 0, 0)).1.toNat m (bs.getD k (0, 0, 0)).2.1.toNat (-1 - (bs.getD k (0, 0, 0)).2.2)
theorem best_loop {n : Nat} (hn : n ≤ 16) {bs : List (Int × Int × Int)} (hl : bs.length ≤ 60) (hb : bs.all (bnd (n : Int)) = true) {m : Nat} (hm : m < n) :
    Ans (loopM
                      (fun (s_1 : Option (List Int) × Int) =>
                        bif ltM s_1.2 (n : Int) then
                          Option.bind
                            (Option.bind (m45 (((n : Int), bs), row (n + 1) (fun m => rt n (fun _ => n) (wkT bs m)), s_1.2, s_1.2, ((m + 1 : Nat) : Int), (-1 : Int)))
                              fun (r_2 : List Int × Bool) =>
                              Option.bind
                                (bif PE.andM r_2.2 (PE.notM (Option.isNone s_1.1)) then m46 (r_2.1, getL s_1.1)
                                else some false)
                                fun (r_3 : Bool) =>
                                bif PE.andM r_2.2 (PE.orM (Option.isNone s_1.1) r_3) then
                                  Option.bind (neM r_2.1) fun (r : List Int) => some (some r)
                                else some s_1.1)
                            fun (o : Option (List Int)) =>
                            some (Sum.inl (o, IntKind.wrap IntKind.i64 (s_1.2 + (1 : Int))))
                        else some (Sum.inr s_1.1))
                      (none, (0 : Int))) (fun o => (o = none ∧ bs.findIdx? (cst bs m) = none) ∨ ∃ k, bs.findIdx? (cst bs m) = some k ∧ o = some (lstK bs m k)) := by
  refine Ans.loop (fun i s => s.2 = (i : Int) ∧ ((s.1 = none ∧ ∀ j (hj : j < bs.length), cst bs m bs[j] = true → ¬ bs[j].1 < (i : Int)) ∨ ∃ k, ∃ hk : k < bs.length, s.1 = some (lstK bs m k) ∧ cst bs m bs[k] = true ∧ bs[k].1 < (i : Int) ∧ ∀ j (hj : j < bs.length), j < k → cst bs m bs[j] = true → ¬ bs[j].1 < (i : Int))) n ⟨rfl, .inl ⟨rfl, fun j hj _ hlt => ?_⟩⟩ fun i s hi hs => ?_
  · have := of_decide_eq_true (List.all_eq_true.1 hb _ (List.getElem_mem hj))
    have h0 : bs[j].1 < 0 := hlt
    omega
  · obtain ⟨s1, s2⟩ := s
    obtain ⟨e, hinv⟩ := hs
    simp only at e hinv
    subst e
    dsimp only
    by_cases hil : i < n
    · rw [ltI (by omega), cond_true, m45_eq hl hb hil (by omega) (by omega) hil (by omega) (by omega), Option.bind_some]
      have hw1 : IntKind.wrap IntKind.i64 ((i : Int) + 1) = ((i + 1 : Nat) : Int) := by rw [wrap_in (by omega) (by omega)]; rfl
      rw [hw1]
      have hstp : ∀ c, c ∈ bs → (stp bs i m i (-1) c = true ↔ c.1 = (i : Int) ∧ cst bs m c = true) := fun c hc => by
        unfold stp cst
        rw [Bool.and_eq_true]
        constructor
        · intro ⟨h1, h2⟩
          have h1 := of_decide_eq_true h1
          have h2 := of_decide_eq_true h2
          have t : c.1.toNat = i := by omega
          rw [t]
          exact ⟨h1, decide_eq_true (by omega)⟩
        · intro ⟨h1, h2⟩
          have h2 := of_decide_eq_true h2
          have t : c.1.toNat = i := by omega
          rw [t] at h2
          exact ⟨decide_eq_true h1, decide_eq_true (by omega)⟩
      by_cases hw : wkT bs (m + 1) i i ≤ -1
      · rw [if_pos hw]
        obtain ⟨c, hc, hcp⟩ := stp_ex hb (by omega) hil hil (by omega) hw
        cases hf : bs.findIdx? (stp bs i m i (-1)) with
        | none =>
          rw [List.findIdx?_eq_none_iff] at hf
          rw [hf c hc] at hcp
          cases hcp
        | some k =>
          obtain ⟨hk, hp2, hall⟩ := List.findIdx?_eq_some_iff_getElem.1 hf
          obtain ⟨k1, k2⟩ := (hstp _ (List.getElem_mem hk)).1 hp2
          have hkl : chP bs i (m + 1) i (-1) = lstK bs m k := by
            show (match bs.findIdx? (stp bs i m i (-1)) with | some k => _ | none => _) = _
            rw [hf]
            show (k : Int) :: chP bs i m (bs.getD k (0, 0, 0)).2.1.toNat (-1 - (bs.getD k (0, 0, 0)).2.2) = _
            unfold lstK
            rw [getD_of hk, k1]
            have t : ((i : Int)).toNat = i := by omega
            rw [t]
          rw [hkl]
          dsimp only
          have hne : Option.bind (neM (lstK bs m k)) (fun (r : List Int) => some (some r)) = some (some (lstK bs m k)) := rfl
          have hfirst : ∀ j (hj : j < bs.length), j < k → cst bs m bs[j] = true → ¬ bs[j].1 = (i : Int) := fun j hj hjk hcj he => hall j hjk ((hstp _ (List.getElem_mem hj)).2 ⟨he, hcj⟩)
          rcases hinv with ⟨rfl, hinv⟩ | ⟨b, hbk, rfl, g1, g2, g3⟩
          · rw [show Option.isNone (none : Option (List Int)) = true from rfl, notT, andT, cond_false, Option.bind_some, orT, andT, cond_true, hne, Option.bind_some]
            refine Ans.some ⟨hil, rfl, .inr ⟨k, hk, rfl, k2, by omega, fun j hj hjk hcj => ?_⟩⟩
            have h1 := hinv j hj hcj
            have h2 := hfirst j hj hjk hcj
            show ¬ bs[j].1 < ((i + 1 : Nat) : Int)
            omega
          · have hkb : k ≠ b := fun e => by subst e; omega
            rw [show Option.isNone (some (lstK bs m b)) = false from rfl, notF, andT, cond_true]
            have h46 : m46 (lstK bs m k, getL (some (lstK bs m b))) = some (decide ((k : Int) < (b : Int))) := m46_heads (by omega)
            rw [h46, Option.bind_some, orF, andT]
            by_cases hlt : k < b
            · rw [decide_eq_true (show (k : Int) < (b : Int) by omega), cond_true, hne, Option.bind_some]
              refine Ans.some ⟨hil, rfl, .inr ⟨k, hk, rfl, k2, by omega, fun j hj hjk hcj => ?_⟩⟩
              have h1 := g3 j hj (by omega) hcj
              have h2 := hfirst j hj hjk hcj
              show ¬ bs[j].1 < ((i + 1 : Nat) : Int)
              omega
            · rw [decide_eq_false (show ¬ (k : Int) < (b : Int) by omega), cond_false, Option.bind_some]
              refine Ans.some ⟨hil, rfl, .inr ⟨b, hbk, rfl, g1, by omega, fun j hj hjk hcj => ?_⟩⟩
              have h1 := g3 j hj hjk hcj
              have h2 : ¬ bs[j].1 = (i : Int) := hfirst j hj (by omega) hcj
              show ¬ bs[j].1 < ((i + 1 : Nat) : Int)
              omega
      · rw [if_neg hw]
        dsimp only
        rw [andF, cond_false, Option.bind_some, andF, cond_false, Option.bind_some]
        have hnone : ∀ j (hj : j < bs.length), cst bs m bs[j] = true → ¬ bs[j].1 = (i : Int) := fun j hj hcj he => by
          have hwk := (cst_walk hb (by omega) (List.getElem_mem hj)).1 hcj
          obtain ⟨a, b, ha, hb', e1, e2, _, _⟩ := bnd_of (List.all_eq_true.1 hb _ (List.getElem_mem hj))
          have t1 : bs[j].1.toNat = i := by omega
          have t2 : bs[j].2.1.toNat = b := by omega
          rw [t1, t2] at hwk
          have hmem : ((i : Int), (b : Int), bs[j].2.2) ∈ bs := by rw [← e2, ← he]; exact List.getElem_mem hj
          have hw2 := WN.cons hmem (wk_walk hb (m := m) (by omega) hb' hil (by omega))
          have := (wk_le hb (m := m + 1) (by omega) hil hw2).1
          omega
        refine Ans.some ⟨hil, rfl, ?_⟩
        rcases hinv with ⟨rfl, hinv⟩ | ⟨b, hbk, rfl, g1, g2, g3⟩
        · refine .inl ⟨rfl, fun j hj hcj => ?_⟩
          have h1 := hinv j hj hcj
          have h2 := hnone j hj hcj
          show ¬ bs[j].1 < ((i + 1 : Nat) : Int)
          omega
        · refine .inr ⟨b, hbk, rfl, g1, by omega, fun j hj hjk hcj => ?_⟩
          have h1 := g3 j hj hjk hcj
          have h2 := hnone j hj hcj
          show ¬ bs[j].1 < ((i + 1 : Nat) : Int)
          omega
    · have ei : i = n := by omega
      subst ei
      rw [geI (by omega), cond_false]
      refine Ans.some ?_
      have hlt : ∀ j (hj : j < bs.length), bs[j].1 < (i : Int) := fun j hj => (of_decide_eq_true (List.all_eq_true.1 hb _ (List.getElem_mem hj))).2.1
      rcases hinv with ⟨rfl, hinv⟩ | ⟨b, hbk, rfl, g1, g2, g3⟩
      · refine .inl ⟨rfl, ?_⟩
        rw [List.findIdx?_eq_none_iff]
        intro c hc
        obtain ⟨j, hj, rfl⟩ := List.mem_iff_getElem.1 hc
        cases hcj : cst bs m bs[j] with
        | false => rfl
        | true => exact absurd (hlt j hj) (hinv j hj hcj)
      · refine .inr ⟨b, List.findIdx?_eq_some_iff_getElem.2 ⟨hbk, g1, fun j hj hcj => ?_⟩, rfl⟩
        exact g3 j (by omega) hj hcj (hlt j (by omega))
theorem m21_eq (x : Sys) : m21 x = some (cycR x) := by
  unfold m21 cycR
  rw [show (x.1, x.2) = x from rfl, m23_eq, Option.bind_some]
  cases hs : sys x with
  | false => rfl
  | true =>
    obtain ⟨hn, hb, he⟩ := sys_all hs
    have hl := (sys_bnd hs).1.2.2
    have h41 := m41_eq hn hl hb
    rw [he] at h41
    rw [notT, cond_false]
    refine bind_of h41 ?_
    have hbest := fun m (hm : m < x.1.toNat) => best_loop hn hl hb hm
    rw [he] at hbest
    cases ho : ovS x with
    | true =>
      obtain ⟨c1, c2, c3⟩ := cycM_of hs ho
      obtain ⟨k0, hk0⟩ := Option.isSome_iff_exists.1 c2
      have hcy : cycL x.2 = lstK x.2 (cycM x.2) k0 := by
        unfold cycL lstK
        rw [hk0]
      rw [hcy]
      generalize cycM x.2 = m0 at *
      refine bind_of (loopM_fn (fun k => ((k + 1 : Nat) : Int)) m0 (r := Sum.inr (some (lstK x.2 m0 k0), true)) (fun k hk => ?_) ?_) rfl
      · rw [leI (by omega), cond_true]
        have hno := c3 k hk
        have hnone : x.2.findIdx? (cst x.2 k) = none := by
          cases hq : x.2.findIdx? (cst x.2 k) with
          | none => rfl
          | some z => rw [hq] at hno; cases hno
        refine bind_of (x := none) (Ans.is ((hbest k (by omega)).mono fun o ho => ?_)) ?_
        · rcases ho with ⟨h, _⟩ | ⟨z, h, _⟩
          · exact h
          · rw [hnone] at h; cases h
        · show some (Sum.inl (IntKind.wrap IntKind.i64 (((k + 1 : Nat) : Int) + 1))) = _
          rw [wrap_in (by omega) (by omega)]
          rfl
      · rw [leI (by omega), cond_true]
        refine bind_of (x := some (lstK x.2 m0 k0)) (Ans.is ((hbest m0 (by omega)).mono fun o ho => ?_)) rfl
        rcases ho with ⟨_, h⟩ | ⟨z, h, h2⟩
        · rw [hk0] at h; cases h
        · rw [hk0] at h
          have : z = k0 := (Option.some.inj h).symm
          rw [h2, this]
    | false =>
      refine bind_of (loopM_fn (fun k => ((k + 1 : Nat) : Int)) x.1.toNat (r := Sum.inl ()) (fun k hk => ?_) ?_) rfl
      · rw [leI (by omega), cond_true]
        have hnone : x.2.findIdx? (cst x.2 k) = none := by
          cases hq : x.2.findIdx? (cst x.2 k) with
          | none => rfl
          | some z =>
            obtain ⟨hz, hw⟩ := of_cst hb (by omega) hq
            obtain ⟨a, b, ha, hb', e1, e2, _, _⟩ := bnd_of (List.all_eq_true.1 hb _ (List.getElem_mem hz))
            have t1 : x.2[z].1.toNat = a := by omega
            have t2 : x.2[z].2.1.toNat = b := by omega
            rw [t1, t2] at hw
            have hmem : ((a : Int), (b : Int), x.2[z].2.2) ∈ x.2 := by rw [← e1, ← e2]; exact List.getElem_mem hz
            have hw2 := WN.cons hmem (wk_walk hb (m := k) (by omega) hb' ha (by omega))
            have := no_neg hs ho a _ _ ha hw2
            omega
        refine bind_of (x := none) (Ans.is ((hbest k (by omega)).mono fun o ho => ?_)) ?_
        · rcases ho with ⟨h, _⟩ | ⟨z, h, _⟩
          · exact h
          · rw [hnone] at h; cases h
        · show some (Sum.inl (IntKind.wrap IntKind.i64 (((k + 1 : Nat) : Int) + 1))) = _
          rw [wrap_in (by omega) (by omega)]
          rfl
      · rw [gtI (by omega), cond_false]
theorem m57_eq {n : Int} {bs : List (Int × Int × Int)} {l : List Int} (hbl : bs.length ≤ 1000000000) (hl : l.length ≤ 60) (f : Int) : m57 ((n, bs), f, l) = some (folR bs l f) := by
  have key : ∀ (body : Int × Int × Int → Option ((Int × Int × Int) ⊕ (Int × Int ⊕ Int × Int × Bool))), (body = fun (s : Int × Int × Int) =>
          bif ltM s.2.2 (lenM l) then
            Option.bind (idxM l s.2.2) fun (r : Int) =>
              Option.bind (m51 (r, (0 : Int), IntKind.wrap IntKind.i64 (lenM bs - (1 : Int)))) fun (r_1 : Bool) =>
                bif PE.orM (PE.notM r_1) (ltM (60 : Int) (lenM l)) then
                  some (Sum.inr (Sum.inr ((0 : Int), (0 : Int), false)))
                else
                  Option.bind (idxM l s.2.2) fun (r_2 : Int) =>
                    Option.bind (idxM bs r_2) fun (r : Int × Int × Int) =>
                      bif PE.notM (eqM r.1 s.1) then some (Sum.inr (Sum.inr ((0 : Int), (0 : Int), false)))
                      else
                        some
                          (Sum.inl
                            (r.2.1, IntKind.wrap IntKind.i64 (s.2.1 + r.2.2),
                              IntKind.wrap IntKind.i64 (s.2.2 + (1 : Int))))
          else some (Sum.inr (Sum.inl (s.1, s.2.1)))) → ∀ (d k : Nat) (f s : Int), k + d = l.length → loopM body (f, s, (k : Int)) = some (match folP bs (l.drop k) f s with | some r => .inl r | none => .inr (0, 0, false)) := by
    intro body hbody d
    induction d with
    | zero =>
      intro k f s hk
      have hstep : body (f, s, (k : Int)) = some (.inr (.inl (f, s))) := by
        rw [hbody]
        dsimp only
        rw [geI (by show (l.length : Int) ≤ (k : Int); omega), cond_false]
      rw [loopM_eq, hstep, List.drop_eq_nil_of_le (by omega)]
      rfl
    | succ d ih =>
      intro k f s hk
      have hkl : k < l.length := by omega
      have hd : l.drop k = l[k] :: l.drop (k + 1) := List.drop_eq_getElem_cons hkl
      rw [hd]
      unfold folP
      rw [loopM_eq]
      have e60 : ltM (60 : Int) (lenM l) = false := geI (by show (l.length : Int) ≤ 60; omega)
      by_cases h1 : 0 ≤ l[k] ∧ l[k] < bs.length
      · have e1 : (decide (0 ≤ l[k]) && decide (l[k] ≤ IntKind.wrap IntKind.i64 (lenM bs - 1))) = true := by
          have : IntKind.wrap IntKind.i64 (lenM bs - 1) = (bs.length : Int) - 1 := wrap_in (by show _ ≤ (bs.length : Int) - 1; omega) (by show (bs.length : Int) - 1 ≤ _; omega)
          rw [this, decide_eq_true h1.1, decide_eq_true (by omega)]
          rfl
        have e2 : idxM bs l[k] = some (bs.getD l[k].toNat (0, 0, 0)) := by
          rw [idxM_of h1.1 h1.2, getD_of (by omega)]
        by_cases h2 : (bs.getD l[k].toNat (0, 0, 0)).1 = f
        · have hstep : body (f, s, (k : Int)) = some (.inl ((bs.getD l[k].toNat (0, 0, 0)).2.1, IntKind.wrap IntKind.i64 (s + (bs.getD l[k].toNat (0, 0, 0)).2.2), ((k + 1 : Nat) : Int))) := by
            rw [hbody]
            dsimp only
            rw [ltI (by show (k : Int) < (l.length : Int); omega), cond_true, idxM_lt hkl, Option.bind_some, m51_eq, e1, Option.bind_some, notT, e60, orF, cond_false, Option.bind_some, e2, Option.bind_some, eqI h2, notT, cond_false, wrap_in (n := (k : Int) + 1) (by omega) (by omega)]
            rfl
          rw [hstep, if_pos ⟨h1.1, h1.2, h2⟩]
          exact ih (k + 1) _ _ (by omega)
        · have hstep : body (f, s, (k : Int)) = some (.inr (.inr (0, 0, false))) := by
            rw [hbody]
            dsimp only
            rw [ltI (by show (k : Int) < (l.length : Int); omega), cond_true, idxM_lt hkl, Option.bind_some, m51_eq, e1, Option.bind_some, notT, e60, orF, cond_false, Option.bind_some, e2, Option.bind_some, neI h2, notF, cond_true]
          rw [hstep, if_neg fun h => h2 h.2.2]
          rfl
      · have e1 : (decide (0 ≤ l[k]) && decide (l[k] ≤ IntKind.wrap IntKind.i64 (lenM bs - 1))) = false := by
          have : IntKind.wrap IntKind.i64 (lenM bs - 1) = (bs.length : Int) - 1 := wrap_in (by show _ ≤ (bs.length : Int) - 1; omega) (by show (bs.length : Int) - 1 ≤ _; omega)
          rw [this]
          by_cases h0 : 0 ≤ l[k]
          · rw [decide_eq_true h0, decide_eq_false (by omega)]; rfl
          · rw [decide_eq_false h0]; rfl
        have hstep : body (f, s, (k : Int)) = some (.inr (.inr (0, 0, false))) := by
          rw [hbody]
          dsimp only
          rw [ltI (by show (k : Int) < (l.length : Int); omega), cond_true, idxM_lt hkl, Option.bind_some, m51_eq, e1, Option.bind_some, notF, orT, cond_true]
        rw [hstep, if_neg fun h => h1 ⟨h.1, h.2.1⟩]
        rfl
  unfold m57
  have h0 := key _ rfl l.length 0 f 0 (by omega)
  rw [List.drop_zero] at h0
  refine bind_of h0 ?_
  unfold folR
  rw [decide_eq_true (by omega)]
  cases folP bs l f 0 with
  | some r => rfl
  | none => rfl
theorem m32_eq (x : Sys) (v : Int × Int × Int) {l : List Int} (hl : l.length ≤ 60) : m32 (x, v, l) = some (chkChain x v l) := by
  unfold m32 chkChain
  dsimp only
  rw [show (x.1, x.2) = x from rfl, m23_eq, Option.bind_some]
  cases h : sys x with
  | false => rfl
  | true =>
    rw [notT, notF, cond_true, m52_eq v (sys_bnd h).1.1 (sys_bnd h).1.2.1, Option.bind_some, orF]
    cases h2 : bnd x.1 v with
    | false => rfl
    | true =>
      rw [notT, cond_false]
      exact bind_of (m57_eq (n := x.1) (bs := x.2) (by have := (sys_bnd h).1; omega) hl v.1) rfl
/-- A list that can be followed begins with a bound from there. -/
theorem folR_head {bs : List (Int × Int × Int)} {k f : Int} {l : List Int} (h : (folR bs (k :: l) f).2.2 = true) : 0 ≤ k ∧ k < bs.length ∧ (bs.getD k.toNat (0, 0, 0)).1 = f := by
  have h1 := (folR_ok h).2
  unfold folP at h1
  split at h1
  · rename_i hk; exact hk
  · cases h1
theorem m30_eq (x : Sys) {l : List Int} (hl : l.length ≤ 60) : m30 (x, l) = some (chkCycle x l) := by
  unfold m30
  dsimp only
  rw [show (x.1, x.2) = x from rfl, m23_eq, Option.bind_some]
  cases l with
  | nil => cases sys x <;> rfl
  | cons k l =>
    unfold chkCycle
    dsimp only
    cases h : sys x with
    | false => rfl
    | true =>
      obtain ⟨hn, hb, he⟩ := sys_all h
      have hbd := (sys_bnd h).1
      have e0 : eqM (lenM (k :: l)) 0 = false := neI (by show ((l.length + 1 : Nat) : Int) ≠ 0; omega)
      rw [notT, e0, orF, cond_false, Bool.true_and]
      have h57 := fun i => m57_eq (n := x.1) (bs := x.2) (by omega) hl i
      generalize hc : (decide (0 ≤ k) && decide (k < (x.2.length : Int)) && ((folR x.2 (k :: l) (x.2.getD k.toNat (0, 0, 0)).1).2.2 && decide ((folR x.2 (k :: l) (x.2.getD k.toNat (0, 0, 0)).1).1 = (x.2.getD k.toNat (0, 0, 0)).1) && decide ((folR x.2 (k :: l) (x.2.getD k.toNat (0, 0, 0)).1).2.1 < 0))) = r
      refine Ans.is (Ans.bind (P := fun o => (o = .inr true ∧ r = true) ∨ (o = .inl () ∧ r = false)) ?_ ?_)
      · refine Ans.loop (fun i s => s = (i : Int) ∧ ∀ i', i' < i → ((folR x.2 (k :: l) (i' : Int)).2.2 && decide ((folR x.2 (k :: l) (i' : Int)).1 = (i' : Int)) && decide ((folR x.2 (k :: l) (i' : Int)).2.1 < 0)) = false) x.1.toNat ⟨rfl, fun i h => by omega⟩ fun i s hi hs => ?_
        obtain ⟨hs, hP⟩ := hs
        subst hs
        by_cases hil : i < x.1.toNat
        · rw [ltI (by omega), cond_true, h57, Option.bind_some]
          cases hq : ((folR x.2 (k :: l) (i : Int)).2.2 && decide ((folR x.2 (k :: l) (i : Int)).1 = (i : Int)) && decide ((folR x.2 (k :: l) (i : Int)).2.1 < 0)) with
          | true =>
            have hq' : PE.andM (PE.andM (folR x.2 (k :: l) (i : Int)).2.2 (eqM (folR x.2 (k :: l) (i : Int)).1 (i : Int))) (ltM (folR x.2 (k :: l) (i : Int)).2.1 0) = true := hq
            rw [hq', cond_true]
            refine Ans.some (.inl ⟨rfl, ?_⟩)
            have h2 := hq
            rw [Bool.and_eq_true, Bool.and_eq_true] at h2
            obtain ⟨k0, k1, k2⟩ := folR_head h2.1.1
            rw [← hc, k2, hq, decide_eq_true k0, decide_eq_true k1]
            rfl
          | false =>
            have hq' : PE.andM (PE.andM (folR x.2 (k :: l) (i : Int)).2.2 (eqM (folR x.2 (k :: l) (i : Int)).1 (i : Int))) (ltM (folR x.2 (k :: l) (i : Int)).2.1 0) = false := hq
            rw [hq', cond_false, wrap_in (by omega) (by omega)]
            refine Ans.some ⟨hil, rfl, fun i' hi' => ?_⟩
            by_cases e : i' = i
            · subst e; exact hq
            · exact hP i' (by omega)
        · rw [geI (by omega), cond_false]
          refine Ans.some (.inr ⟨rfl, ?_⟩)
          cases hr : r with
          | false => rfl
          | true =>
            rw [hr, Bool.and_eq_true, Bool.and_eq_true] at hc
            have k0 := of_decide_eq_true hc.1.1
            have k1 := of_decide_eq_true hc.1.2
            have hcb := (sys_bnd h).2 _ (List.getElem_mem (l := x.2) (n := k.toNat) (by omega))
            have hg : x.2.getD k.toNat (0, 0, 0) = x.2[k.toNat]'(by omega) := getD_of (by omega)
            rw [hg] at hc
            have ht : (((x.2[k.toNat]'(by omega)).1.toNat : Nat) : Int) = (x.2[k.toNat]'(by omega)).1 := by omega
            have := hP (x.2[k.toNat]'(by omega)).1.toNat (by omega)
            rw [ht, hc.2] at this
            cases this
      · rintro o (⟨rfl, e⟩ | ⟨rfl, e⟩)
        · exact Ans.some e.symm
        · exact Ans.some e.symm
end Go.Proofs.Ytadcohacnmicjaa
/-
  Between: the law BetweenMatchesReference.
  No conditions.
-/
namespace Go.Proofs.Ytadcohacnmicjaa
open Go Go.Abs Go.PE
set_option linter.unusedVariables false
theorem close_res (x : Sys) : ∃ A, m16 x = some A ∧ m17 x = some A ∧ A.1.length ≤ 16 ∧ ∀ r ∈ A.1, r.length ≤ 4611686018427387904 := by
  cases hs : sys x with
  | false => exact ⟨([], 90), m16_sys hs, by rw [m17_eq, m16_sys hs], by show 0 ≤ 16; omega, fun r hr => by cases hr⟩
  | true =>
    cases ho : ovS x with
    | true => exact ⟨([], 90), m16_bad hs ho, by rw [m17_eq, m16_bad hs ho], by show 0 ≤ 16; omega, fun r hr => by cases hr⟩
    | false =>
      have hn := (sys_all hs).1
      exact ⟨_, m16_good hs ho, by rw [m17_eq, m16_good hs ho], by rw [rt_length]; exact hn, rt_rows_len hn⟩
theorem solve_res (x : Sys) : ∃ B, m18 x = some B ∧ m19 x = some B ∧ B.1.length ≤ 16 := by
  cases hs : sys x with
  | false => exact ⟨([], 90), m18_of_bad (m16_sys hs), by rw [m19_eq, m18_of_bad (m16_sys hs)], by show 0 ≤ 16; omega⟩
  | true =>
    cases ho : ovS x with
    | true => exact ⟨([], 90), m18_bad hs ho, by rw [m19_eq, m18_bad hs ho], by show 0 ≤ 16; omega⟩
    | false =>
      have hn := (sys_all hs).1
      exact ⟨_, m18_good hs ho, by rw [m19_eq, m18_good hs ho], by rw [row_length]; exact hn⟩
theorem cycR_len (x : Sys) : (cycR x).1.length ≤ 16 := by
  unfold cycR
  cases hs : sys x with
  | false => show 0 ≤ 16; omega
  | true =>
    cases ho : ovS x with
    | false => show 0 ≤ 16; omega
    | true =>
      obtain ⟨_, v, S, _, h, _⟩ := cyc_st hs ho
      have hn := (sys_all hs).1
      show (cycL x.2).length ≤ 16
      omega
theorem impR_len (x : Sys) (v : Int × Int × Int) : (impR x v).1.length ≤ 60 := by
  cases h : (impR x v).2 with
  | false => rw [imp_none h]; show 0 ≤ 60; omega
  | true =>
    have hacc := imp_accepted h
    unfold chkChain at hacc
    rw [Bool.and_eq_true, Bool.and_eq_true, Bool.and_eq_true, Bool.and_eq_true] at hacc
    exact (folR_ok hacc.2.1.1).1
theorem bent_res {x : Sys} {how n at' : Int} (hl : x.2.length ≤ 1000) (h1 : i64 how) (h2 : i64 at') : ∃ r, m14 (x, how, n, at') = some r := by
  unfold m14
  dsimp only
  have e0 : appM (nat_lit 24) [] x.2 = some x.2 := by rw [appM_of (by show (0 + x.2.length) * 24 ≤ 140737488355328; omega), List.nil_append]
  rw [e0, Option.bind_some]
  by_cases e : x.2.length = 0
  · rw [eqI (by show (x.2.length : Int) = 0; omega), cond_true, appM_of (by show (x.2.length + 1) * 24 ≤ 140737488355328; omega)]
    exact ⟨_, rfl⟩
  · have hp : (0 : Int) < lenM x.2 := by show (0 : Int) < (x.2.length : Int); omega
    have p1 := pk_lo (c := at') hp
    have p2 : pk at' (lenM x.2) < (x.2.length : Int) := pk_hi (c := at') hp
    rw [neI (by show (x.2.length : Int) ≠ 0; omega), cond_false, m38_eq h2 hp, Option.bind_some, m38_eq h1 (by omega), Option.bind_some]
    have hk := chkM_of p1 p2
    have key : ∀ (f : Int × Int × Int → Option (Int × Int × Int)) (F : List (Int × Int × Int) × Int → Option Sys), (∀ c, ∃ y, f c = some y) → (∀ o, ∃ r, F o = some r) → ∃ r, Option.bind (Option.bind (chkM (pk at' (lenM x.2)) (lenM x.2)) fun (_ : Unit) => Option.bind (setM x.2 (pk at' (lenM x.2)) f) fun (r : List (Int × Int × Int)) => some (r, x.1)) F = some r := fun f F hf hF => by
      have hk' : chkM (pk at' (lenM x.2)) (lenM x.2) = some () := hk
      obtain ⟨y, hy⟩ := hf (x.2[(pk at' (lenM x.2)).toNat]'(by omega))
      rw [hk', Option.bind_some, setM_of p1 p2 hy, Option.bind_some, Option.bind_some]
      exact hF _
    cases eqM (pk how 4) 0
    · rw [cond_false]
      cases eqM (pk how 4) 1
      · rw [cond_false]
        cases eqM (pk how 4) 2
        · rw [cond_false]
          exact key _ _ (fun c => ⟨_, rfl⟩) fun o => ⟨_, rfl⟩
        · rw [cond_true]
          exact key _ _ (fun c => ⟨_, rfl⟩) fun o => ⟨_, rfl⟩
      · rw [cond_true]
        exact key _ _ (fun c => ⟨_, rfl⟩) fun o => ⟨_, rfl⟩
    · exact ⟨_, rfl⟩
theorem few_res (x : Sys) : ∃ r, m15 x = some r := by
  unfold m15
  have e : min (lenM x.2) (6 : Int) = ((min x.2.length 6 : Nat) : Int) := by show min (x.2.length : Int) 6 = _; omega
  rw [e, sliceM_of (by omega) (by omega) (by omega)]
  exact ⟨_, rfl⟩
theorem eqb_self (b : Bool) : eqbM b b = true := decide_eq_true rfl
theorem law3_ok (x : Num × Sys × Int × Int × Int × (Int × Int × Int) × List Int) (h : NumOK x.1) (h1 : i64 x.2.2.1) (h2 : i64 x.2.2.2.2.1) (h3 : i64 x.2.2.2.2.2.1.1) (h4 : i64 x.2.2.2.2.2.1.2.1) (h5 : i64 x.2.2.2.2.2.1.2.2) : m3 x = some true := by
  have hn := nH_bd x.1
  have hL := mde_len x.1
  have hsh := short_len x.2.2.2.2.2.2
  have hfst : (mde x.1).1 = (nH x.1 : Int) := rfl
  have h26 := m26_eq h
  have hhl := hid_len x.1
  unfold m3
  refine bind_of sane_ok ?_
  refine bind_of (m11_eq _) (bind_of (x := mde x.1) (m12_eq h) ?_)
  refine bind_of (m13_eq h3 (by omega)) (bind_of (m13_eq h4 (by omega)) (bind_of (m13_eq h5 (by omega)) ?_))
  obtain ⟨b2, hb2⟩ := bent_res (x := mde x.1) (how := x.2.2.1) (n := x.2.2.2.1) (at' := x.2.2.2.2.1) (by omega) h1 h2
  obtain ⟨b3, hb3⟩ := few_res x.2.1
  refine bind_of hb2 (bind_of hb3 ?_)
  refine bind_of (x := Sum.inl ()) (loopM_is (fun k s => s = (k : Int)) 3 rfl fun k s hk hs => ?_) rfl
  subst hs
  by_cases hlt : k < 3
  · have hlen : k < [((mde x.1).1, (mde x.1).2), (b2.1, b2.2), (b3.1, b3.2)].length := hlt
    refine .inl ⟨((k + 1 : Nat) : Int), hlt, ?_, rfl⟩
    have ek : IntKind.wrap IntKind.i64 ((k : Int) + 1) = ((k + 1 : Nat) : Int) := by rw [wrap_in (by omega) (by omega)]; rfl
    rw [ltI (by show (k : Int) < 3; omega), cond_true, idxM_lt hlen, Option.bind_some]
    generalize [((mde x.1).1, (mde x.1).2), (b2.1, b2.2), (b3.1, b3.2)][k] = d
    obtain ⟨A, a1, a2, a3, a4⟩ := close_res d
    obtain ⟨B, c1, c2, c3⟩ := solve_res d
    refine bind_of (x := A) a1 (bind_of (x := A) a2 (bind_of (x := B) c1 (bind_of (x := B) c2 (bind_of (x := cycR d) (m20_eq d) (bind_of (x := cycR d) (m21_eq d) (bind_of (x := sys d) (m22_eq d) (bind_of (x := sys d) (m23_eq d) ?_)))))))
    have hcl := cycR_len d
    rw [eqb_self, eqb_self, eqI (show A.2 = A.2 from rfl), eqI (show B.2 = B.2 from rfl), notT]
    have o3 : PE.orM (PE.orM (PE.orM false false) false) false = false := rfl
    rw [o3, notF, cond_true, m24_eq (by omega) a4, decide_eq_true rfl, Option.bind_some, notT]
    have o4 : PE.orM false false = false := rfl
    rw [o4, notF, cond_true, m25_eq (by omega), decide_eq_true rfl, Option.bind_some, notT, o4, notF, cond_true, m25_eq (by omega), decide_eq_true rfl, Option.bind_some, notT, o4, cond_false]
    refine bind_of (x := hid x.1) h26 ?_
    refine bind_of (x := Sum.inl ()) (loopM_is (fun k s => s = (k : Int)) 4 rfl fun j s hj hs => ?_) ?_
    · subst hs
      by_cases hjl : j < 4
      · refine .inl ⟨((j + 1 : Nat) : Int), hjl, ?_, rfl⟩
        have hjlen : j < [short x.2.2.2.2.2.2, (cycR d).1, hid x.1, B.1].length := hjl
        have hul : ∀ u ∈ [short x.2.2.2.2.2.2, (cycR d).1, hid x.1, B.1], u.length ≤ 60 := fun u hu => by
          simp only [List.mem_cons, List.not_mem_nil, or_false] at hu
          rcases hu with rfl | rfl | rfl | rfl <;> omega
        have hu := hul _ (List.getElem_mem hjlen)
        rw [ltI (by show (j : Int) < 4; omega), cond_true, idxM_lt hjlen, Option.bind_some]
        generalize [short x.2.2.2.2.2.2, (cycR d).1, hid x.1, B.1][j] = u at hu ⊢
        refine bind_of (m27_eq d u) (bind_of (m28_eq d (by omega)) ?_)
        rw [eqb_self, notT, notF, cond_true]
        refine bind_of (m29_eq d (by omega)) ?_
        rw [cond_true]
        refine bind_of (m30_eq d hu) ?_
        rw [eqb_self, notT, o4, notF, cond_true]
        refine bind_of (m31_eq d x.2.2.2.2.2.1 (by omega)) ?_
        rw [cond_true]
        refine bind_of (m32_eq d x.2.2.2.2.2.1 hu) ?_
        rw [eqb_self, notT, o4, cond_false, wrap_in (by omega) (by omega)]
        rfl
      · refine .inr ?_
        have e : j = 4 := by omega
        rw [e, geI (by show (4 : Int) ≤ ((4 : Nat) : Int); omega), cond_false]
    · refine bind_of (x := Sum.inl ()) (loopM_is (fun k s => s = (k : Int)) 2 rfl fun j s hj hs => ?_) ?_
      · subst hs
        by_cases hjl : j < 2
        · refine .inl ⟨((j + 1 : Nat) : Int), hjl, ?_, rfl⟩
          have hjlen : j < [(x.2.2.2.2.2.1.1, x.2.2.2.2.2.1.2.1, x.2.2.2.2.2.1.2.2), (pk x.2.2.2.2.2.1.1 (mde x.1).1, pk x.2.2.2.2.2.1.2.1 (mde x.1).1, IntKind.wrap IntKind.i64 (pk x.2.2.2.2.2.1.2.2 400 - 200))].length := hjl
          rw [ltI (by show (j : Int) < 2; omega), cond_true, idxM_lt hjlen, Option.bind_some]
          generalize [(x.2.2.2.2.2.1.1, x.2.2.2.2.2.1.2.1, x.2.2.2.2.2.1.2.2), (pk x.2.2.2.2.2.1.1 (mde x.1).1, pk x.2.2.2.2.2.1.2.1 (mde x.1).1, IntKind.wrap IntKind.i64 (pk x.2.2.2.2.2.1.2.2 400 - 200))][j] = v
          have hil := impR_len d v
          refine bind_of (m33_eq d v) (bind_of (m34_eq d v) ?_)
          rw [eqb_self, notT, notF, cond_true, m25_eq (by omega), decide_eq_true rfl, Option.bind_some, notT, o4, notF, cond_true]
          refine bind_of (m31_eq d v (by omega)) ?_
          rw [cond_true]
          refine bind_of (m32_eq d v hil) ?_
          rw [eqb_self, notT, o4, cond_false, wrap_in (by omega) (by omega)]
          rfl
        · refine .inr ?_
          have e : j = 2 := by omega
          rw [e, geI (by show (2 : Int) ≤ ((2 : Nat) : Int); omega), cond_false]
      · show some (Sum.inl (IntKind.wrap IntKind.i64 ((k : Int) + 1))) = _
        rw [ek]
  · refine .inr ?_
    have e : k = 3 := by omega
    rw [e, geI (by show (3 : Int) ≤ ((3 : Nat) : Int); omega), cond_false]
end Go.Proofs.Ytadcohacnmicjaa
/-
  Between: the plain law of BetweenMatchesReference, as the frame asks for it.
  No conditions.
-/
namespace Go.Proofs.Ytadcohacnmicjaa
open Go Go.Abs Go.PE
theorem law3 : ∀ (S : Cells) (w : World) (η : Eta) (vs : List Value) x, All2 (RM S w η) (rvs as3 x) vs → m3 x = some true :=
  law_of_ok fun x h => law3_ok x (num_ok h.1) h.2.2.1 h.2.2.2.2.1 h.2.2.2.2.2.1.1 h.2.2.2.2.2.1.2.1 h.2.2.2.2.2.1.2.2
end Go.Proofs.Ytadcohacnmicjaa
