/-
  Texts of this proof, put together: 21s, 21a, 21b, 21c, 21d, 21e, 21f, 21g, 21h, 21i, 21j, 21k, 21l, 21m, 21n, 21o, LawRingMatchesReference.
  No conditions.
-/
import Derived.Test.YtblachgndbmhaaaZ4
set_option linter.all false
/-
  Ring: the self-test of the laws answers true.
  No conditions.
-/
namespace Go.Proofs.Ytblachgndbmhaaa
open Go Go.Abs Go.PE
set_option maxRecDepth 100000 in
theorem saneF : m11F () = some true := by kernel_rfl
theorem sane_ok : m11 () = some true := (le11 ()).out saneF
end Go.Proofs.Ytblachgndbmhaaa
/-
  Ring: bounds, picks; the law RingFells.
  No conditions.
-/
namespace Go.Proofs.Ytblachgndbmhaaa
open Go Go.Abs Go.PE
set_option linter.unusedVariables false
def i64 (n : Int) : Prop := -9223372036854775808 ≤ n ∧ n ≤ 9223372036854775807
theorem m14_eq {c n : Int} (hc : i64 c) (hn : 0 < n) : m14 (c, n) = some (pk c n) := pk_text hc hn
theorem m35_eq {c n : Int} (hc : i64 c) (hn : 0 < n) : m35 (c, n) = some (pk c n) := pk_text hc hn
theorem i64_mem {xs : List Int} (h : InR (.list tI) xs) : ∀ v ∈ xs, i64 v := fun v hv => by
  obtain ⟨i, hi, rfl⟩ := List.mem_iff_getElem.1 hv
  exact h.2 i _ (List.getElem?_eq_getElem hi)
theorem pairs {xs : List (Int × Int)} (h : InR (.list (.pair tI tI)) xs) : ∀ c ∈ xs, i64 c.1 ∧ i64 c.2 := fun c hc => by
  obtain ⟨i, hi, rfl⟩ := List.mem_iff_getElem.1 hc
  obtain ⟨a, b⟩ := h.2 i _ (List.getElem?_eq_getElem hi)
  exact ⟨a, b⟩
theorem m37_eq (n lo hi : Int) : m37 (n, lo, hi) = some (decide (lo ≤ n ∧ n ≤ hi)) := by
  refine congrArg some (Bool.eq_iff_iff.2 ?_)
  unfold PE.andM
  rw [Bool.and_eq_true, decide_eq_true_iff, decide_eq_true_iff, decide_eq_true_iff]
theorem fel_eq {y n : Int} (hy : 0 ≤ y ∧ y ≤ 2050) (hn : 0 ≤ n ∧ n ≤ 41) : m33 (y, n, false) = some ((if n = 0 then y + 9 else y + max 0 (9 - n), min (if n = 0 then 2100 else y + 41 - n) 2100 + 1), 0) := by
  unfold m33
  dsimp only
  rw [m37_eq, Option.bind_some, decide_eq_true (by omega), notT, notF, cond_true, m37_eq, Option.bind_some, decide_eq_true (by omega), notT, orF, cond_false, cond_false]
  by_cases h : n = 0
  · rw [eqI h, cond_true, Option.bind_some, wrap_in (n := y + 9) (by omega) (by omega), geI (by show y + 9 ≤ min 2100 2100; omega), cond_false, wrap_in (by omega) (by omega), if_pos h, if_pos h]
  · rw [neI h, cond_false, wrap_in (n := 9 - n) (by omega) (by omega), wrap_in (n := y + max 0 (9 - n)) (by omega) (by omega), wrap_in (n := y + 41) (by omega) (by omega), wrap_in (n := y + 41 - n) (by omega) (by omega), Option.bind_some]
    dsimp only
    rw [geI (by omega), cond_false, wrap_in (by omega) (by omega), if_neg h, if_neg h]
theorem bark_eq {y n : Int} (hy : 0 ≤ y ∧ y ≤ 2050) (hn : 0 ≤ n ∧ n ≤ 41) : m33 (y, n, true) = some ((y, y + 1), 0) := by
  unfold m33
  dsimp only
  rw [m37_eq, Option.bind_some, decide_eq_true (by omega), notT, notF, cond_true, m37_eq, Option.bind_some, decide_eq_true (by omega), notT, orF, cond_false, cond_true, Option.bind_some]
  dsimp only
  have e : min y 2100 = y := by omega
  rw [geI (by omega), cond_false, e, wrap_in (by omega) (by omega)]
theorem law10_ok (x : Int × Int × Int) (h1 : i64 x.1) (h2 : i64 x.2.1) (h3 : i64 x.2.2) : m10 x = some true := by
  unfold m10
  refine bind_of sane_ok ?_
  rw [notT, cond_false]
  have p1 := pk_lo (c := x.1) (n := 2000) (by omega)
  have p2 := pk_hi (c := x.1) (n := 2000) (by omega)
  have p3 := pk_lo (c := x.2.1) (n := 42) (by omega)
  have p4 := pk_hi (c := x.2.1) (n := 42) (by omega)
  refine bind_of (m14_eq h1 (by omega)) (bind_of (m14_eq h2 (by omega)) ?_)
  generalize pk x.1 2000 = y at *
  generalize pk x.2.1 42 = n at *
  rw [wrap_in (n := 42 - n) (by omega) (by omega)]
  have p5 := pk_lo (c := x.2.2) (n := 42 - n) (by omega)
  have p6 := pk_hi (c := x.2.2) (n := 42 - n) (by omega)
  refine bind_of (m14_eq h3 (by omega)) ?_
  generalize pk x.2.2 (42 - n) = d at *
  rw [wrap_in (n := y + d) (by omega) (by omega), wrap_in (n := n + d) (by omega) (by omega)]
  refine bind_of (fel_eq (by omega) (by omega)) (bind_of (bark_eq (by omega) (by omega)) (bind_of (fel_eq (by omega) (by omega)) ?_))
  dsimp only
  rw [wrap_in (n := y + 1) (by omega) (by omega), eqI rfl, eqI rfl, eqI rfl, andT, notT, orF, orF, orF, cond_false]
  by_cases h0 : n = 0
  · rw [if_pos h0, if_pos h0, gtI (by omega), andF, cond_false, eqI h0]
    rfl
  · rw [if_neg h0, if_neg h0, if_neg (by omega), if_neg (by omega), neI h0, orF]
    by_cases h9 : 9 ≤ n
    · rw [leI h9, andT, geI (by omega), geI (by omega), orF, cond_false, leI (by omega), leI (by omega)]; rfl
    · rw [gtI (a := 9) (b := n) (by omega), andF, cond_false, leI (by omega), leI (by omega)]; rfl
end Go.Proofs.Ytblachgndbmhaaa
/-
  Ring: widths, errors as the model computes them.
  No conditions.
-/
namespace Go.Proofs.Ytblachgndbmhaaa
open Go Go.Abs Go.PE
set_option linter.unusedVariables false
/-- The trend with an index; in how many of n places two courses of trends differ. -/
def tr (l : List Int) (i : Nat) : Int := cmpI (l[i + 1]?.getD 0) (l[i]?.getD 0)
def er (f g : Nat → Int) : Nat → Int
  | 0 => 0
  | n + 1 => er f g n + (if f n = g n then 0 else 1)
theorem er_sz (f g : Nat → Int) : ∀ n : Nat, 0 ≤ er f g n ∧ er f g n ≤ n
  | 0 => ⟨Int.le_refl _, Int.le_refl _⟩
  | n + 1 => by
    have := er_sz f g n
    unfold er
    split <;> omega
theorem er_congr {f f' g g' : Nat → Int} : ∀ {n : Nat}, (∀ i, i < n → f i = f' i) → (∀ i, i < n → g i = g' i) → er f g n = er f' g' n
  | 0, _, _ => rfl
  | n + 1, h, h' => by
    unfold er
    rw [er_congr (n := n) (fun i hi => h i (by omega)) (fun i hi => h' i (by omega)), h n (by omega), h' n (by omega)]
theorem er_add (f g : Nat → Int) (n : Nat) : ∀ m : Nat, er f g (n + m) = er f g n + er (fun i => f (n + i)) (fun i => g (n + i)) m
  | 0 => (Int.add_zero _).symm
  | m + 1 => by
    show er f g (n + m) + (if f (n + m) = g (n + m) then 0 else 1) = er f g n + (er (fun i => f (n + i)) (fun i => g (n + i)) m + (if f (n + m) = g (n + m) then 0 else 1))
    rw [er_add f g n m]; omega
theorem er_comm (f g : Nat → Int) : ∀ n : Nat, er f g n = er g f n
  | 0 => rfl
  | n + 1 => by
    unfold er
    rw [er_comm f g n]
    by_cases h : f n = g n
    · rw [if_pos h, if_pos h.symm]
    · rw [if_neg h, if_neg fun e => h e.symm]
theorem er_self (f : Nat → Int) : ∀ n : Nat, er f f n = 0
  | 0 => rfl
  | n + 1 => by unfold er; rw [er_self f n, if_pos rfl]; rfl
theorem er_tri (f g h : Nat → Int) : ∀ n : Nat, er f h n ≤ er f g n + er g h n
  | 0 => Int.le_refl _
  | n + 1 => by
    have := er_tri f g h n
    unfold er
    by_cases h1 : f n = g n
    · rw [if_pos h1, h1]; split <;> omega
    · rw [if_neg h1]; split <;> split <;> omega
theorem er_mono (f g : Nat → Int) (n : Nat) : ∀ m : Nat, er f g n ≤ er f g (n + m)
  | 0 => Int.le_refl _
  | m + 1 => by
    have := er_mono f g n m
    show _ ≤ er f g (n + m) + _
    split <;> omega
theorem get_of {l : List Int} {i : Nat} (h : i < l.length) : l[i]?.getD 0 = l[i] := by rw [List.getElem?_eq_getElem h]; rfl
theorem tr_of {l : List Int} {i : Nat} (h : i + 1 < l.length) : tr l i = cmpI l[i + 1] l[i] := by
  unfold tr
  rw [get_of h, get_of (Nat.lt_of_succ_lt h)]
theorem m52_eq (a b : Int) : m52 (a, b) = some (PE.notM (eqM a b)) := rfl
/-- In how many trends two lists differ. -/
theorem m41_eq {a b : List Int} (h1 : 1 ≤ a.length) (h2 : a.length ≤ 1000000) (h3 : a.length ≤ b.length) : m41 (a, b) = some (er (tr a) (tr b) (a.length - 1)) := by
  unfold m41
  refine bind_of (x := er (tr a) (tr b) (a.length - 1)) ?_ rfl
  refine loopM_fn (fun k => (((k + 1 : Nat) : Int), er (tr a) (tr b) k)) (a.length - 1) (fun k hk => ?_) ?_
  · have hs := er_sz (tr a) (tr b) k
    dsimp only
    have e1 : IntKind.wrap IntKind.i64 (((k + 1 : Nat) : Int) - 1) = (k : Int) := by rw [wrap_in (by omega) (by omega)]; omega
    have e2 : IntKind.wrap IntKind.i64 ((k : Int) + 1) = ((k + 1 : Nat) : Int) := by rw [wrap_in (by omega) (by omega)]; rfl
    have e3 : IntKind.wrap IntKind.i64 (((k + 1 : Nat) : Int) + 1) = ((k + 1 + 1 : Nat) : Int) := by rw [wrap_in (by omega) (by omega)]; rfl
    rw [ltI (by show ((k + 1 : Nat) : Int) < (a.length : Int); omega), cond_true, e1, e2, e3, idxM_lt (by omega : k + 1 < a.length), Option.bind_some, idxM_lt (by omega : k < a.length), Option.bind_some, m45_eq, Option.bind_some, idxM_lt (by omega : k + 1 < b.length), Option.bind_some, idxM_lt (by omega : k < b.length), Option.bind_some, m45_eq, Option.bind_some, m52_eq, Option.bind_some, ← tr_of (l := a) (by omega), ← tr_of (l := b) (by omega)]
    have e4 : er (tr a) (tr b) (k + 1) = er (tr a) (tr b) k + (if tr a k = tr b k then 0 else 1) := rfl
    rw [e4]
    by_cases h : tr a k = tr b k
    · rw [eqI h, if_pos h, Int.add_zero]
      rfl
    · rw [neI h, if_neg h, wrap_in (n := er (tr a) (tr b) k + 1) (by omega) (by omega)]
      rfl
  · dsimp only
    rw [geI (by show (a.length : Int) ≤ ((a.length - 1 + 1 : Nat) : Int); omega), cond_false]
/-! ### bounds of widths -/
def okW (l : List Int) : Prop := ∀ x ∈ l, 1 ≤ x ∧ x ≤ 9999
instance (l : List Int) : Decidable (okW l) := inferInstanceAs (Decidable (∀ x ∈ l, _))
theorem m47_eq (x : Int) : m47 x = some (!decide (1 ≤ x ∧ x ≤ 9999)) := by
  unfold m47
  exact bind_of (m37_eq _ _ _) rfl
/-- A search for the first index. -/
theorem m36_eq (l : List Int) {most : Int} (hm : most ≤ 1000) : m36 (l, most) = some (decide ((2 ≤ (l.length : Int) ∧ (l.length : Int) ≤ most) ∧ okW l)) := by
  unfold m36
  dsimp only
  refine bind_of (m37_eq _ _ _) ?_
  have eN : lenM l = (l.length : Int) := rfl
  rw [eN]
  by_cases h : 2 ≤ (l.length : Int) ∧ (l.length : Int) ≤ most
  · rw [decide_eq_true h, cond_true]
    refine Ans.is (Ans.bind (P := fun o => o = !decide (okW l)) (Ans.bind (P := fun o : Int => 0 ≤ o ↔ ¬ okW l) (Ans.bind (P := fun o : Unit ⊕ Int => match o with | .inl _ => okW l | .inr k => 0 ≤ k ∧ ¬ okW l) ?_ ?_) ?_) ?_)
    · refine Ans.loop (fun k (s : Int) => s = (k : Int) ∧ ∀ x ∈ l.take k, 1 ≤ x ∧ x ≤ 9999) l.length ⟨rfl, fun x hx => (List.not_mem_nil hx).elim⟩ fun k s hk hs => ?_
      obtain ⟨rfl, hs⟩ := hs
      by_cases hlt : k < l.length
      · rw [ltI (by show (k : Int) < (l.length : Int); omega), cond_true, idxM_lt hlt, Option.bind_some, m47_eq, Option.bind_some]
        by_cases hx : 1 ≤ l[k] ∧ l[k] ≤ 9999
        · rw [decide_eq_true hx]
          refine Ans.some ⟨hlt, ?_, fun x h => ?_⟩
          · show IntKind.wrap IntKind.i64 ((k : Int) + 1) = _
            rw [wrap_in (by omega) (by omega)]; rfl
          · rw [List.take_succ_eq_append_getElem hlt] at h
            rcases List.mem_append.1 h with h | h
            · exact hs x h
            · rw [List.mem_singleton.1 h]; exact hx
        · rw [decide_eq_false hx]
          exact Ans.some ⟨by omega, fun hh => hx (hh _ (List.getElem_mem hlt))⟩
      · rw [geI (by show (l.length : Int) ≤ (k : Int); omega), cond_false]
        rw [List.take_of_length_le (by omega)] at hs
        exact Ans.some hs
    · intro o ho
      cases o with
      | inl u =>
        have ho : okW l := ho
        exact Ans.some ⟨fun h => by have h : (0 : Int) ≤ -1 := h; omega, fun h => (h ho).elim⟩
      | inr k => exact Ans.some ⟨fun _ => ho.2, fun _ => ho.1⟩
    · intro o ho
      refine Ans.some ?_
      by_cases hw : okW l
      · rw [decide_eq_true hw]
        exact decide_eq_false fun hh => ho.1 hh hw
      · rw [decide_eq_false hw]
        exact decide_eq_true (ho.2 hw)
    · intro o ho
      subst ho
      refine Ans.some ?_
      show PE.andM true (PE.notM (!decide (okW l))) = _
      rw [andT]
      unfold PE.notM
      rw [Bool.not_not]
      by_cases hw : okW l
      · rw [decide_eq_true hw, decide_eq_true ⟨h, hw⟩]
      · rw [decide_eq_false hw, decide_eq_false fun hh => hw hh.2]
  · rw [decide_eq_false h, cond_false, decide_eq_false fun hh => h hh.1]
    rfl
def vldC (f : Int) (l : List Int) : Prop := ((2 ≤ (l.length : Int) ∧ (l.length : Int) ≤ 200) ∧ okW l) ∧ 0 ≤ f ∧ f ≤ 2101 - l.length
instance (f : Int) (l : List Int) : Decidable (vldC f l) := inferInstanceAs (Decidable (_ ∧ _))
def vldS (l : List Int) : Prop := (2 ≤ (l.length : Int) ∧ (l.length : Int) ≤ 60) ∧ okW l
instance (l : List Int) : Decidable (vldS l) := inferInstanceAs (Decidable (_ ∧ _))
theorem m17_eq (f : Int) (l : List Int) : m17 (f, l) = some (decide (vldC f l)) := by
  unfold m17
  refine bind_of (m36_eq l (by omega)) ?_
  by_cases h : (2 ≤ (l.length : Int) ∧ (l.length : Int) ≤ 200) ∧ okW l
  · rw [decide_eq_true h, cond_true]
    have hl := h.1
    have eN : lenM l = (l.length : Int) := rfl
    rw [eN, wrap_in (n := 2101 - (l.length : Int)) (by omega) (by omega), m37_eq, Option.bind_some, andT]
    refine congrArg some (Bool.eq_iff_iff.2 ?_)
    rw [decide_eq_true_iff, decide_eq_true_iff]
    exact ⟨fun hh => ⟨h, hh⟩, fun hh => hh.2⟩
  · rw [decide_eq_false h, cond_false, decide_eq_false fun hh => h hh.1]
    rfl
theorem m25_eq (l : List Int) : m25 l = some (decide (vldS l)) := by
  unfold m25
  exact bind_of (m36_eq l (by omega)) rfl
/-- A part of the trends. -/
theorem tr_part {c : List Int} {p n i : Nat} (hi : i + 1 < n) (hn : p + n ≤ c.length) : tr ((c.take (p + n)).drop p) i = tr c (p + i) := by
  have h1 : ∀ j, j < n → ((c.take (p + n)).drop p)[j]? = c[p + j]? := fun j hj => by
    rw [List.getElem?_drop, List.getElem?_take, if_pos (by omega)]
  unfold tr
  rw [h1 i (by omega), h1 (i + 1) hi]
  rfl
theorem slice_of {c : List Int} {p n : Nat} (hn : p + n ≤ c.length) : sliceM c (p : Int) ((p : Int) + (n : Int)) = some ((c.take (p + n)).drop p) := by
  rw [sliceM_of (by omega) (by omega) (by omega)]
  have e : ((p : Int) + (n : Int)).toNat = p + n := by omega
  rw [e, Int.toNat_natCast]
/-- What Errors returns at a place of the chronology. -/
theorem m27_eq {f : Int} {c l : List Int} {p : Nat} (hc : vldC f c) (hl : vldS l) (hp : p + l.length ≤ c.length) : m27 ((f, c), l, (p : Int)) = some (er (tr l) (fun i => tr c (p + i)) (l.length - 1), 0) := by
  have b1 := hc.1.1
  have b2 := hl.1
  unfold m27
  dsimp only
  have e1 : IntKind.wrap IntKind.i64 (lenM c - lenM l) = (c.length : Int) - l.length := wrap_in (by show _ ≤ (c.length : Int) - (l.length : Int); omega) (by show (c.length : Int) - (l.length : Int) ≤ _; omega)
  have e2 : IntKind.wrap IntKind.i64 ((p : Int) + lenM l) = (p : Int) + (l.length : Int) := wrap_in (by show _ ≤ (p : Int) + (l.length : Int); omega) (by show (p : Int) + (l.length : Int) ≤ _; omega)
  rw [m17_eq, Option.bind_some, decide_eq_true hc, notT, notF, cond_true, m25_eq, Option.bind_some, decide_eq_true hl, notT, orF, notF, cond_true, e1, m37_eq, Option.bind_some, decide_eq_true ⟨by omega, by omega⟩, notT, orF, cond_false, e2, slice_of hp, Option.bind_some]
  have hlen : ((c.take (p + l.length)).drop p).length = l.length := by rw [List.length_drop, List.length_take]; omega
  rw [m41_eq (by omega) (by omega) (by omega), Option.bind_some, er_congr (n := l.length - 1) (fun i hi => rfl) (g' := fun i => tr c (p + i)) fun i hi => tr_part (by omega) hp]
end Go.Proofs.Ytblachgndbmhaaa
/-
  Ring: the chronologies, parts and spoiled parts that integers determine.
  No conditions.
-/
namespace Go.Proofs.Ytblachgndbmhaaa
open Go Go.Abs Go.PE
set_option linter.unusedVariables false
/-- Series: how many widths, and that they are within bounds. -/
theorem m15_ok {x : List Int} {least : Int} (hx : ∀ v ∈ x, i64 v) (hl : 0 ≤ least ∧ least ≤ 80) : Ans (m15 (x, least)) fun l => (∀ v ∈ l, 100 ≤ v ∧ v ≤ 139) ∧ least ≤ l.length ∧ l.length ≤ 80 ∧ ((l.length : Int) ≤ least ∨ l.length ≤ x.length) := by
  unfold m15
  dsimp only
  refine Ans.bind (P := fun l : List Int => (∀ v ∈ l, 100 ≤ v ∧ v ≤ 139) ∧ least ≤ l.length ∧ l.length ≤ 80 ∧ ((l.length : Int) ≤ least ∨ l.length ≤ x.length)) ?_ fun o h => Ans.some h
  refine Ans.loop (fun k (s : Int × List Int) => s.1 = (k : Int) ∧ s.2.length = k ∧ (∀ v ∈ s.2, 100 ≤ v ∧ v ≤ 139) ∧ ((k : Int) ≤ least ∨ k ≤ x.length)) 80 ⟨rfl, rfl, fun v hv => (List.not_mem_nil hv).elim, .inl hl.1⟩ fun k s hk hs => ?_
  obtain ⟨i, l⟩ := s
  obtain ⟨h1, h2, h3, h4⟩ := hs
  simp only at h1 h2 h3 h4
  subst h1
  dsimp only
  by_cases hc : (k : Int) < least ∨ ((k : Int) < (x.length : Int) ∧ (k : Int) < 80)
  · have e : PE.orM (ltM (k : Int) least) (PE.andM (ltM (k : Int) (lenM x)) (ltM (k : Int) 80)) = true := by
      unfold PE.orM PE.andM
      simp only [Bool.or_eq_true, Bool.and_eq_true, decide_eq_true_eq]
      exact hc
    rw [e, cond_true]
    refine Ans.bind (P := fun o : Int => i64 o) ?_ fun o ho => ?_
    · by_cases hk2 : k < x.length
      · rw [ltI (by show (k : Int) < (x.length : Int); omega), cond_true, idxM_lt hk2]
        exact Ans.some (hx _ (List.getElem_mem hk2))
      · rw [geI (by show (x.length : Int) ≤ (k : Int); omega), cond_false, wrap_in (by omega) (by omega)]
        exact Ans.some (by unfold i64; omega)
    · have p1 := pk_lo (c := o) (n := 40) (by omega)
      have p2 := pk_hi (c := o) (n := 40) (by omega)
      have e2 : IntKind.wrap IntKind.i64 ((k : Int) + 1) = ((k + 1 : Nat) : Int) := by rw [wrap_in (by omega) (by omega)]; rfl
      rw [m35_eq ho (by omega), Option.bind_some, wrap_in (n := 100 + pk o 40) (by omega) (by omega), appM_of (by show (l.length + 1) * 8 ≤ 140737488355328; omega), Option.bind_some, e2]
      refine Ans.some ⟨by omega, rfl, by show (l ++ _).length = _; rw [List.length_append, h2]; rfl, fun v hv => ?_, by omega⟩
      rcases List.mem_append.1 hv with hv | hv
      · exact h3 v hv
      · rw [List.mem_singleton.1 hv]; omega
  · have e : PE.orM (ltM (k : Int) least) (PE.andM (ltM (k : Int) (lenM x)) (ltM (k : Int) 80)) = false := by
      unfold PE.orM PE.andM
      simp only [Bool.or_eq_false_iff, Bool.and_eq_false_iff, decide_eq_false_iff_not]
      have : lenM x = (x.length : Int) := rfl
      omega
    rw [e, cond_false]
    exact Ans.some ⟨h3, by omega, by omega, by show (l.length : Int) ≤ least ∨ l.length ≤ x.length; omega⟩
/-- Made: a chronology. -/
theorem m12_ok {f : Int} {x : List Int} (hf : i64 f) (hx : ∀ v ∈ x, i64 v) : Ans (m12 (f, x)) fun c => c.1 = pk f 1900 ∧ (∀ v ∈ c.2, 100 ≤ v ∧ v ≤ 139) ∧ 30 ≤ c.2.length ∧ c.2.length ≤ 80 := by
  unfold m12
  refine Ans.seq (m35_eq hf (by omega)) (Ans.bind (m15_ok hx (by omega)) fun l hl => Ans.some ⟨rfl, hl.1, ?_, hl.2.2.1⟩)
  show 30 ≤ l.length
  omega
theorem made_ok {f : Int} {c : List Int} (hf : 0 ≤ f ∧ f ≤ 2000) (h1 : ∀ v ∈ c, 80 ≤ v ∧ v ≤ 9999) (h2 : 2 ≤ c.length) (h3 : c.length ≤ 100) : vldC f c := ⟨⟨by omega, fun v hv => by have := h1 v hv; omega⟩, by omega⟩
theorem samp_ok {l : List Int} (h1 : ∀ v ∈ l, 80 ≤ v ∧ v ≤ 9999) (h2 : 2 ≤ l.length) (h3 : l.length ≤ 60) : vldS l := ⟨by omega, fun v hv => by have := h1 v hv; omega⟩
/-- Part: a part and its place. -/
theorem m13_ok {f : Int} {c : List Int} {a m : Int} (h1 : 30 ≤ c.length) (h2 : c.length ≤ 80) (ha : i64 a) (hm : i64 m) : ∃ n p : Nat, 3 ≤ n ∧ n ≤ 22 ∧ p + n ≤ c.length ∧ m13 ((f, c), a, m) = some ((c.take (p + n)).drop p, (p : Int)) := by
  have p1 := pk_lo (c := m) (n := 20) (by omega)
  have p2 := pk_hi (c := m) (n := 20) (by omega)
  obtain ⟨n, hn⟩ := Int.eq_ofNat_of_zero_le (show 0 ≤ 3 + pk m 20 by omega)
  have p3 := pk_lo (c := a) (n := (c.length : Int) - n + 1) (by omega)
  have p4 := pk_hi (c := a) (n := (c.length : Int) - n + 1) (by omega)
  obtain ⟨p, hp⟩ := Int.eq_ofNat_of_zero_le p3
  refine ⟨n, p, by omega, by omega, by omega, ?_⟩
  unfold m13
  refine bind_of (m35_eq hm (by omega)) ?_
  have eN : lenM c = (c.length : Int) := rfl
  dsimp only
  rw [eN, wrap_in (n := 3 + pk m 20) (by omega) (by omega), hn, wrap_in (n := (c.length : Int) - (n : Int)) (by omega) (by omega), wrap_in (n := (c.length : Int) - (n : Int) + 1) (by omega) (by omega)]
  refine bind_of (m35_eq ha (by omega)) ?_
  rw [hp, wrap_in (n := (p : Int) + (n : Int)) (by omega) (by omega), slice_of (by omega), Option.bind_some, appM_of (by
    show (0 + _) * 8 ≤ 140737488355328
    rw [List.length_drop, List.length_take]; omega), Option.bind_some]
  rfl
theorem part_len {c : List Int} {p n : Nat} (h : p + n ≤ c.length) : ((c.take (p + n)).drop p).length = n := by rw [List.length_drop, List.length_take]; omega
theorem part_mem {c : List Int} {p n : Nat} {v : Int} (h : v ∈ (c.take (p + n)).drop p) : v ∈ c := List.mem_of_mem_take (List.mem_of_mem_drop h)
theorem setM_of {α : Type} {l : List α} {i : Nat} {f : α → Option α} {y : α} (hi : i < l.length) (hy : f l[i] = some y) : setM l (i : Int) f = some (l.set i y) := by
  unfold setM
  rw [idxM_lt hi]
  simp [hy]
/-- Spoiled: as many widths, within bounds. -/
theorem m16_ok {l : List Int} {x : List (Int × Int)} (hl : l.length ≤ 1000) (hl0 : 1 ≤ l.length) (hv : ∀ v ∈ l, 80 ≤ v ∧ v ≤ 159) (hx : ∀ c ∈ x, i64 c.1 ∧ i64 c.2) : Ans (m16 (l, x)) fun o => o.length = l.length ∧ ∀ v ∈ o, 80 ≤ v ∧ v ≤ 159 := by
  unfold m16
  refine Ans.seq (appM_of (by show (0 + l.length) * 8 ≤ 140737488355328; omega)) ?_
  rw [List.nil_append]
  refine Ans.bind (P := fun o : List Int => o.length = l.length ∧ ∀ v ∈ o, 80 ≤ v ∧ v ≤ 159) ?_ fun o h => Ans.some h
  refine Ans.loop (fun k (s : Int × List Int) => s.1 = (k : Int) ∧ s.2.length = l.length ∧ ∀ v ∈ s.2, 80 ≤ v ∧ v ≤ 159) 6 ⟨rfl, rfl, hv⟩ fun k s hk hs => ?_
  obtain ⟨i, o⟩ := s
  obtain ⟨h1, h2, h3⟩ := hs
  simp only at h1 h2 h3
  subst h1
  dsimp only
  by_cases hc : (k : Int) < (x.length : Int) ∧ (k : Int) < 6
  · have e : PE.andM (ltM (k : Int) (lenM x)) (ltM (k : Int) 6) = true := by
      unfold PE.andM
      simp only [Bool.and_eq_true, decide_eq_true_eq]
      exact hc
    have hk2 : k < x.length := by omega
    have hxk := hx _ (List.getElem_mem hk2)
    have hN : (0 : Int) < lenM o := by show (0 : Int) < (o.length : Int); omega
    have p1 := pk_lo (c := x[k].1) hN
    have p2 := pk_hi (c := x[k].1) hN
    have p3 := pk_lo (c := x[k].2) (n := 80) (by omega)
    have p4 := pk_hi (c := x[k].2) (n := 80) (by omega)
    have e2 : IntKind.wrap IntKind.i64 ((k : Int) + 1) = ((k + 1 : Nat) : Int) := by rw [wrap_in (by omega) (by omega)]; rfl
    rw [e, cond_true, idxM_lt hk2, Option.bind_some, m35_eq hxk.1 hN, Option.bind_some, Option.bind_some, m35_eq hxk.2 (by omega), Option.bind_some, wrap_in (n := 80 + pk x[k].2 80) (by omega) (by omega), e2]
    obtain ⟨j, hj⟩ := Int.eq_ofNat_of_zero_le p1
    rw [hj] at p2 ⊢
    have hjo : j < o.length := by
      have p2 : (j : Int) < (o.length : Int) := p2
      omega
    have hch : chkM (j : Int) (lenM o) = some () := by
      unfold chkM
      rw [decide_eq_true (by omega), decide_eq_true p2]
    rw [hch, Option.bind_some, setM_of (f := fun _ => some (80 + pk x[k].2 80)) hjo rfl, Option.bind_some]
    refine Ans.some ⟨by omega, rfl, by show (o.set j _).length = _; rw [List.length_set, h2], fun v hvv => ?_⟩
    rcases List.mem_or_eq_of_mem_set hvv with hvv | rfl
    · exact h3 v hvv
    · omega
  · have e : PE.andM (ltM (k : Int) (lenM x)) (ltM (k : Int) 6) = false := by
      unfold PE.andM
      simp only [Bool.and_eq_false_iff, decide_eq_false_iff_not]
      have : lenM x = (x.length : Int) := rfl
      omega
    rw [e, cond_false]
    exact Ans.some ⟨h2, h3⟩
/-- What all laws begin with. -/
theorem start_ok {f : Int} {x : List Int} {a m : Int} {bs : List (Int × Int)} (hf : i64 f) (hx : ∀ v ∈ x, i64 v) (ha : i64 a) (hm : i64 m) (hb : ∀ c ∈ bs, i64 c.1 ∧ i64 c.2) :
    ∃ (c l : List Int) (n p : Nat), m12 (f, x) = some (pk f 1900, c) ∧ m13 ((pk f 1900, c), a, m) = some ((c.take (p + n)).drop p, (p : Int)) ∧ m16 ((c.take (p + n)).drop p, bs) = some l ∧
    (0 ≤ pk f 1900 ∧ pk f 1900 < 1900) ∧ (30 ≤ c.length ∧ c.length ≤ 80) ∧ (∀ v ∈ c, 100 ≤ v ∧ v ≤ 139) ∧ (3 ≤ n ∧ n ≤ 22) ∧ p + n ≤ c.length ∧ l.length = n ∧ ∀ v ∈ l, 80 ≤ v ∧ v ≤ 159 := by
  obtain ⟨⟨f', c⟩, e1, h1, h2, h3, h4⟩ := m12_ok hf hx
  simp only at h1 h2 h3 h4
  subst h1
  obtain ⟨n, p, n1, n2, n3, e2⟩ := m13_ok (f := pk f 1900) h3 h4 ha hm
  have hlen := part_len n3
  obtain ⟨l, e3, l1, l2⟩ := m16_ok (l := (c.take (p + n)).drop p) (x := bs) (by omega) (by omega) (fun v hv => by have := h2 v (part_mem hv); omega) hb
  exact ⟨c, l, n, p, e1, e2, e3, ⟨pk_lo (by omega), pk_hi (by omega)⟩, ⟨h3, h4⟩, h2, ⟨n1, n2⟩, n3, by omega, l2⟩
end Go.Proofs.Ytblachgndbmhaaa
/-
  Ring: the law RingDivides.
  No conditions.
-/
namespace Go.Proofs.Ytblachgndbmhaaa
open Go Go.Abs Go.PE
set_option linter.unusedVariables false
theorem slice_to {c : List Int} {n : Nat} {z : Int} (hz : z = (n : Int)) (hn : n ≤ c.length) : sliceM c 0 z = some (c.take n) := by
  subst hz
  rw [sliceM_of (Int.le_refl _) (by omega) (by omega), Int.toNat_natCast]
  rfl
theorem slice_from {c : List Int} {p : Nat} (hn : p ≤ c.length) : sliceM c (p : Int) (lenM c) = some (c.drop p) := by
  have e : lenM c = (c.length : Int) := rfl
  rw [e, sliceM_of (by omega) (by omega) (Int.le_refl _), Int.toNat_natCast, Int.toNat_natCast, List.take_length]
theorem tr_take {c : List Int} {n i : Nat} (hi : i + 1 < n) : tr (c.take n) i = tr c i := by
  unfold tr
  rw [List.getElem?_take, List.getElem?_take, if_pos hi, if_pos (by omega)]
theorem tr_drop {c : List Int} {k i : Nat} : tr (c.drop k) i = tr c (k + i) := by
  unfold tr
  rw [List.getElem?_drop, List.getElem?_drop]
  rfl
theorem law7_ok (x : Int × List Int × Int × Int × List (Int × Int) × Int × Int) (h1 : i64 x.1) (h2 : ∀ v ∈ x.2.1, i64 v) (h3 : i64 x.2.2.1) (h4 : i64 x.2.2.2.1) (h5 : ∀ c ∈ x.2.2.2.2.1, i64 c.1 ∧ i64 c.2) (h6 : i64 x.2.2.2.2.2.1) (h7 : i64 x.2.2.2.2.2.2) : m7 x = some true := by
  obtain ⟨c, l, n, p, e1, e2, e3, hf, hc, hcv, hn, hpn, hl, hlv⟩ := start_ok h1 h2 h3 h4 h5
  unfold m7
  refine bind_of sane_ok ?_
  rw [notT, cond_false]
  refine bind_of e1 (bind_of e2 (bind_of e3 ?_))
  dsimp only
  have eL : lenM l = (n : Int) := by show (l.length : Int) = n; omega
  have eC : lenM c = (c.length : Int) := rfl
  have hvc : vldC (pk x.1 1900) c := made_ok (by omega) (fun v hv => by have := hcv v hv; omega) (by omega) (by omega)
  have hvl : vldS l := samp_ok (fun v hv => by have := hlv v hv; omega) (by omega) (by omega)
  generalize pk x.1 1900 = f at *
  have p1 := pk_lo (c := x.2.2.2.2.2.1) (n := (n : Int) - 2) (by omega)
  have p2 := pk_hi (c := x.2.2.2.2.2.1) (n := (n : Int) - 2) (by omega)
  have p3 := pk_lo (c := x.2.2.2.2.2.2) (n := (c.length : Int) - n + 1) (by omega)
  have p4 := pk_hi (c := x.2.2.2.2.2.2) (n := (c.length : Int) - n + 1) (by omega)
  obtain ⟨k, hk⟩ := Int.eq_ofNat_of_zero_le (show 0 ≤ 1 + pk x.2.2.2.2.2.1 ((n : Int) - 2) by omega)
  obtain ⟨q, hq⟩ := Int.eq_ofNat_of_zero_le p3
  rw [eL, eC, wrap_in (n := (n : Int) - 2) (by omega) (by omega), wrap_in (n := (c.length : Int) - (n : Int)) (by omega) (by omega), wrap_in (n := (c.length : Int) - (n : Int) + 1) (by omega) (by omega)]
  refine bind_of (m14_eq h6 (by omega)) (bind_of (m14_eq h7 (by omega)) ?_)
  rw [hq, wrap_in (n := 1 + pk x.2.2.2.2.2.1 ((n : Int) - 2)) (by omega) (by omega), hk, wrap_in (n := (k : Int) + 1) (by omega) (by omega), wrap_in (n := (q : Int) + (k : Int)) (by omega) (by omega)]
  have t1 : (l.take (k + 1)).length = k + 1 := by rw [List.length_take]; omega
  have t2 : (l.drop k).length = n - k := by rw [List.length_drop]; omega
  have hv1 : vldS (l.take (k + 1)) := samp_ok (fun v hv => by have := hlv v (List.mem_of_mem_take hv); omega) (by omega) (by omega)
  have hv2 : vldS (l.drop k) := samp_ok (fun v hv => by have := hlv v (List.mem_of_mem_drop hv); omega) (by omega) (by omega)
  refine bind_of (m27_eq hvc hvl (by omega)) (bind_of (slice_to (n := k + 1) (by omega) (by omega)) (bind_of (m27_eq hvc hv1 (by omega)) ?_))
  have hd : sliceM l (k : Int) (n : Int) = some (l.drop k) := by rw [← eL]; exact slice_from (by omega)
  refine bind_of hd ?_
  have e4 : ((q : Int) + (k : Int)) = ((q + k : Nat) : Int) := rfl
  rw [e4]
  refine bind_of (m27_eq hvc hv2 (by omega)) ?_
  dsimp only
  have s1 := er_sz (tr (l.take (k + 1))) (fun i => tr c (q + i)) ((l.take (k + 1)).length - 1)
  have s2 := er_sz (tr (l.drop k)) (fun i => tr c (q + k + i)) ((l.drop k).length - 1)
  have e5 : er (tr l) (fun i => tr c (q + i)) (l.length - 1) = er (tr (l.take (k + 1))) (fun i => tr c (q + i)) ((l.take (k + 1)).length - 1) + er (tr (l.drop k)) (fun i => tr c (q + k + i)) ((l.drop k).length - 1) := by
    rw [show l.length - 1 = k + ((l.drop k).length - 1) by omega, er_add, show (l.take (k + 1)).length - 1 = k by omega]
    refine congr (congrArg _ (er_congr (fun i hi => (tr_take (by omega)).symm) fun i hi => rfl)) (er_congr (fun i hi => tr_drop.symm) fun i hi => ?_)
    show tr c (q + (k + i)) = tr c (q + k + i)
    rw [Nat.add_assoc]
  rw [wrap_in (by omega) (by omega), eqI e5, eqI rfl]
  rfl
end Go.Proofs.Ytblachgndbmhaaa
/-
  Ring: the law RingCrosses.
  No conditions.
-/
namespace Go.Proofs.Ytblachgndbmhaaa
open Go Go.Abs Go.PE
set_option linter.unusedVariables false
/-- What Cross returns. -/
theorem m31_eq {fa fb : Int} {A B : List Int} (ha : vldC fa A) (hb : vldC fb B) {i j k : Nat} (hi : fa + i = max fa fb) (hj : fb + j = max fa fb) (hk : max fa fb + (k : Int) + 1 = min (fa + A.length) (fb + B.length)) (hk1 : 1 ≤ k) :
    m31 ((fa, A), fb, B) = some ((k : Int), er (fun z => tr A (i + z)) (fun z => tr B (j + z)) k, 0) := by
  have a1 := ha.1.1
  have a2 := ha.2
  have b1 := hb.1.1
  have b2 := hb.2
  have eA : lenM A = (A.length : Int) := rfl
  have eB : lenM B = (B.length : Int) := rfl
  unfold m31
  dsimp only
  rw [m17_eq, Option.bind_some, decide_eq_true ha, notT, notF, cond_true, m17_eq, Option.bind_some, decide_eq_true hb, notT, orF, cond_false, eA, eB, wrap_in (n := fa + (A.length : Int)) (by omega) (by omega), wrap_in (n := fb + (B.length : Int)) (by omega) (by omega), ← hk]
  have w1 : IntKind.wrap IntKind.i64 (max fa fb + (k : Int) + 1 - max fa fb) = (k : Int) + 1 := by rw [wrap_in (by omega) (by omega)]; omega
  have w2 : IntKind.wrap IntKind.i64 (max fa fb - fa) = (i : Int) := by rw [wrap_in (by omega) (by omega)]; omega
  have w3 : IntKind.wrap IntKind.i64 (max fa fb - fb) = (j : Int) := by rw [wrap_in (by omega) (by omega)]; omega
  have w4 : IntKind.wrap IntKind.i64 (max fa fb + (k : Int) + 1 - fa) = (i : Int) + ((k + 1 : Nat) : Int) := by rw [wrap_in (by omega) (by omega)]; omega
  have w5 : IntKind.wrap IntKind.i64 (max fa fb + (k : Int) + 1 - fb) = (j : Int) + ((k + 1 : Nat) : Int) := by rw [wrap_in (by omega) (by omega)]; omega
  have hA : i + (k + 1) ≤ A.length := by omega
  have hB : j + (k + 1) ≤ B.length := by omega
  have w6 : IntKind.wrap IntKind.i64 ((k : Int) + 1 - 1) = (k : Int) := by rw [wrap_in (by omega) (by omega)]; omega
  rw [w1, w2, w3, w4, w5, geI (by omega), cond_false, slice_of hA, Option.bind_some, slice_of hB, Option.bind_some, w6]
  have l1 := part_len hA
  have l2 := part_len hB
  rw [m41_eq (by omega) (by omega) (by omega), Option.bind_some, l1]
  rw [show k + 1 - 1 = k by omega, er_congr (n := k) (f' := fun z => tr A (i + z)) (g' := fun z => tr B (j + z)) (fun z hz => tr_part (by omega) hA) (fun z hz => tr_part (by omega) hB)]
theorem m31_none {fa fb : Int} {A B : List Int} (ha : vldC fa A) (hb : vldC fb B) (h : min (fa + A.length) (fb + B.length) - max fa fb < 2) : m31 ((fa, A), fb, B) = some (0, 0, 0) := by
  have a1 := ha.1.1
  have a2 := ha.2
  have b1 := hb.1.1
  have b2 := hb.2
  have eA : lenM A = (A.length : Int) := rfl
  have eB : lenM B = (B.length : Int) := rfl
  unfold m31
  dsimp only
  rw [m17_eq, Option.bind_some, decide_eq_true ha, notT, notF, cond_true, m17_eq, Option.bind_some, decide_eq_true hb, notT, orF, cond_false, eA, eB, wrap_in (n := fa + (A.length : Int)) (by omega) (by omega), wrap_in (n := fb + (B.length : Int)) (by omega) (by omega), wrap_in (n := min (fa + (A.length : Int)) (fb + (B.length : Int)) - max fa fb) (by omega) (by omega), ltI h, cond_true]
/-- Errors of a window. -/
theorem er_win (f g : Nat → Int) {a k N : Nat} (h : a + k ≤ N) : er (fun z => f (a + z)) (fun z => g (a + z)) k ≤ er f g N := by
  obtain ⟨r, rfl⟩ := Nat.exists_eq_add_of_le h
  rw [Nat.add_assoc, er_add]
  have h1 := er_mono (fun z => f (a + z)) (fun z => g (a + z)) k r
  have h2 := er_sz f g a
  omega
theorem law9_ok (x : Int × List Int × (Int × Int) × (Int × Int) × List (Int × Int) × List (Int × Int)) (h1 : i64 x.1) (h2 : ∀ v ∈ x.2.1, i64 v) (h3 : i64 x.2.2.1.1 ∧ i64 x.2.2.1.2) (h4 : i64 x.2.2.2.1.1 ∧ i64 x.2.2.2.1.2) (h5 : ∀ c ∈ x.2.2.2.2.1, i64 c.1 ∧ i64 c.2) (h6 : ∀ c ∈ x.2.2.2.2.2, i64 c.1 ∧ i64 c.2) : m9 x = some true := by
  obtain ⟨c, A, n, p, e1, e2, e3, hf, hc, hcv, hn, hpn, hl, hlv⟩ := start_ok h1 h2 h3.1 h4.1 h5
  obtain ⟨c', B, m, q, e1', e2', e3', _, _, _, hm, hqm, hlB, hBv⟩ := start_ok h1 h2 h3.2 h4.2 h6
  have ec : c' = c := by
    rw [e1] at e1'
    exact (Prod.mk.inj (Option.some.inj e1')).2.symm
  subst ec
  unfold m9
  refine bind_of sane_ok ?_
  rw [notT, cond_false]
  refine bind_of e1 (bind_of e2 (bind_of e2' (bind_of e3 (bind_of e3' ?_))))
  dsimp only
  have hvc : vldC (pk x.1 1900) c' := made_ok (by omega) (fun v hv => by have := hcv v hv; omega) (by omega) (by omega)
  have hvA : vldS A := samp_ok (fun v hv => by have := hlv v hv; omega) (by omega) (by omega)
  have hvB : vldS B := samp_ok (fun v hv => by have := hBv v hv; omega) (by omega) (by omega)
  generalize pk x.1 1900 = f at *
  have hcA : vldC (f + p) A := made_ok (by omega) (fun v hv => by have := hlv v hv; omega) (by omega) (by omega)
  have hcB : vldC (f + q) B := made_ok (by omega) (fun v hv => by have := hBv v hv; omega) (by omega) (by omega)
  have s1 := er_sz (tr A) (fun i => tr c' (p + i)) (A.length - 1)
  have s2 := er_sz (tr B) (fun i => tr c' (q + i)) (B.length - 1)
  refine bind_of (m27_eq hvc hvA (by omega)) (bind_of (m27_eq hvc hvB (by omega)) ?_)
  have eA : lenM A = (A.length : Int) := rfl
  have eB : lenM B = (B.length : Int) := rfl
  rw [wrap_in (n := f + (p : Int)) (by omega) (by omega), wrap_in (n := f + (q : Int)) (by omega) (by omega)]
  dsimp only
  rw [eA, eB, wrap_in (n := (p : Int) + (A.length : Int)) (by omega) (by omega), wrap_in (n := (q : Int) + (B.length : Int)) (by omega) (by omega), wrap_in (n := min ((p : Int) + (A.length : Int)) ((q : Int) + (B.length : Int)) - max (p : Int) (q : Int)) (by omega) (by omega), wrap_in (n := min ((p : Int) + (A.length : Int)) ((q : Int) + (B.length : Int)) - max (p : Int) (q : Int) - 1) (by omega) (by omega), wrap_in (n := er (tr A) (fun i => tr c' (p + i)) (A.length - 1) + er (tr B) (fun i => tr c' (q + i)) (B.length - 1)) (by omega) (by omega)]
  by_cases hs : min ((p : Int) + (A.length : Int)) ((q : Int) + (B.length : Int)) - max (p : Int) (q : Int) < 2
  · refine bind_of (m31_none hcA hcB (by omega)) (bind_of (m31_none hcB hcA (by omega)) ?_)
    dsimp only
    rw [eqI rfl, leI (by omega), leI (Int.le_refl _), eqI (show (0 : Int) = max 0 _ by omega)]
    rfl
  · obtain ⟨k, hk⟩ := Int.eq_ofNat_of_zero_le (show 0 ≤ min ((p : Int) + (A.length : Int)) ((q : Int) + (B.length : Int)) - max (p : Int) (q : Int) - 1 by omega)
    refine bind_of (m31_eq hcA hcB (i := max p q - p) (j := max p q - q) (k := k) (by omega) (by omega) (by omega) (by omega)) (bind_of (m31_eq hcB hcA (i := max p q - q) (j := max p q - p) (k := k) (by omega) (by omega) (by omega) (by omega)) ?_)
    dsimp only
    have t1 := er_sz (fun z => tr A (max p q - p + z)) (fun z => tr B (max p q - q + z)) k
    have t2 := er_tri (fun z => tr A (max p q - p + z)) (fun z => tr c' (max p q + z)) (fun z => tr B (max p q - q + z)) k
    have t3 : er (fun z => tr A (max p q - p + z)) (fun z => tr c' (max p q + z)) k ≤ er (tr A) (fun i => tr c' (p + i)) (A.length - 1) := by
      have h := er_win (tr A) (fun i => tr c' (p + i)) (a := max p q - p) (k := k) (N := A.length - 1) (by omega)
      have e : er (fun z => tr A (max p q - p + z)) (fun z => tr c' (p + (max p q - p + z))) k = er (fun z => tr A (max p q - p + z)) (fun z => tr c' (max p q + z)) k := er_congr (fun i hi => rfl) fun i hi => by
        show tr c' (p + (max p q - p + i)) = tr c' (max p q + i)
        congr 1; omega
      rw [← e]; exact h
    have t4 : er (fun z => tr c' (max p q + z)) (fun z => tr B (max p q - q + z)) k ≤ er (tr B) (fun i => tr c' (q + i)) (B.length - 1) := by
      rw [er_comm]
      have h := er_win (tr B) (fun i => tr c' (q + i)) (a := max p q - q) (k := k) (N := B.length - 1) (by omega)
      have e : er (fun z => tr B (max p q - q + z)) (fun z => tr c' (q + (max p q - q + z))) k = er (fun z => tr B (max p q - q + z)) (fun z => tr c' (max p q + z)) k := er_congr (fun i hi => rfl) fun i hi => by
        show tr c' (q + (max p q - q + i)) = tr c' (max p q + i)
        congr 1; omega
      rw [← e]; exact h
    rw [er_comm (fun z => tr B (max p q - q + z)) (fun z => tr A (max p q - p + z)) k, eqI (show (k : Int) = max 0 _ by omega), leI t1.2, leI (Int.le_trans t2 (Int.add_le_add t3 t4)), eqI rfl, eqI rfl, eqI rfl]
    rfl
end Go.Proofs.Ytblachgndbmhaaa
/-
  Ring: Match and Dated as the model computes them.
  No conditions.
-/
namespace Go.Proofs.Ytblachgndbmhaaa
open Go Go.Abs Go.PE Go.Sort
open Go.Proofs (ltOf)
set_option linter.unusedVariables false
abbrev Sp := Int × Int
/-- The order of positions. -/
def spLt (x y : Sp) : Prop := x.2 < y.2 ∨ (x.2 = y.2 ∧ x.1 < y.1)
theorem sorted_ok {xs : List Sp} (hin : ∀ q ∈ xs, i64 q.1 ∧ i64 q.2) (hl : xs.length ≤ 100000) : ∃ ys : List Sp, sortM (Ty.pair (Ty.int IntKind.i64) (Ty.int IntKind.i64)) cf43 xs = some ys ∧ ys.Perm xs ∧ ∀ i j (hij : i < j) (hj : j < ys.length), ¬ spLt ys[j] (ys[i]'(Nat.lt_trans hij hj)) := by
  have hs := Go.Sort.pdq_sorts (ltOf (cmpC (Ty.pair (Ty.int IntKind.i64) (Ty.int IntKind.i64)) cf43)) (swo_cmpC swo43) xs.toArray 0 xs.length (Lib.bitLen xs.length) true true (Nat.zero_le _) (by simp) (Or.inl rfl)
  have key : ∀ d : Array Sp, PermIn 0 xs.length xs.toArray d ∧ SortedIn (ltOf (cmpC (Ty.pair (Ty.int IntKind.i64) (Ty.int IntKind.i64)) cf43)) 0 xs.length d → d.toList.Perm xs ∧ ∀ i j (hij : i < j) (hj : j < d.toList.length), ¬ spLt d.toList[j] (d.toList[i]'(Nat.lt_trans hij hj)) := fun d hs => by
    obtain ⟨⟨h1, _, h3⟩, h4⟩ := hs
    have hsz : d.size = xs.length := by simpa using h1
    have hp : d.toList.Perm xs := by
      have e1 : d.extract 0 xs.length = d := by rw [← hsz]; simp
      have e2 : xs.toArray.extract 0 xs.length = xs.toArray := by simp
      rw [e1, e2] at h3
      simpa using h3
    refine ⟨hp, fun i j hij hj => ?_⟩
    have hj' : j < d.size := by simpa using hj
    have h5 := h4 i j (Nat.zero_le _) hij (by omega)
    rw [getElem!_pos d j hj', getElem!_pos d i (by omega)] at h5
    have m1 := hin _ (hp.mem_iff.1 (List.getElem_mem (show i < d.toList.length from Nat.lt_trans hij hj)))
    have m2 := hin _ (hp.mem_iff.1 (List.getElem_mem hj))
    have g1 : d.toList[i]'(Nat.lt_trans hij hj) = d[i]'(by omega) := Array.getElem_toList ..
    have g2 : d.toList[j] = d[j] := Array.getElem_toList ..
    rw [g1] at m1 ⊢
    rw [g2] at m2 ⊢
    have e : ltOf (cmpC (Ty.pair (Ty.int IntKind.i64) (Ty.int IntKind.i64)) cf43) d[j] (d[i]'(by omega)) = ltOf cf43 (clampT (Ty.pair (Ty.int IntKind.i64) (Ty.int IntKind.i64)) d[j]) (clampT (Ty.pair (Ty.int IntKind.i64) (Ty.int IntKind.i64)) (d[i]'(by omega))) := rfl
    rw [e, lt43] at h5
    have h5 := of_decide_eq_false h5
    have w1 : (clampT (Ty.pair (Ty.int IntKind.i64) (Ty.int IntKind.i64)) d[j]) = d[j] := Prod.ext (wrap_in m2.1.1 m2.1.2) (wrap_in m2.2.1 m2.2.2)
    have w2 : (clampT (Ty.pair (Ty.int IntKind.i64) (Ty.int IntKind.i64)) (d[i]'(by omega))) = (d[i]'(by omega)) := Prod.ext (wrap_in m1.1.1 m1.1.2) (wrap_in m1.2.1 m1.2.2)
    rw [w1, w2] at h5
    exact h5
  unfold sortM
  rw [decide_eq_true (by omega)]
  exact ⟨_, rfl, key _ hs⟩
/-- All places with their errors. -/
def spots (E : Nat → Int) (M : Nat) : List Sp := (List.range M).map fun (p : Nat) => ((p : Int), E p)
theorem spots_len (E : Nat → Int) (M : Nat) : (spots E M).length = M := by unfold spots; rw [List.length_map, List.length_range]
theorem spots_mem {E : Nat → Int} {M : Nat} {y : Sp} : y ∈ spots E M ↔ ∃ p, p < M ∧ y = ((p : Int), E p) := by
  unfold spots
  rw [List.mem_map]
  constructor
  · rintro ⟨p, hp, rfl⟩
    exact ⟨p, List.mem_range.1 hp, rfl⟩
  · rintro ⟨p, hp, rfl⟩
    exact ⟨p, List.mem_range.2 hp, rfl⟩
theorem spots_succ (E : Nat → Int) (M : Nat) : spots E (M + 1) = spots E M ++ [((M : Int), E M)] := by
  unfold spots
  rw [List.range_succ, List.map_append]
  rfl
theorem spots_nodup (E : Nat → Int) : ∀ M, (spots E M).Nodup
  | 0 => List.nodup_nil
  | M + 1 => by
    rw [spots_succ, List.nodup_append]
    refine ⟨spots_nodup E M, by simp, fun a ha b hb e => ?_⟩
    obtain ⟨p, hp, rfl⟩ := spots_mem.1 ha
    rw [List.mem_singleton.1 hb] at e
    have := (Prod.mk.inj e).1
    omega
def errs (c l : List Int) (p : Nat) : Int := er (tr l) (fun i => tr c (p + i)) (l.length - 1)
theorem m22_eq {f : Int} {c l : List Int} (hc : vldC f c) (hl : vldS l) : m22 ((f, c), l) = Option.bind (sortM (Ty.pair (Ty.int IntKind.i64) (Ty.int IntKind.i64)) cf43 (spots (errs c l) (c.length + 1 - l.length))) fun r => some (r, 0) := by
  have b1 := hc.1.1
  have b2 := hl.1
  unfold m22
  dsimp only
  rw [m17_eq, Option.bind_some, decide_eq_true hc, notT, notF, cond_true, m25_eq, Option.bind_some, decide_eq_true hl, notT, orF, cond_false]
  refine bind_of (x := spots (errs c l) (c.length + 1 - l.length)) (count_loop (fun k => spots (errs c l) k) (c.length + 1 - l.length) (fun k hk => ?_) ?_) rfl
  · dsimp only
    have eL : lenM l = (l.length : Int) := rfl
    have hkl : k + l.length ≤ c.length := by omega
    rw [eL, wrap_in (n := (k : Int) + (l.length : Int)) (by omega) (by omega), leI (by show (k : Int) + (l.length : Int) ≤ (c.length : Int); omega), cond_true, slice_of hkl, Option.bind_some, m41_eq (by omega) (by omega) (by rw [part_len hkl]; exact Nat.le_refl _), Option.bind_some, er_congr (n := l.length - 1) (fun i hi => rfl) (g' := fun i => tr c (k + i)) fun i hi => tr_part (by omega) hkl, appM_of (by rw [spots_len]; show (k + 1) * 16 ≤ _; omega), Option.bind_some, wrap_in (by omega) (by omega), spots_succ]
    rfl
  · dsimp only
    have eL : lenM l = (l.length : Int) := rfl
    rw [eL, wrap_in (by omega) (by omega), gtI (by show (c.length : Int) < ((c.length + 1 - l.length : Nat) : Int) + (l.length : Int); omega), cond_false]
theorem errs_sz (c l : List Int) (p : Nat) : 0 ≤ errs c l p ∧ errs c l p ≤ (l.length : Int) := by
  have := er_sz (tr l) (fun i => tr c (p + i)) (l.length - 1)
  unfold errs
  omega
theorem match_ok {f : Int} {c l : List Int} (hc : vldC f c) (hl : vldS l) : ∃ ys : List Sp, m22 ((f, c), l) = some (ys, 0) ∧ ys.Perm (spots (errs c l) (c.length + 1 - l.length)) ∧ ∀ i j (hij : i < j) (hj : j < ys.length), ¬ spLt ys[j] (ys[i]'(Nat.lt_trans hij hj)) := by
  have b1 := hc.1.1
  have b2 := hl.1
  obtain ⟨ys, h1, h2, h3⟩ := sorted_ok (xs := spots (errs c l) (c.length + 1 - l.length)) (fun q hq => by
    obtain ⟨p, hp, rfl⟩ := spots_mem.1 hq
    have := errs_sz c l p
    unfold i64
    dsimp only
    omega) (by rw [spots_len]; omega)
  exact ⟨ys, by rw [m22_eq hc hl, h1]; rfl, h2, h3⟩
/-- What Dated returns. -/
theorem m29_ok {f : Int} {c l : List Int} {mg : Int} (hc : vldC f c) (hl : vldS l) (hle : l.length ≤ c.length) (hm : 1 ≤ mg ∧ mg ≤ 60) : ∃ r, m29 ((f, c), l, mg) = some r ∧
    ((∃ p : Nat, p < c.length + 1 - l.length ∧ r = (f + p, true, 0) ∧ ∀ q, q < c.length + 1 - l.length → q ≠ p → errs c l p + mg ≤ errs c l q) ∨
      (r = (0, false, 0) ∧ ∀ p, p < c.length + 1 - l.length → ∃ q, q < c.length + 1 - l.length ∧ q ≠ p ∧ errs c l q < errs c l p + mg)) := by
  have b1 := hc.1.1
  have b2 := hl.1
  have b3 := hc.2
  obtain ⟨ys, e1, e2, e3⟩ := match_ok hc hl
  have hM : ys.length = c.length + 1 - l.length := by rw [e2.length_eq, spots_len]
  have hmem : ∀ {y : Sp}, y ∈ ys ↔ ∃ p, p < c.length + 1 - l.length ∧ y = ((p : Int), errs c l p) := fun {y} => e2.mem_iff.trans spots_mem
  have hnd : ys.Nodup := e2.nodup_iff.2 (spots_nodup _ _)
  generalize hMM : c.length + 1 - l.length = M at *
  have hM1 : 1 ≤ M := by omega
  obtain ⟨a, ha, ea⟩ := hmem.1 (List.getElem_mem (show 0 < ys.length by omega))
  have hsz := errs_sz c l
  unfold m29
  dsimp only
  rw [e1, Option.bind_some, eqI rfl, notT, notF, cond_true, m37_eq, Option.bind_some, decide_eq_true hm, notT, orF, cond_false]
  have eN : lenM ys = (M : Int) := by show (ys.length : Int) = M; omega
  have i0 : idxM ys 0 = some ((a : Int), errs c l a) := by
    have := idxM_lt (xs := ys) (i := 0) (by omega)
    rw [ea] at this; exact this
  have hfa : IntKind.wrap IntKind.i64 (f + (a : Int)) = f + a := wrap_in (by omega) (by omega)
  dsimp only
  rw [eN, neI (show (M : Int) ≠ 0 by omega), notF, andT]
  by_cases h1 : 1 < M
  · obtain ⟨b, hb, eb⟩ := hmem.1 (List.getElem_mem (show 1 < ys.length by omega))
    have i1 : idxM ys 1 = some ((b : Int), errs c l b) := by
      have := idxM_lt (xs := ys) (i := 1) (by omega)
      rw [eb] at this; exact this
    have hab : a ≠ b := fun h => by
      have h2 : ys[0]'(by omega) = ys[1]'(by omega) := by rw [ea, eb, h]
      have := (List.getElem_inj hnd).1 h2
      omega
    have s1 := hsz a
    have s2 := hsz b
    rw [ltI (show (1 : Int) < (M : Int) by omega), cond_true, cond_true, i1, i0, Option.bind_some, Option.bind_some, andT, orF]
    dsimp only
    rw [wrap_in (n := errs c l b - errs c l a) (by omega) (by omega)]
    by_cases h2 : errs c l b - errs c l a < mg
    · rw [ltI h2, cond_true]
      refine ⟨_, rfl, .inr ⟨rfl, fun p hp => ?_⟩⟩
      by_cases hpa : p = a
      · exact ⟨b, hb, fun h => hab (by omega), by rw [hpa]; omega⟩
      · refine ⟨a, ha, fun h => hpa h.symm, ?_⟩
        obtain ⟨j, hj, ej⟩ := List.getElem_of_mem (hmem.2 ⟨p, hp, rfl⟩)
        have hj0 : 0 < j := by
          rcases Nat.eq_zero_or_pos j with h | h
          · subst h
            rw [ea] at ej
            have := (Prod.mk.inj ej).1
            omega
          · exact h
        have := e3 0 j hj0 hj
        rw [ej, ea] at this
        unfold spLt at this
        dsimp only at this
        omega
    · rw [geI (by omega), cond_false, Option.bind_some]
      dsimp only
      rw [hfa]
      refine ⟨_, rfl, .inl ⟨a, ha, rfl, fun q hq hqa => ?_⟩⟩
      obtain ⟨j, hj, ej⟩ := List.getElem_of_mem (hmem.2 ⟨q, hq, rfl⟩)
      rcases Nat.lt_or_ge 1 j with h | h
      · have := e3 1 j h hj
        rw [ej, eb] at this
        unfold spLt at this
        dsimp only at this
        omega
      · have h01 : j = 0 ∨ j = 1 := by omega
        rcases h01 with h | h
        · subst h
          rw [ea] at ej
          have := (Prod.mk.inj ej).1
          omega
        · subst h
          rw [eb] at ej
          have := (Prod.mk.inj ej).2
          omega
  · rw [geI (show (M : Int) ≤ 1 by omega), cond_false, cond_false, Option.bind_some, Option.bind_some, andF, orF, cond_false, i0, Option.bind_some]
    dsimp only
    rw [hfa]
    exact ⟨_, rfl, .inl ⟨a, ha, rfl, fun q hq hqa => by omega⟩⟩
end Go.Proofs.Ytblachgndbmhaaa
/-
  Ring: the laws RingDates and RingScales.
  No conditions.
-/
namespace Go.Proofs.Ytblachgndbmhaaa
open Go Go.Abs Go.PE
set_option linter.unusedVariables false
theorem dated_at {f mg : Int} {M : Nat} {E : Nat → Int} {r : Int × Bool × Int} (hm : 1 ≤ mg)
    (h : (∃ p : Nat, p < M ∧ r = (f + p, true, 0) ∧ ∀ q, q < M → q ≠ p → E p + mg ≤ E q) ∨ (r = (0, false, 0) ∧ ∀ p, p < M → ∃ q, q < M ∧ q ≠ p ∧ E q < E p + mg))
    {p : Nat} (hp : p < M) (hE : ∀ q, q < M → q ≠ p → E p + mg ≤ E q) : r = (f + p, true, 0) := by
  rcases h with ⟨p', h1, h2, h3⟩ | ⟨_, h2⟩
  · by_cases e : p' = p
    · rw [h2, e]
    · have a1 := h3 p hp fun h => e h.symm
      have a2 := hE p' h1 e
      omega
  · obtain ⟨q, h3, h4, h5⟩ := h2 p hp
    have := hE q h3 h4
    omega
theorem dated_err {f mg : Int} {M : Nat} {E : Nat → Int} {r : Int × Bool × Int}
    (h : (∃ p : Nat, p < M ∧ r = (f + p, true, 0) ∧ ∀ q, q < M → q ≠ p → E p + mg ≤ E q) ∨ (r = (0, false, 0) ∧ ∀ p, p < M → ∃ q, q < M ∧ q ≠ p ∧ E q < E p + mg)) : r.2.2 = 0 := by
  rcases h with ⟨p', _, h2, _⟩ | ⟨h2, _⟩ <;> rw [h2]
theorem law4_ok (x : Int × List Int × Int × Int × List (Int × Int) × Int) (h1 : i64 x.1) (h2 : ∀ v ∈ x.2.1, i64 v) (h3 : i64 x.2.2.1) (h4 : i64 x.2.2.2.1) (h5 : ∀ c ∈ x.2.2.2.2.1, i64 c.1 ∧ i64 c.2) (h6 : i64 x.2.2.2.2.2) : m4 x = some true := by
  obtain ⟨c, l, n, p, e1, e2, e3, hf, hc, hcv, hn, hpn, hl, hlv⟩ := start_ok h1 h2 h3 h4 h5
  unfold m4
  refine bind_of sane_ok ?_
  rw [notT, cond_false]
  refine bind_of e1 (bind_of e2 (bind_of e3 ?_))
  dsimp only
  have eL : lenM l = (n : Int) := by show (l.length : Int) = n; omega
  have eC : lenM c = (c.length : Int) := rfl
  have hvc : vldC (pk x.1 1900) c := made_ok (by omega) (fun v hv => by have := hcv v hv; omega) (by omega) (by omega)
  have hvl : vldS l := samp_ok (fun v hv => by have := hlv v hv; omega) (by omega) (by omega)
  have hpl := part_len hpn
  have hvp : vldS ((c.take (p + n)).drop p) := samp_ok (fun v hv => by have := hcv v (part_mem hv); omega) (by omega) (by omega)
  have htp : ∀ i, i + 1 < n → tr ((c.take (p + n)).drop p) i = tr c (p + i) := fun i hi => tr_part hi hpn
  generalize (c.take (p + n)).drop p = P at *
  generalize pk x.1 1900 = f at *
  have p1 := pk_lo (c := x.2.2.2.2.2) (n := 6) (by omega)
  have p2 := pk_hi (c := x.2.2.2.2.2) (n := 6) (by omega)
  refine bind_of (m14_eq h6 (by omega)) ?_
  generalize pk x.2.2.2.2.2 6 = m at *
  refine bind_of (m27_eq hvc hvl (by omega)) (bind_of (m27_eq hvc hvp (by omega)) ?_)
  have hown : er (tr P) (fun i => tr c (p + i)) (P.length - 1) = 0 := by
    rw [er_congr (n := P.length - 1) (f' := fun i => tr c (p + i)) (g' := fun i => tr c (p + i)) (fun i hi => htp i (by omega)) fun i hi => rfl, er_self]
  have he : er (tr l) (fun i => tr c (p + i)) (l.length - 1) = errs c l p := rfl
  rw [hown, he, eqI rfl, notT, orF, orF, cond_false]
  dsimp only
  rw [eL, eC, wrap_in (n := (c.length : Int) - (n : Int)) (by omega) (by omega), wrap_in (n := 1 + m) (by omega) (by omega)]
  have se := errs_sz c l p
  generalize hee : errs c l p = e at *
  have hM : c.length + 1 - l.length = c.length + 1 - n := by omega
  rw [wrap_in (n := 2 * e) (by omega) (by omega), wrap_in (n := 2 * e + (1 + m)) (by omega) (by omega)]
  refine Ans.is (Ans.bind (P := fun o : Unit ⊕ Bool => o = .inr true ∨ (o = .inl () ∧ ∀ q, q < c.length + 1 - n → q ≠ p → 2 * e + (1 + m) ≤ errs c P q)) ?_ ?_)
  · refine Ans.loop (fun k (s : Int) => s = (k : Int) ∧ ∀ q, q < k → q ≠ p → 2 * e + (1 + m) ≤ errs c P q) (c.length + 1 - n) ⟨rfl, fun q hq => by omega⟩ fun k s hk hs => ?_
    obtain ⟨rfl, hs⟩ := hs
    by_cases hlt : k < c.length + 1 - n
    · have ek : IntKind.wrap IntKind.i64 ((k : Int) + 1) = ((k + 1 : Nat) : Int) := by rw [wrap_in (by omega) (by omega)]; rfl
      rw [leI (show (k : Int) ≤ (c.length : Int) - (n : Int) by omega), cond_true, m27_eq hvc hvp (by omega), Option.bind_some]
      dsimp only
      rw [eqI rfl, notT, cond_false, ek]
      have hq : er (tr P) (fun i => tr c (k + i)) (P.length - 1) = errs c P k := rfl
      rw [hq]
      by_cases hb : (k : Int) ≠ (p : Int) ∧ errs c P k < 2 * e + (1 + m)
      · rw [neI hb.1, notF, andT, ltI hb.2, cond_true]
        exact Ans.some (.inl rfl)
      · have hfa : PE.andM (PE.notM (eqM (k : Int) (p : Int))) (ltM (errs c P k) (2 * e + (1 + m))) = false := by
          by_cases hkp : (k : Int) = (p : Int)
          · rw [eqI hkp, notT, andF]
          · rw [neI hkp, notF, andT, geI (by omega)]
        rw [hfa, cond_false]
        refine Ans.some ⟨hlt, rfl, fun q hq hqp => ?_⟩
        rcases Nat.lt_or_ge q k with h | h
        · exact hs q h hqp
        · have : q = k := by omega
          subst this
          omega
    · rw [gtI (show (c.length : Int) - (n : Int) < (k : Int) by omega), cond_false]
      exact Ans.some (.inr ⟨rfl, fun q hq hqp => hs q (by omega) hqp⟩)
  · intro o ho
    rcases ho with rfl | ⟨rfl, hall⟩
    · exact Ans.some rfl
    · obtain ⟨r, g1, g2⟩ := m29_ok hvc hvl (by omega) (mg := 1 + m) (by omega)
      have hr := dated_at (by omega) g2 (p := p) (by omega) fun q hq hqp => by
        have a1 := hall q (by omega) hqp
        have a2 : errs c P q ≤ e + errs c l q := by
          have t := er_tri (tr P) (tr l) (fun i => tr c (q + i)) (n - 1)
          have t2 : er (tr P) (tr l) (n - 1) = e := by
            rw [er_comm, ← hee]
            unfold errs
            rw [hl]
            exact er_congr (fun i hi => rfl) fun i hi => htp i (by omega)
          have t3 : errs c P q = er (tr P) (fun i => tr c (q + i)) (n - 1) := by unfold errs; rw [hpl]
          have t4 : errs c l q = er (tr l) (fun i => tr c (q + i)) (n - 1) := by unfold errs; rw [hl]
          omega
        omega
      refine Ans.of (bind_of g1 ?_) rfl
      rw [hr]
      dsimp only
      rw [wrap_in (n := f + (p : Int)) (by omega) (by omega), eqI rfl, eqI rfl]
      rfl
/-! ### RingScales -/
theorem m24_self {ys : List Sp} (h : ys.length ≤ 100000) : m24 (ys, ys) = some true := by
  unfold m24
  dsimp only
  rw [eqI rfl, notT, cond_false]
  refine bind_of (x := Sum.inl ()) (loopM_fn (fun k => (k : Int)) ys.length (fun k hk => ?_) ?_) rfl
  · rw [ltI (by show (k : Int) < (ys.length : Int); omega), cond_true, idxM_lt hk, Option.bind_some, Option.bind_some, eqI rfl, eqI rfl, andT, notT, cond_false, wrap_in (by omega) (by omega)]
    rfl
  · rw [geI (Int.le_refl _), cond_false]
theorem spots_congr {E E' : Nat → Int} {M : Nat} (h : ∀ p, p < M → E p = E' p) : spots E M = spots E' M := by
  unfold spots
  refine List.map_congr_left fun p hp => ?_
  rw [h p (List.mem_range.1 hp)]
theorem cmpI_scale {a b t u : Int} (ht : 0 < t) : cmpI (a * t + u) (b * t + u) = cmpI a b := by
  have h : ∀ x y : Int, x * t + u < y * t + u ↔ x < y := fun x y => by
    constructor
    · intro h
      refine Int.not_le.1 fun hle => ?_
      have := Int.mul_le_mul_of_nonneg_right hle (Int.le_of_lt ht)
      omega
    · intro h
      have := Int.mul_lt_mul_of_pos_right h ht
      omega
  unfold cmpI
  by_cases h1 : a < b
  · rw [if_pos h1, if_pos ((h a b).2 h1)]
  · rw [if_neg h1, if_neg fun hh => h1 ((h a b).1 hh)]
    by_cases h2 : b < a
    · rw [if_pos h2, if_pos ((h b a).2 h2)]
    · rw [if_neg h2, if_neg fun hh => h2 ((h b a).1 hh)]
theorem tr_map {l : List Int} {t u : Int} (ht : 0 < t) {i : Nat} (hi : i + 1 < l.length) : tr (l.map fun v => v * t + u) i = tr l i := by
  rw [tr_of (by rw [List.length_map]; exact hi), tr_of hi, List.getElem_map, List.getElem_map, cmpI_scale ht]
theorem scale_loop {l : List Int} {ts ps : Int} (hl : l.length ≤ 1000) (hv : ∀ v ∈ l, 0 ≤ v ∧ v ≤ 1000) (h1 : i64 ts) (h2 : i64 ps) {k : Nat} (hk : k < l.length) (o : List Int) (ho : o.length ≤ 1000) {β : Type} (g : List Int → Option β) :
    (Option.bind (idxM l (k : Int)) fun (r_4 : Int) =>
      Option.bind (m14 (ts, (9 : Int))) fun (r_5 : Int) =>
        Option.bind (m14 (ps, (1000 : Int))) fun (r_6 : Int) =>
          Option.bind (appM (nat_lit 8) o [IntKind.wrap IntKind.i64 (IntKind.wrap IntKind.i64 (r_4 * IntKind.wrap IntKind.i64 ((1 : Int) + r_5)) + r_6)]) g) = g (o ++ [l[k] * (1 + pk ts 9) + pk ps 1000]) := by
  have p1 := pk_lo (c := ts) (n := 9) (by omega)
  have p2 := pk_hi (c := ts) (n := 9) (by omega)
  have p3 := pk_lo (c := ps) (n := 1000) (by omega)
  have p4 := pk_hi (c := ps) (n := 1000) (by omega)
  have hvk := hv _ (List.getElem_mem hk)
  have a1 : 0 ≤ l[k] * (1 + pk ts 9) := Int.mul_nonneg hvk.1 (by omega)
  have a2 : l[k] * (1 + pk ts 9) ≤ 1000 * (1 + pk ts 9) := Int.mul_le_mul_of_nonneg_right hvk.2 (by omega)
  rw [idxM_lt hk, Option.bind_some, m14_eq h1 (by omega), Option.bind_some, m14_eq h2 (by omega), Option.bind_some, wrap_in (n := 1 + pk ts 9) (by omega) (by omega), wrap_in (n := l[k] * (1 + pk ts 9)) (by omega) (by omega), wrap_in (n := l[k] * (1 + pk ts 9) + pk ps 1000) (by omega) (by omega), appM_of (by show (o.length + 1) * 8 ≤ 140737488355328; omega), Option.bind_some]
theorem scaled_mem {l : List Int} {t u : Int} (hl : ∀ v ∈ l, 80 ≤ v ∧ v ≤ 159) (ht : 1 ≤ t ∧ t ≤ 9) (hu : 0 ≤ u ∧ u < 1000) : ∀ v ∈ l.map (fun v => v * t + u), 80 ≤ v ∧ v ≤ 9999 := fun v hv => by
  obtain ⟨w, hw, rfl⟩ := List.mem_map.1 hv
  have h := hl w hw
  have a1 : w * 1 ≤ w * t := Int.mul_le_mul_of_nonneg_left ht.1 (by omega)
  have a2 : w * t ≤ 159 * t := Int.mul_le_mul_of_nonneg_right h.2 (by omega)
  omega
theorem law6_ok (x : Int × List Int × Int × Int × List (Int × Int) × Int × Int × Int) (h1 : i64 x.1) (h2 : ∀ v ∈ x.2.1, i64 v) (h3 : i64 x.2.2.1) (h4 : i64 x.2.2.2.1) (h5 : ∀ c ∈ x.2.2.2.2.1, i64 c.1 ∧ i64 c.2) (h6 : i64 x.2.2.2.2.2.1) (h7 : i64 x.2.2.2.2.2.2.1) (h8 : i64 x.2.2.2.2.2.2.2) : m6 x = some true := by
  obtain ⟨c, l, n, p, e1, e2, e3, hf, hc, hcv, hn, hpn, hl, hlv⟩ := start_ok h1 h2 h3 h4 h5
  unfold m6
  refine bind_of sane_ok ?_
  rw [notT, cond_false]
  refine bind_of e1 (bind_of e2 (bind_of e3 ?_))
  dsimp only
  have hvc : vldC (pk x.1 1900) c := made_ok (by omega) (fun v hv => by have := hcv v hv; omega) (by omega) (by omega)
  have hvl : vldS l := samp_ok (fun v hv => by have := hlv v hv; omega) (by omega) (by omega)
  generalize pk x.1 1900 = f at *
  have p1 := pk_lo (c := x.2.2.2.2.2.1) (n := 9) (by omega)
  have p2 := pk_hi (c := x.2.2.2.2.2.1) (n := 9) (by omega)
  have p3 := pk_lo (c := x.2.2.2.2.2.2.1) (n := 1000) (by omega)
  have p4 := pk_hi (c := x.2.2.2.2.2.2.1) (n := 1000) (by omega)
  have p5 := pk_lo (c := x.2.2.2.2.2.2.1) (n := 9) (by omega)
  have p6 := pk_hi (c := x.2.2.2.2.2.2.1) (n := 9) (by omega)
  have p7 := pk_lo (c := x.2.2.2.2.2.1) (n := 1000) (by omega)
  have p8 := pk_hi (c := x.2.2.2.2.2.1) (n := 1000) (by omega)
  have p9 := pk_lo (c := x.2.2.2.2.2.2.2) (n := 6) (by omega)
  have p10 := pk_hi (c := x.2.2.2.2.2.2.2) (n := 6) (by omega)
  refine bind_of (x := l.map fun v => v * (1 + pk x.2.2.2.2.2.1 9) + pk x.2.2.2.2.2.2.1 1000) (count_loop (fun k => (l.take k).map fun v => v * (1 + pk x.2.2.2.2.2.1 9) + pk x.2.2.2.2.2.2.1 1000) l.length (fun k hk => ?_) ?_) ?_
  · dsimp only
    rw [ltI (by show (k : Int) < (l.length : Int); omega), cond_true, scale_loop (by omega) (fun v hv => by have := hlv v hv; omega) h6 h7 hk _ (by rw [List.length_map, List.length_take]; omega), wrap_in (by omega) (by omega), List.take_succ_eq_append_getElem hk, List.map_append]
    rfl
  · dsimp only
    rw [geI (Int.le_refl _), cond_false, List.take_length]
  refine bind_of (x := (f, c.map fun v => v * (1 + pk x.2.2.2.2.2.2.1 9) + pk x.2.2.2.2.2.1 1000)) (count_loop (fun k => (f, (c.take k).map fun v => v * (1 + pk x.2.2.2.2.2.2.1 9) + pk x.2.2.2.2.2.1 1000)) c.length (fun k hk => ?_) ?_) ?_
  · dsimp only
    rw [ltI (by show (k : Int) < (c.length : Int); omega), cond_true, scale_loop (by omega) (fun v hv => by have := hcv v hv; omega) h7 h6 hk _ (by rw [List.length_map, List.length_take]; omega), wrap_in (by omega) (by omega), List.take_succ_eq_append_getElem hk, List.map_append]
    rfl
  · dsimp only
    rw [geI (Int.le_refl _), cond_false, List.take_length]
  refine bind_of (m14_eq h8 (by omega)) ?_
  rw [wrap_in (n := 1 + pk x.2.2.2.2.2.2.2 6) (by omega) (by omega)]
  have hsl : ∀ i, i + 1 < l.length → tr (l.map fun v => v * (1 + pk x.2.2.2.2.2.1 9) + pk x.2.2.2.2.2.2.1 1000) i = tr l i := fun i hi => tr_map (by omega) hi
  have hsc : ∀ i, i + 1 < c.length → tr (c.map fun v => v * (1 + pk x.2.2.2.2.2.2.1 9) + pk x.2.2.2.2.2.1 1000) i = tr c i := fun i hi => tr_map (by omega) hi
  have hL : vldS (l.map fun v => v * (1 + pk x.2.2.2.2.2.1 9) + pk x.2.2.2.2.2.2.1 1000) := samp_ok (scaled_mem hlv (by omega) (by omega)) (by rw [List.length_map]; omega) (by rw [List.length_map]; omega)
  have hD : vldC f (c.map fun v => v * (1 + pk x.2.2.2.2.2.2.1 9) + pk x.2.2.2.2.2.1 1000) := made_ok (by omega) (scaled_mem (fun v hv => by have := hcv v hv; omega) (by omega) (by omega)) (by rw [List.length_map]; omega) (by rw [List.length_map]; omega)
  have lL : (l.map fun v => v * (1 + pk x.2.2.2.2.2.1 9) + pk x.2.2.2.2.2.2.1 1000).length = l.length := List.length_map ..
  have lD : (c.map fun v => v * (1 + pk x.2.2.2.2.2.2.1 9) + pk x.2.2.2.2.2.1 1000).length = c.length := List.length_map ..
  generalize (l.map fun v => v * (1 + pk x.2.2.2.2.2.1 9) + pk x.2.2.2.2.2.2.1 1000) = L at *
  generalize (c.map fun v => v * (1 + pk x.2.2.2.2.2.2.1 9) + pk x.2.2.2.2.2.1 1000) = D at *
  have k1 : m22 ((f, c), L) = m22 ((f, c), l) := by
    rw [m22_eq hvc hL, m22_eq hvc hvl, lL]
    rw [spots_congr fun p hp => show errs c L p = errs c l p by
      unfold errs; rw [lL]; exact er_congr (fun i hi => hsl i (by omega)) fun i hi => rfl]
  have k2 : m22 ((f, D), l) = m22 ((f, c), l) := by
    rw [m22_eq hD hvl, m22_eq hvc hvl, lD]
    rw [spots_congr fun p hp => show errs D l p = errs c l p by
      unfold errs; exact er_congr (fun i hi => rfl) fun i hi => hsc _ (by omega)]
  have k3 : m22 ((f, D), L) = m22 ((f, c), l) := by
    rw [m22_eq hD hL, m22_eq hvc hvl, lD, lL]
    rw [spots_congr fun p hp => show errs D L p = errs c l p by
      unfold errs; rw [lL]; exact er_congr (fun i hi => hsl i (by omega)) fun i hi => hsc _ (by omega)]
  have k4 : ∀ mg, m29 ((f, D), L, mg) = m29 ((f, c), l, mg) := fun mg => by
    unfold m29
    dsimp only
    rw [k3]
  obtain ⟨ys, y1, y2, _⟩ := match_ok hvc hvl
  have hyl : ys.length ≤ 100000 := by rw [y2.length_eq, spots_len]; omega
  obtain ⟨r, g1, g2⟩ := m29_ok hvc hvl (by omega) (mg := 1 + pk x.2.2.2.2.2.2.2 6) (by omega)
  have hr := dated_err g2
  refine bind_of y1 (bind_of (k1.trans y1) (bind_of (k2.trans y1) (bind_of g1 (bind_of ((k4 _).trans g1) ?_))))
  dsimp only
  rw [hr, eqI rfl, andT, andT, andT, andT, cond_true, m24_self hyl, Option.bind_some, andT, cond_true, Option.bind_some, eqI rfl, andT, andT]
  have : eqbM r.2.1 r.2.1 = true := decide_eq_true rfl
  rw [this]
  rfl
end Go.Proofs.Ytblachgndbmhaaa
/-
  Ring: the law RingLonger.
  No conditions.
-/
namespace Go.Proofs.Ytblachgndbmhaaa
open Go Go.Abs Go.PE
set_option linter.unusedVariables false
theorem cut_ok {l : List Int} {m : Int} (hm : 0 ≤ m) : sliceM l (0 : Int) (min (lenM l) m) = some (l.take (min (lenM l) m).toNat) ∧ ((l.take (min (lenM l) m).toNat).length : Int) ≤ m ∧ ((l.take (min (lenM l) m).toNat).length : Int) ≤ l.length := by
  have e : lenM l = (l.length : Int) := rfl
  have h1 : min (lenM l) m ≤ (l.length : Int) := Int.min_le_left _ _
  have h0 : 0 ≤ min (lenM l) m := by omega
  refine ⟨?_, ?_, ?_⟩
  · rw [sliceM_of (Int.le_refl _) h0 h1]; rfl
  · rw [List.length_take]; omega
  · rw [List.length_take]; omega
theorem tr_mid {H c T : List Int} {i : Nat} (hi : i + 1 < c.length) : tr ((H ++ c) ++ T) (H.length + i) = tr c i := by
  have h : ∀ j, j < c.length → ((H ++ c) ++ T)[H.length + j]? = c[j]? := fun j hj => by
    rw [List.getElem?_append_left (by rw [List.length_append]; omega), List.getElem?_append_right (by omega), Nat.add_sub_cancel_left]
  unfold tr
  rw [h i (by omega), Nat.add_assoc, h (i + 1) hi]
theorem law8_ok (x : Int × List Int × Int × Int × List (Int × Int) × List Int × List Int × Int) (h1 : i64 x.1) (h2 : ∀ v ∈ x.2.1, i64 v) (h3 : i64 x.2.2.1) (h4 : i64 x.2.2.2.1) (h5 : ∀ c ∈ x.2.2.2.2.1, i64 c.1 ∧ i64 c.2) (h6 : ∀ v ∈ x.2.2.2.2.2.1, i64 v) (h7 : ∀ v ∈ x.2.2.2.2.2.2.1, i64 v) (h8 : i64 x.2.2.2.2.2.2.2) : m8 x = some true := by
  obtain ⟨c, l, n, p, e1, e2, e3, hf, hc, hcv, hn, hpn, hl, hlv⟩ := start_ok h1 h2 h3 h4 h5
  unfold m8
  refine bind_of sane_ok ?_
  rw [notT, cond_false]
  refine bind_of e1 (bind_of e2 (bind_of e3 ?_))
  dsimp only
  have eL : lenM l = (n : Int) := by show (l.length : Int) = n; omega
  have eC : lenM c = (c.length : Int) := rfl
  have hvc : vldC (pk x.1 1900) c := made_ok (by omega) (fun v hv => by have := hcv v hv; omega) (by omega) (by omega)
  have hvl : vldS l := samp_ok (fun v hv => by have := hlv v hv; omega) (by omega) (by omega)
  generalize pk x.1 1900 = f at *
  obtain ⟨c1, c2, _⟩ := cut_ok (l := x.2.2.2.2.2.1) (m := 20) (by omega)
  have hin4 : ∀ v ∈ x.2.2.2.2.2.1.take (min (lenM x.2.2.2.2.2.1) 20).toNat, i64 v := fun v hv => h6 v (List.mem_of_mem_take hv)
  generalize x.2.2.2.2.2.1.take (min (lenM x.2.2.2.2.2.1) 20).toNat = B4 at *
  obtain ⟨H0, a1, a2, a3, a4, a5⟩ := m15_ok (x := B4) (least := 0) hin4 (by omega)
  obtain ⟨b1, b2, b3⟩ := cut_ok (l := H0) (m := f) (by omega)
  have hH : ∀ v ∈ H0.take (min (lenM H0) f).toNat, 100 ≤ v ∧ v ≤ 139 := fun v hv => a2 v (List.mem_of_mem_take hv)
  generalize H0.take (min (lenM H0) f).toNat = H at *
  obtain ⟨c3, c4, _⟩ := cut_ok (l := x.2.2.2.2.2.2.1) (m := 20) (by omega)
  have hin9 : ∀ v ∈ x.2.2.2.2.2.2.1.take (min (lenM x.2.2.2.2.2.2.1) 20).toNat, i64 v := fun v hv => h7 v (List.mem_of_mem_take hv)
  generalize x.2.2.2.2.2.2.1.take (min (lenM x.2.2.2.2.2.2.1) 20).toNat = B9 at *
  obtain ⟨T, d1, d2, d3, d4, d5⟩ := m15_ok (x := B9) (least := 0) hin9 (by omega)
  have eH : lenM H = (H.length : Int) := rfl
  have hh : H.length ≤ 20 := by omega
  have hT : T.length ≤ 20 := by omega
  have hap1 : appM (nat_lit 8) [] H = some H := appM_of (by show (0 + H.length) * 8 ≤ 140737488355328; omega)
  have hap2 : appM (nat_lit 8) H c = some (H ++ c) := appM_of (by show (H.length + c.length) * 8 ≤ 140737488355328; omega)
  have hap3 : appM (nat_lit 8) (H ++ c) T = some ((H ++ c) ++ T) := appM_of (by rw [List.length_append]; show (H.length + c.length + T.length) * 8 ≤ 140737488355328; omega)
  refine bind_of c1 (bind_of a1 (bind_of b1 (bind_of hap1 (bind_of hap2 (bind_of c3 (bind_of d1 (bind_of hap3 ?_)))))))
  rw [eL, eC, eH, wrap_in (n := (c.length : Int) - (n : Int)) (by omega) (by omega), wrap_in (n := f - (H.length : Int)) (by omega) (by omega)]
  have hlen : ((H ++ c) ++ T).length = H.length + c.length + T.length := by rw [List.length_append, List.length_append]
  have hvb : vldC (f - (H.length : Int)) ((H ++ c) ++ T) := by
    refine ⟨⟨by omega, fun v hv => ?_⟩, by omega⟩
    rcases List.mem_append.1 hv with hv | hv
    · rcases List.mem_append.1 hv with hv | hv
      · have := hH v hv; omega
      · have := hcv v hv; omega
    · have := d2 v hv; omega
  have hE : ∀ q, q + l.length ≤ c.length → errs ((H ++ c) ++ T) l (q + H.length) = errs c l q := fun q hq => by
    unfold errs
    refine er_congr (fun i hi => rfl) fun i hi => ?_
    show tr ((H ++ c) ++ T) (q + H.length + i) = tr c (q + i)
    rw [show q + H.length + i = H.length + (q + i) by omega]
    exact tr_mid (by omega)
  generalize (H ++ c) ++ T = G at *
  generalize H.length = h at *
  refine bind_of (x := Sum.inl ()) (loopM_fn (fun k => (k : Int)) (c.length + 1 - n) (fun k hk => ?_) ?_) ?_
  · have ek : IntKind.wrap IntKind.i64 ((k : Int) + 1) = ((k + 1 : Nat) : Int) := by rw [wrap_in (by omega) (by omega)]; rfl
    have ej : IntKind.wrap IntKind.i64 ((k : Int) + (h : Int)) = ((k + h : Nat) : Int) := by rw [wrap_in (by omega) (by omega)]; rfl
    have q1 : m27 ((f, c), l, (k : Int)) = some (errs c l k, 0) := m27_eq hvc hvl (by omega)
    have q2 : m27 ((f - (h : Int), G), l, ((k + h : Nat) : Int)) = some (errs c l k, 0) := by
      rw [← hE k (by omega)]
      exact m27_eq hvb hvl (by omega)
    rw [leI (show (k : Int) ≤ (c.length : Int) - (n : Int) by omega), cond_true, ek, ej, q1, Option.bind_some, q2, Option.bind_some]
    dsimp only
    rw [eqI rfl, eqI rfl, notT, orF, orF, cond_false]
  · rw [gtI (show (c.length : Int) - (n : Int) < ((c.length + 1 - n : Nat) : Int) by omega), cond_false]
  have p1 := pk_lo (c := x.2.2.2.2.2.2.2) (n := 6) (by omega)
  have p2 := pk_hi (c := x.2.2.2.2.2.2.2) (n := 6) (by omega)
  refine bind_of (m14_eq h8 (by omega)) ?_
  generalize pk x.2.2.2.2.2.2.2 6 = m at *
  rw [wrap_in (n := 1 + m) (by omega) (by omega)]
  obtain ⟨r, g1, g2⟩ := m29_ok hvb hvl (by omega) (mg := 1 + m) (by omega)
  obtain ⟨r', g3, g4⟩ := m29_ok hvc hvl (by omega) (mg := 1 + m) (by omega)
  refine bind_of g1 (bind_of g3 ?_)
  rw [dated_err g2, dated_err g4, eqI rfl, notT, orF, cond_false]
  rcases g2 with ⟨P, k1, k2, k3⟩ | ⟨k2, _⟩
  · rw [k2]
    dsimp only
    rw [notT, orF, wrap_in (n := f - (h : Int) + (P : Int) - f) (by omega) (by omega)]
    by_cases hin : (h : Int) ≤ P ∧ (P : Int) - h ≤ (c.length : Int) - n
    · rw [geI (by omega), geI (by omega), orF, cond_false]
      have hr := dated_at (by omega) g4 (p := P - h) (by omega) fun q hq hqp => by
        have t := k3 (q + h) (by omega) (by omega)
        rw [hE q (by omega)] at t
        have t2 := hE (P - h) (by omega)
        rw [show P - h + h = P by omega] at t2
        omega
      rw [hr]
      dsimp only
      rw [eqI (by omega)]
      rfl
    · have e : PE.orM (ltM (f - (h : Int) + (P : Int)) f) (ltM ((c.length : Int) - (n : Int)) (f - (h : Int) + (P : Int) - f)) = true := by
        unfold PE.orM
        simp only [Bool.or_eq_true, decide_eq_true_eq]
        omega
      rw [e, cond_true]
  · rw [k2]
    dsimp only
    rw [notF, orT, orT, cond_true]
end Go.Proofs.Ytblachgndbmhaaa
/-
  Ring: the law RingLists.
  No conditions.
-/
namespace Go.Proofs.Ytblachgndbmhaaa
open Go Go.Abs Go.PE
set_option linter.unusedVariables false
def trs (l : List Int) (k : Nat) : List Int := (List.range k).map (tr l)
theorem trs_len (l : List Int) (k : Nat) : (trs l k).length = k := by unfold trs; rw [List.length_map, List.length_range]
theorem trs_get {l : List Int} {k i : Nat} (h : i < (trs l k).length) : (trs l k)[i] = tr l i := by
  have h' : i < ((List.range k).map (tr l)).length := h
  show ((List.range k).map (tr l))[i]'h' = tr l i
  rw [List.getElem_map, List.getElem_range]
theorem m20_eq {l : List Int} (h : (2 ≤ (l.length : Int) ∧ (l.length : Int) ≤ 200) ∧ okW l) : m20 l = some (trs l (l.length - 1)) := by
  have hl := h.1
  unfold m20
  refine bind_of (m36_eq l (by omega)) ?_
  rw [decide_eq_true h, notT, cond_false]
  refine bind_of (x := trs l (l.length - 1)) (loopM_fn (fun k => (((k + 1 : Nat) : Int), trs l k)) (l.length - 1) (fun k hk => ?_) ?_) rfl
  · dsimp only
    have e1 : IntKind.wrap IntKind.i64 (((k + 1 : Nat) : Int) - 1) = (k : Int) := by rw [wrap_in (by omega) (by omega)]; omega
    have e3 : IntKind.wrap IntKind.i64 (((k + 1 : Nat) : Int) + 1) = ((k + 1 + 1 : Nat) : Int) := by rw [wrap_in (by omega) (by omega)]; rfl
    rw [ltI (by show ((k + 1 : Nat) : Int) < (l.length : Int); omega), cond_true, e1, e3, idxM_lt (by omega : k + 1 < l.length), Option.bind_some, idxM_lt (by omega : k < l.length), Option.bind_some, m45_eq, Option.bind_some, ← tr_of (l := l) (by omega), appM_of (by rw [trs_len]; show (k + 1) * 8 ≤ 140737488355328; omega), Option.bind_some]
    have e4 : trs l (k + 1) = trs l k ++ [tr l k] := by unfold trs; rw [List.range_succ, List.map_append]; rfl
    rw [e4]
    rfl
  · dsimp only
    rw [geI (by show (l.length : Int) ≤ ((l.length - 1 + 1 : Nat) : Int); omega), cond_false]
theorem law5_ok (x : Int × List Int × Int × Int × List (Int × Int) × List (Int × Int)) (h1 : i64 x.1) (h2 : ∀ v ∈ x.2.1, i64 v) (h3 : i64 x.2.2.1) (h4 : i64 x.2.2.2.1) (h5 : ∀ c ∈ x.2.2.2.2.1, i64 c.1 ∧ i64 c.2) (h6 : ∀ c ∈ x.2.2.2.2.2, i64 c.1 ∧ i64 c.2) : m5 x = some true := by
  obtain ⟨c, l, n, p, e1, e2, e3, hf, hc, hcv, hn, hpn, hl, hlv⟩ := start_ok h1 h2 h3 h4 h5
  have hplen := part_len hpn
  obtain ⟨b, e4, hb, hbv⟩ := m16_ok (l := (c.take (p + n)).drop p) (x := x.2.2.2.2.2) (by omega) (by omega) (fun v hv => by have := hcv v (part_mem hv); omega) h6
  rw [hplen] at hb
  unfold m5
  refine bind_of sane_ok ?_
  rw [notT, cond_false]
  refine bind_of e1 (bind_of e2 (bind_of e3 (bind_of e4 ?_)))
  dsimp only
  have eL : lenM l = (n : Int) := by show (l.length : Int) = n; omega
  have eC : lenM c = (c.length : Int) := rfl
  have hvc : vldC (pk x.1 1900) c := made_ok (by omega) (fun v hv => by have := hcv v hv; omega) (by omega) (by omega)
  have hvl : vldS l := samp_ok (fun v hv => by have := hlv v hv; omega) (by omega) (by omega)
  have hvb : vldS b := samp_ok (fun v hv => by have := hbv v hv; omega) (by omega) (by omega)
  generalize pk x.1 1900 = f at *
  obtain ⟨ys, y1, y2, y3⟩ := match_ok hvc hvl
  have hM : ys.length = c.length + 1 - n := by rw [y2.length_eq, spots_len, hl]
  have hmem : ∀ {y : Sp}, y ∈ ys ↔ ∃ p, p < c.length + 1 - n ∧ y = ((p : Int), errs c l p) := fun {y} => by rw [y2.mem_iff, spots_mem, hl]
  have hnd : ys.Nodup := y2.nodup_iff.2 (spots_nodup _ _)
  refine bind_of y1 (bind_of (m20_eq ⟨⟨by omega, by have := hvl.1; omega⟩, hvl.2⟩) (bind_of (m20_eq ⟨⟨by omega, by have := hvb.1; omega⟩, hvb.2⟩) ?_))
  dsimp only
  rw [hl, hb]
  have eY : lenM ys = ((c.length + 1 - n : Nat) : Int) := by show (ys.length : Int) = _; omega
  have eT : ∀ z : List Int, lenM (trs z (n - 1)) = ((n - 1 : Nat) : Int) := fun z => by show ((trs z (n - 1)).length : Int) = _; rw [trs_len]
  rw [eY, eT, eT, eL, eC, wrap_in (n := (c.length : Int) - (n : Int)) (by omega) (by omega), wrap_in (n := (c.length : Int) - (n : Int) + 1) (by omega) (by omega), wrap_in (n := (n : Int) - 1) (by omega) (by omega), eqI rfl, eqI (show ((c.length + 1 - n : Nat) : Int) = (c.length : Int) - (n : Int) + 1 by omega), eqI (show ((n - 1 : Nat) : Int) = (n : Int) - 1 by omega), eqI rfl, notT, orF, orF, orF, cond_false]
  have hds := er_sz (tr l) (tr b) (n - 1)
  refine bind_of (x := er (tr l) (tr b) (n - 1)) (loopM_fn (fun k => (er (tr l) (tr b) k, (k : Int))) (n - 1) (fun k hk => ?_) ?_) ?_
  · dsimp only
    have hs := er_sz (tr l) (tr b) k
    have ek : IntKind.wrap IntKind.i64 ((k : Int) + 1) = ((k + 1 : Nat) : Int) := by rw [wrap_in (by omega) (by omega)]; rfl
    rw [ltI (by omega), cond_true, idxM_lt (by rw [trs_len]; exact hk), Option.bind_some, idxM_lt (by rw [trs_len]; exact hk), Option.bind_some, trs_get, trs_get, ek]
    have e5 : er (tr l) (tr b) (k + 1) = er (tr l) (tr b) k + (if tr l k = tr b k then 0 else 1) := rfl
    rw [e5]
    by_cases h : tr l k = tr b k
    · rw [eqI h, notT, cond_false, Option.bind_some, if_pos h, Int.add_zero]
    · rw [neI h, notF, cond_true, Option.bind_some, if_neg h, wrap_in (by omega) (by omega)]
  · dsimp only
    rw [geI (Int.le_refl _), cond_false]
  generalize hd : er (tr l) (tr b) (n - 1) = d at *
  have hmk : mkM ((c.length + 1 - n : Nat) : Int) ((c.length + 1 - n : Nat) : Int) (nat_lit 1) false = some (List.replicate (c.length + 1 - n) false) := by
    unfold mkM
    rw [decide_eq_true (by omega), decide_eq_true (Int.le_refl _), decide_eq_true (by show ((c.length + 1 - n : Nat) : Int) * 1 ≤ 140737488355328; omega), Int.toNat_natCast]
  refine bind_of hmk ?_
  generalize hMM : c.length + 1 - n = M at *
  refine Ans.is (Ans.bind (P := fun o : List Bool ⊕ Bool × List Bool => ∃ t, o = .inl t) ?_ fun o ho => ?_)
  · refine Ans.loop (fun k (s : Int × List Bool) => s.1 = (k : Int) ∧ s.2.length = M ∧ ∀ q : Nat, s.2[q]? = some true → ∃ j, j < k ∧ ∃ hj : j < ys.length, ys[j].1 = (q : Int)) M ⟨rfl, List.length_replicate .., fun q hq => ?_⟩ fun k s hk hs => ?_
    · have hq : (List.replicate M false)[q]? = some true := hq
      rw [List.getElem?_replicate] at hq
      split at hq
      · exact Bool.noConfusion (Option.some.inj hq)
      · cases hq
    · obtain ⟨i, seen⟩ := s
      obtain ⟨g1, g2, g3⟩ := hs
      simp only at g1 g2 g3
      subst g1
      dsimp only
      by_cases hlt : k < M
      · have ek : IntKind.wrap IntKind.i64 ((k : Int) + 1) = ((k + 1 : Nat) : Int) := by rw [wrap_in (by omega) (by omega)]; rfl
        have hky : k < ys.length := by omega
        obtain ⟨q, hq, ey⟩ := hmem.1 (List.getElem_mem hky)
        have ik : idxM ys (k : Int) = some ((q : Int), errs c l q) := by rw [idxM_lt hky, ey]
        have eS : lenM seen = (M : Int) := by show (seen.length : Int) = M; omega
        have hqs : q < seen.length := by omega
        have hseen : seen[q] = false := by
          cases hh : seen[q] with
          | false => rfl
          | true =>
            obtain ⟨j, hj, hjy, ej⟩ := g3 q (by rw [List.getElem?_eq_getElem hqs, hh])
            obtain ⟨q', hq', ey'⟩ := hmem.1 (List.getElem_mem hjy)
            rw [ey'] at ej
            have ej : (q' : Int) = (q : Int) := ej
            have : q' = q := by omega
            subst this
            have := (List.getElem_inj hnd).1 (ey'.trans ey.symm)
            omega
        have hch : chkM (q : Int) (M : Int) = some () := by
          unfold chkM
          rw [decide_eq_true (by omega), decide_eq_true (by omega)]
        have hiS : idxM seen (q : Int) = some false := by rw [idxM_lt hqs, hseen]
        have e0 : PE.orM (ltM (q : Int) 0) (leM (M : Int) (q : Int)) = false := by rw [geI (by omega), gtI (by omega)]; rfl
        have sl := errs_sz c l q
        have sb := errs_sz c b q
        have m1 : m27 ((f, c), l, (q : Int)) = some (errs c l q, 0) := m27_eq hvc hvl (by omega)
        have m2 : m27 ((f, c), b, (q : Int)) = some (errs c b q, 0) := m27_eq hvc hvb (by omega)
        have t1 : errs c l q ≤ d + errs c b q := by
          have t := er_tri (tr l) (tr b) (fun i => tr c (q + i)) (n - 1)
          unfold errs
          rw [hl, hb]
          omega
        have t2 : errs c b q ≤ d + errs c l q := by
          have t := er_tri (tr b) (tr l) (fun i => tr c (q + i)) (n - 1)
          rw [er_comm (tr b) (tr l), hd] at t
          unfold errs
          rw [hl, hb]
          omega
        have fin : Ans (Option.bind (chkM (q : Int) (M : Int)) fun (r_17 : Unit) =>
              Option.bind (setM seen (q : Int) fun (x : Bool) => some true) fun (r_18 : List Bool) =>
                Option.bind (m27 ((f, c), l, (q : Int))) fun (r_19 : Int × Int) =>
                  Option.bind (m27 ((f, c), b, (q : Int))) fun (r_20 : Int × Int) =>
                    Option.bind (bif PE.notM (PE.orM (PE.notM (eqM r_19.2 (0 : Int))) (PE.notM (eqM r_20.2 (0 : Int)))) then idxM ys (k : Int) else some ((0 : Int), (0 : Int))) fun (r : Int × Int) =>
                      bif PE.orM (PE.orM (PE.orM (PE.orM (PE.notM (eqM r_19.2 (0 : Int))) (PE.notM (eqM r_20.2 (0 : Int)))) (PE.notM (eqM r_19.1 r.2))) (ltM d (IntKind.wrap IntKind.i64 (r_19.1 - r_20.1)))) (ltM d (IntKind.wrap IntKind.i64 (r_20.1 - r_19.1))) then
                        some (Sum.inr (Sum.inr (false, r_18)))
                      else some (Sum.inl (IntKind.wrap IntKind.i64 ((k : Int) + (1 : Int)), r_18)))
            (Nxt (fun (s : Int × List Bool) => k < M ∧ s.1 = ((k + 1 : Nat) : Int) ∧ s.2.length = M ∧ ∀ q : Nat, s.2[q]? = some true → ∃ j, j < k + 1 ∧ ∃ hj : j < ys.length, ys[j].1 = (q : Int)) fun o : List Bool ⊕ Bool × List Bool => ∃ t, o = .inl t) := by
          rw [hch, Option.bind_some, setM_of (f := fun _ => some true) hqs rfl, Option.bind_some, m1, Option.bind_some, m2, Option.bind_some]
          dsimp only
          rw [eqI rfl, notT, orF, notF, cond_true, ik, Option.bind_some]
          dsimp only
          rw [eqI rfl, notT, orF, orF, wrap_in (n := errs c l q - errs c b q) (by omega) (by omega), wrap_in (n := errs c b q - errs c l q) (by omega) (by omega), geI (by omega), geI (by omega), orF, cond_false, ek]
          refine Ans.some ⟨hlt, rfl, by show (seen.set q true).length = M; rw [List.length_set, g2], fun z hz => ?_⟩
          by_cases hzq : z = q
          · exact ⟨k, by omega, hky, by rw [ey, hzq]⟩
          · have hz : (seen.set q true)[z]? = some true := hz
            rw [List.getElem?_set_ne (fun h => hzq h.symm)] at hz
            obtain ⟨j, hj, hjy, ej⟩ := g3 z hz
            exact ⟨j, by omega, hjy, ej⟩
        rw [ltI (by omega), cond_true, ik, Option.bind_some]
        dsimp only
        rw [eS, e0, notF, cond_true, hch, Option.bind_some, cond_true, hiS, Option.bind_some]
        have e00 : PE.orM false false = false := rfl
        rw [e00, notF, andT]
        rw [hch, ik] at fin
        cases k with
        | zero =>
          rw [geI (show ((0 : Nat) : Int) ≤ 0 by omega), cond_false, Option.bind_some, cond_false, Option.bind_some, andF, cond_false, Option.bind_some, cond_false, Option.bind_some, andF, cond_false, Option.bind_some, andF, orF, cond_false]
          exact fin
        | succ j =>
          have ej : IntKind.wrap IntKind.i64 (((j + 1 : Nat) : Int) - 1) = (j : Int) := by rw [wrap_in (by omega) (by omega)]; omega
          obtain ⟨q', hq', ey'⟩ := hmem.1 (List.getElem_mem (show j < ys.length by omega))
          have ij : idxM ys (j : Int) = some ((q' : Int), errs c l q') := by rw [idxM_lt (show j < ys.length by omega), ey']
          have hsrt := y3 j (j + 1) (by omega) hky
          rw [ey, ey'] at hsrt
          unfold spLt at hsrt
          dsimp only at hsrt
          rw [ltI (show (0 : Int) < ((j + 1 : Nat) : Int) by omega), cond_true, Option.bind_some, ej, cond_true, ij, Option.bind_some]
          dsimp only
          rw [geI (show errs c l q' ≤ errs c l q by omega), notF, andT, cond_true, Option.bind_some, cond_true, Option.bind_some]
          dsimp only
          rw [andT]
          by_cases heq : errs c l q = errs c l q'
          · rw [eqI heq, cond_true, Option.bind_some]
            dsimp only
            rw [geI (show (q' : Int) ≤ (q : Int) by omega), orF, andT, orF, andT, cond_false]
            exact fin
          · rw [neI heq, cond_false, Option.bind_some]
            dsimp only
            rw [andF, orF, andT, orF, cond_false]
            exact fin
      · rw [geI (by omega), cond_false]
        exact Ans.some ⟨_, rfl⟩
  · obtain ⟨t, rfl⟩ := ho
    exact Ans.some rfl
end Go.Proofs.Ytblachgndbmhaaa
/-
  Ring: the reference's Valid, Sample, Trends, Errors and Felled compute what Ring's compute.
  No conditions.
-/
namespace Go.Proofs.Ytblachgndbmhaaa
open Go Go.Abs Go.PE
set_option linter.unusedVariables false
theorem m38_eq {l : List Int} (hl : l.length ≤ 1000) (most : Int) : m38 (l, most) = some (decide ((2 ≤ (l.length : Int) ∧ (l.length : Int) ≤ most) ∧ okW l)) := by
  unfold m38
  dsimp only
  have eN : lenM l = (l.length : Int) := rfl
  refine Ans.is (Ans.bind (P := fun o : Unit ⊕ Bool => match o with | .inl _ => okW l | .inr k => k = false ∧ ¬ okW l) ?_ ?_)
  · refine Ans.loop (fun k (s : Int) => s = (k : Int) ∧ ∀ x ∈ l.take k, 1 ≤ x ∧ x ≤ 9999) l.length ⟨rfl, fun x hx => (List.not_mem_nil hx).elim⟩ fun k s hk hs => ?_
    obtain ⟨rfl, hs⟩ := hs
    by_cases hlt : k < l.length
    · rw [ltI (by show (k : Int) < (l.length : Int); omega), cond_true, idxM_lt hlt, Option.bind_some]
      by_cases h1 : l[k] < 1
      · rw [ltI h1, notT, cond_false, Option.bind_some, orT, cond_true]
        exact Ans.some ⟨rfl, fun hh => by have := (hh _ (List.getElem_mem hlt)).1; omega⟩
      · rw [geI (by omega), notF, cond_true, Option.bind_some, orF]
        by_cases h2 : 9999 < l[k]
        · rw [ltI h2, cond_true]
          exact Ans.some ⟨rfl, fun hh => by have := (hh _ (List.getElem_mem hlt)).2; omega⟩
        · rw [geI (by omega), cond_false]
          refine Ans.some ⟨hlt, ?_, fun x h => ?_⟩
          · show IntKind.wrap IntKind.i64 ((k : Int) + 1) = _
            rw [wrap_in (by omega) (by omega)]; rfl
          · rw [List.take_succ_eq_append_getElem hlt] at h
            rcases List.mem_append.1 h with h | h
            · exact hs x h
            · rw [List.mem_singleton.1 h]; omega
    · rw [geI (by show (l.length : Int) ≤ (k : Int); omega), cond_false]
      rw [List.take_of_length_le (by omega)] at hs
      exact Ans.some hs
  · intro o ho
    cases o with
    | inl u =>
      have ho : okW l := ho
      refine Ans.some ?_
      show PE.andM (leM 2 (lenM l)) (leM (lenM l) most) = _
      rw [eN]
      refine Bool.eq_iff_iff.2 ?_
      unfold PE.andM
      rw [Bool.and_eq_true, decide_eq_true_iff, decide_eq_true_iff, decide_eq_true_iff]
      exact ⟨fun h => ⟨h, ho⟩, fun h => h.1⟩
    | inr k =>
      obtain ⟨h1, h2⟩ := ho
      subst h1
      refine Ans.some ?_
      exact (decide_eq_false fun h => h2 h.2).symm
theorem m18_eq {f : Int} (hf : i64 f) {l : List Int} (hl : l.length ≤ 1000) : m18 (f, l) = some (decide (vldC f l)) := by
  unfold m18
  refine bind_of (m38_eq hl 200) ?_
  have eN : lenM l = (l.length : Int) := rfl
  dsimp only
  rw [eN]
  refine congrArg some (Bool.eq_iff_iff.2 ?_)
  unfold PE.andM
  rw [Bool.and_eq_true, Bool.and_eq_true, Bool.and_eq_true, decide_eq_true_iff, decide_eq_true_iff, decide_eq_true_iff, decide_eq_true_iff, decide_eq_true_iff]
  unfold vldC
  constructor
  · rintro ⟨⟨⟨h1, h2⟩, h3⟩, h4⟩
    rw [wrap_in (n := f + (l.length : Int)) (by omega) (by omega), wrap_in (by omega) (by omega)] at h4
    exact ⟨h1, h2, by omega⟩
  · rintro ⟨h1, h2, h3⟩
    have := h1.1
    refine ⟨⟨⟨h1, h2⟩, by omega⟩, ?_⟩
    rw [wrap_in (n := f + (l.length : Int)) (by omega) (by omega), wrap_in (by omega) (by omega)]
    omega
theorem m26_eq {l : List Int} (hl : l.length ≤ 1000) : m26 l = some (decide (vldS l)) := by
  unfold m26
  exact bind_of (m38_eq hl 60) rfl
theorem m40_eq {l : List Int} {i : Nat} (hl : l.length ≤ 1000) (hi : i + 1 < l.length) : m40 (l, (i : Int)) = some (tr l i) := by
  unfold m40
  dsimp only
  have e : IntKind.wrap IntKind.i64 ((i : Int) + 1) = ((i + 1 : Nat) : Int) := by rw [wrap_in (by omega) (by omega)]; rfl
  rw [e, idxM_lt hi, Option.bind_some, idxM_lt (by omega : i < l.length), Option.bind_some, tr_of hi]
  unfold cmpI
  by_cases h1 : l[i] < l[i + 1]
  · rw [ltI h1, cond_true, if_neg (by omega), if_pos h1]
  · rw [geI (by omega), cond_false, Option.bind_some, Option.bind_some]
    by_cases h2 : l[i + 1] < l[i]
    · rw [ltI h2, cond_true, if_pos h2]
    · rw [geI (by omega), cond_false, if_neg h2, if_neg h1]
theorem trs_succ (l : List Int) (k : Nat) : trs l (k + 1) = trs l k ++ [tr l k] := by unfold trs; rw [List.range_succ, List.map_append]; rfl
theorem m20_bad {l : List Int} (h : ¬ ((2 ≤ (l.length : Int) ∧ (l.length : Int) ≤ 200) ∧ okW l)) : m20 l = some [] := by
  unfold m20
  refine bind_of (m36_eq l (by omega)) ?_
  rw [decide_eq_false h, notF, cond_true]
theorem m21_eq {l : List Int} (hl : l.length ≤ 1000) : m21 l = m20 l := by
  by_cases h : (2 ≤ (l.length : Int) ∧ (l.length : Int) ≤ 200) ∧ okW l
  · have hl := h.1
    rw [m20_eq h]
    unfold m21
    refine bind_of (m38_eq (by omega) 200) ?_
    rw [decide_eq_true h, notT, cond_false]
    refine bind_of (x := trs l (l.length - 1)) (count_loop (fun k => trs l k) (l.length - 1) (fun k hk => ?_) ?_) rfl
    · dsimp only
      rw [wrap_in (n := (k : Int) + 1) (by omega) (by omega), ltI (by show (k : Int) + 1 < (l.length : Int); omega), cond_true, m40_eq (by omega) (by omega), Option.bind_some, appM_of (by rw [trs_len]; show (k + 1) * 8 ≤ 140737488355328; omega), Option.bind_some, trs_succ]
    · dsimp only
      rw [wrap_in (by omega) (by omega), geI (by show (l.length : Int) ≤ ((l.length - 1 : Nat) : Int) + 1; omega), cond_false]
  · rw [m20_bad h]
    unfold m21
    refine bind_of (m38_eq hl 200) ?_
    rw [decide_eq_false h, notF, cond_true]
theorem m46_eq {f : Int} {c l : List Int} {p : Nat} (hc : c.length ≤ 1000) (h1 : 1 ≤ l.length) (h2 : p + l.length ≤ c.length) : m46 ((f, c), l, (p : Int)) = some (errs c l p) := by
  unfold m46
  dsimp only
  refine bind_of (x := errs c l p) (loopM_fn (fun k => (er (tr l) (fun i => tr c (p + i)) k, (k : Int))) (l.length - 1) (fun k hk => ?_) ?_) rfl
  · dsimp only
    have hs := er_sz (tr l) (fun i => tr c (p + i)) k
    have ek : IntKind.wrap IntKind.i64 ((k : Int) + 1) = ((k + 1 : Nat) : Int) := by rw [wrap_in (by omega) (by omega)]; rfl
    have ep : IntKind.wrap IntKind.i64 ((p : Int) + (k : Int)) = ((p + k : Nat) : Int) := by rw [wrap_in (by omega) (by omega)]; rfl
    rw [ek, ep, ltI (by show ((k + 1 : Nat) : Int) < (l.length : Int); omega), cond_true, m40_eq (by omega) (by omega), Option.bind_some, m40_eq hc (by omega), Option.bind_some]
    have e5 : er (tr l) (fun i => tr c (p + i)) (k + 1) = er (tr l) (fun i => tr c (p + i)) k + (if tr l k = tr c (p + k) then 0 else 1) := rfl
    rw [e5]
    by_cases h : tr l k = tr c (p + k)
    · rw [eqI h, notT, cond_false, Option.bind_some, if_pos h, Int.add_zero]
    · rw [neI h, notF, cond_true, Option.bind_some, if_neg h, wrap_in (by omega) (by omega)]
  · dsimp only
    rw [wrap_in (by omega) (by omega), geI (by show (l.length : Int) ≤ ((l.length - 1 : Nat) : Int) + 1; omega), cond_false]
    rfl
theorem m27_bad {f : Int} {c l : List Int} {p : Int} (h : ¬ (vldC f c ∧ vldS l ∧ 0 ≤ p ∧ p ≤ (c.length : Int) - l.length)) : m27 ((f, c), l, p) = some (0, 210) := by
  unfold m27
  dsimp only
  rw [m17_eq, Option.bind_some]
  by_cases hc : vldC f c
  · rw [decide_eq_true hc, notT, notF, cond_true, m25_eq, Option.bind_some]
    by_cases hl : vldS l
    · have b1 := hc.1.1
      have b2 := hl.1
      have e1 : IntKind.wrap IntKind.i64 (lenM c - lenM l) = (c.length : Int) - l.length := wrap_in (by show _ ≤ (c.length : Int) - (l.length : Int); omega) (by show (c.length : Int) - (l.length : Int) ≤ _; omega)
      rw [decide_eq_true hl, notT, orF, notF, cond_true, e1, m37_eq, Option.bind_some, decide_eq_false fun hh => h ⟨hc, hl, hh⟩, notF, orF, cond_true]
    · rw [decide_eq_false hl, notF, orF, notT, cond_false, Option.bind_some, orT, cond_true]
  · rw [decide_eq_false hc, notF, notT, cond_false, Option.bind_some, orT, notT, cond_false, Option.bind_some, orT, cond_true]
theorem m28_eq {f : Int} (hf : i64 f) {c l : List Int} (hc' : c.length ≤ 1000) (hl' : l.length ≤ 1000) (p : Int) : ∃ r, m27 ((f, c), l, p) = some r ∧ m28 ((f, c), l, p) = some r := by
  by_cases h : vldC f c ∧ vldS l ∧ 0 ≤ p ∧ p ≤ (c.length : Int) - l.length
  · obtain ⟨hc, hl, h0, h1⟩ := h
    have b1 := hc.1.1
    have b2 := hl.1
    obtain ⟨q, rfl⟩ := Int.eq_ofNat_of_zero_le h0
    refine ⟨_, m27_eq hc hl (by omega), ?_⟩
    unfold m28
    dsimp only
    have e1 : IntKind.wrap IntKind.i64 (lenM c - lenM l) = (c.length : Int) - l.length := wrap_in (by show _ ≤ (c.length : Int) - (l.length : Int); omega) (by show (c.length : Int) - (l.length : Int) ≤ _; omega)
    rw [m18_eq hf hc', Option.bind_some, decide_eq_true hc, notT, notF, cond_true, m26_eq hl', Option.bind_some, decide_eq_true hl, notT, orF, orF, e1, geI h0, orF, geI h1, cond_false, m46_eq hc' (by omega) (by omega)]
    rfl
  · refine ⟨_, m27_bad h, ?_⟩
    unfold m28
    dsimp only
    rw [m18_eq hf hc', Option.bind_some]
    by_cases hc : vldC f c
    · rw [decide_eq_true hc, notT, notF, cond_true, m26_eq hl', Option.bind_some]
      by_cases hl : vldS l
      · have b1 := hc.1.1
        have b2 := hl.1
        have e1 : IntKind.wrap IntKind.i64 (lenM c - lenM l) = (c.length : Int) - l.length := wrap_in (by show _ ≤ (c.length : Int) - (l.length : Int); omega) (by show (c.length : Int) - (l.length : Int) ≤ _; omega)
        rw [decide_eq_true hl, notT, orF, orF, e1]
        have e2 : PE.orM (ltM p 0) (ltM ((c.length : Int) - l.length) p) = true := by
          unfold PE.orM
          simp only [Bool.or_eq_true, decide_eq_true_eq]
          have : ¬ (0 ≤ p ∧ p ≤ (c.length : Int) - l.length) := fun hh => h ⟨hc, hl, hh⟩
          omega
        rw [e2, cond_true]
      · rw [decide_eq_false hl, notF, orF, orT, orT, cond_true]
    · rw [decide_eq_false hc, notF, notT, cond_false, Option.bind_some, orT, orT, orT, cond_true]
end Go.Proofs.Ytblachgndbmhaaa
/-
  Ring: the reference's Felled and Cross answer as Ring's do.
  No conditions.
-/
namespace Go.Proofs.Ytblachgndbmhaaa
open Go Go.Abs Go.PE
set_option linter.unusedVariables false
theorem m34_eq (y n : Int) (b : Bool) : m34 (y, n, b) = m33 (y, n, b) := by
  unfold m34 m33
  dsimp only
  rw [m37_eq, Option.bind_some]
  by_cases hy : 0 ≤ y ∧ y ≤ 2100
  · rw [decide_eq_true hy, notT, notF, cond_true, m37_eq, Option.bind_some, geI hy.1, geI hy.2, orF, orF, orF]
    by_cases hn : 0 ≤ n ∧ n ≤ 41
    · rw [decide_eq_true hn, notT, cond_false, geI hn.1, geI hn.2, orF, cond_false]
      cases b with
      | true =>
        rw [cond_true, cond_true, Option.bind_some, Option.bind_some]
        dsimp only
        have e1 : min y 2100 = y := by omega
        rw [wrap_in (n := y + 1) (by omega) (by omega), gtI (by omega), cond_false, e1, geI (Int.le_refl _), cond_false, wrap_in (by omega) (by omega)]
        have e2 : min (y + 1) 2101 = y + 1 := by omega
        rw [e2]
      | false =>
        rw [cond_false, cond_false]
        by_cases h0 : n = 0
        · rw [eqI h0, cond_true, cond_true, Option.bind_some, Option.bind_some, wrap_in (n := 9 - n) (by omega) (by omega), wrap_in (n := y + max 0 (9 - n)) (by omega) (by omega), wrap_in (n := y + 9) (by omega) (by omega)]
          dsimp only
          have e1 : y + max 0 (9 - n) = y + 9 := by omega
          rw [e1]
          by_cases h : y + 9 ≤ 2100
          · rw [gtI (show min (2101 : Int) 2101 > y + 9 by omega), geI (show y + 9 ≤ min (2100 : Int) 2100 by omega)]
            rfl
          · rw [leI (show min (2101 : Int) 2101 ≤ y + 9 by omega), ltI (show min (2100 : Int) 2100 < y + 9 by omega)]
            rfl
        · rw [neI h0, cond_false, cond_false, Option.bind_some, Option.bind_some, wrap_in (n := 9 - n) (by omega) (by omega), wrap_in (n := y + max 0 (9 - n)) (by omega) (by omega), wrap_in (n := y + 41) (by omega) (by omega), wrap_in (n := y + 41 - n) (by omega) (by omega), wrap_in (n := y + 41 - n + 1) (by omega) (by omega)]
          dsimp only
          by_cases h : y + max 0 (9 - n) ≤ min (y + 41 - n) 2100
          · rw [gtI (show y + max 0 (9 - n) < min (y + 41 - n + 1) 2101 by omega), geI h, cond_false, cond_false, wrap_in (n := min (y + 41 - n) 2100 + 1) (by omega) (by omega)]
            have e2 : min (y + 41 - n + 1) 2101 = min (y + 41 - n) 2100 + 1 := by omega
            rw [e2]
          · rw [leI (show min (y + 41 - n + 1) 2101 ≤ y + max 0 (9 - n) by omega), ltI (by omega), cond_true, cond_true]
    · rw [decide_eq_false hn, notF, cond_true]
      have e : PE.orM (ltM n 0) (ltM 41 n) = true := by
        unfold PE.orM
        simp only [Bool.or_eq_true, decide_eq_true_eq]
        omega
      rw [e, cond_true]
  · rw [decide_eq_false hy, notF, notT, cond_false, Option.bind_some, orT, cond_true]
    have e : PE.orM (ltM y 0) (ltM 2100 y) = true := by
      unfold PE.orM
      simp only [Bool.or_eq_true, decide_eq_true_eq]
      omega
    rw [e, orT, orT, cond_true]
end Go.Proofs.Ytblachgndbmhaaa
/-
  Ring: the reference's Cross and Match answer as Ring's do.
  No conditions.
-/
namespace Go.Proofs.Ytblachgndbmhaaa
open Go Go.Abs Go.PE
set_option linter.unusedVariables false
theorem m31_bad {fa fb : Int} {A B : List Int} (h : ¬ (vldC fa A ∧ vldC fb B)) : m31 ((fa, A), fb, B) = some (0, 0, 210) := by
  unfold m31
  dsimp only
  rw [m17_eq, Option.bind_some]
  by_cases ha : vldC fa A
  · rw [decide_eq_true ha, notT, notF, cond_true, m17_eq, Option.bind_some, decide_eq_false fun hb => h ⟨ha, hb⟩, notF, orF, cond_true]
  · rw [decide_eq_false ha, notF, notT, cond_false, Option.bind_some, orT, cond_true]
theorem m32_eq {fa fb : Int} {A B : List Int} (ha' : i64 fa) (hb' : i64 fb) (hA : A.length ≤ 1000) (hB : B.length ≤ 1000) : ∃ r, m31 ((fa, A), fb, B) = some r ∧ m32 ((fa, A), fb, B) = some r := by
  by_cases h : vldC fa A ∧ vldC fb B
  · obtain ⟨ha, hb⟩ := h
    have a1 := ha.1.1
    have a2 := ha.2
    have b1 := hb.1.1
    have b2 := hb.2
    have eA : lenM A = (A.length : Int) := rfl
    have eB : lenM B = (B.length : Int) := rfl
    obtain ⟨i, hi⟩ := Int.eq_ofNat_of_zero_le (show 0 ≤ max fa fb - fa by omega)
    obtain ⟨j, hj⟩ := Int.eq_ofNat_of_zero_le (show 0 ≤ max fa fb - fb by omega)
    have hres : m31 ((fa, A), fb, B) = some ((((min (fa + A.length) (fb + B.length) - 1 - max fa fb).toNat : Nat) : Int), er (fun z => tr A (i + z)) (fun z => tr B (j + z)) (min (fa + A.length) (fb + B.length) - 1 - max fa fb).toNat, 0) := by
      by_cases hs : min (fa + (A.length : Int)) (fb + (B.length : Int)) - max fa fb < 2
      · rw [m31_none ha hb hs, show (min (fa + (A.length : Int)) (fb + (B.length : Int)) - 1 - max fa fb).toNat = 0 by omega]
        rfl
      · exact m31_eq ha hb (by omega) (by omega) (by omega) (by omega)
    refine ⟨_, hres, ?_⟩
    generalize ht : min (fa + (A.length : Int)) (fb + (B.length : Int)) = t at *
    generalize hsm : max fa fb = s at *
    unfold m32
    dsimp only
    rw [m18_eq ha' hA, Option.bind_some, decide_eq_true ha, notT, notF, cond_true, m18_eq hb' hB, Option.bind_some, decide_eq_true hb, notT, orF, cond_false, eA, eB, wrap_in (n := fa + (A.length : Int)) (by omega) (by omega), wrap_in (n := fb + (B.length : Int)) (by omega) (by omega)]
    refine bind_of (x := ((((t - 1 - s).toNat : Nat) : Int), er (fun z => tr A (i + z)) (fun z => tr B (j + z)) (t - 1 - s).toNat)) ?_ rfl
    have hloop := loopM_fn (body := fun (z : Int × Int × Int) =>
                bif ltM (IntKind.wrap IntKind.i64 (z.2.2 + (1 : Int))) (fa + (A.length : Int)) then
                  Option.bind
                    (bif PE.orM (ltM z.2.2 fb) (leM (fb + (B.length : Int)) (IntKind.wrap IntKind.i64 (z.2.2 + (1 : Int)))) then
                      some (z.1, z.2.1)
                    else
                      Option.bind (m40 (A, IntKind.wrap IntKind.i64 (z.2.2 - fa))) fun (r_2 : Int) =>
                        Option.bind (m40 (B, IntKind.wrap IntKind.i64 (z.2.2 - fb))) fun (r : Int) =>
                          bif PE.notM (eqM r_2 r) then
                            some (IntKind.wrap IntKind.i64 (z.1 + (1 : Int)), IntKind.wrap IntKind.i64 (z.2.1 + (1 : Int)))
                          else some (IntKind.wrap IntKind.i64 (z.1 + (1 : Int)), z.2.1))
                    fun (o : Int × Int) => some (Sum.inl (o.1, o.2, IntKind.wrap IntKind.i64 (z.2.2 + (1 : Int))))
                else some (Sum.inr (z.1, z.2.1))) (r := ((((t - 1 - s).toNat : Nat) : Int), er (fun z => tr A (i + z)) (fun z => tr B (j + z)) (t - 1 - s).toNat)) (fun k => ((((min (fa + (k : Int)) (t - 1) - s).toNat : Nat) : Int), er (fun z => tr A (i + z)) (fun z => tr B (j + z)) (min (fa + (k : Int)) (t - 1) - s).toNat, fa + (k : Int))) (A.length - 1) (fun k hk => by
      have es := er_sz (fun z => tr A (i + z)) (fun z => tr B (j + z)) (min (fa + (k : Int)) (t - 1) - s).toNat
      dsimp only
      rw [wrap_in (n := fa + (k : Int) + 1) (by omega) (by omega), ltI (by omega), cond_true]
      have ef : fa + (k : Int) + 1 = fa + ((k + 1 : Nat) : Int) := by omega
      by_cases hy : fa + (k : Int) < fb ∨ fb + (B.length : Int) ≤ fa + (k : Int) + 1
      · have e : PE.orM (ltM (fa + (k : Int)) fb) (leM (fb + (B.length : Int)) (fa + (k : Int) + 1)) = true := by
          unfold PE.orM
          simp only [Bool.or_eq_true, decide_eq_true_eq]
          exact hy
        rw [e, cond_true, Option.bind_some, ef, show (min (fa + ((k + 1 : Nat) : Int)) (t - 1) - s).toNat = (min (fa + (k : Int)) (t - 1) - s).toNat by omega]
      · have e : PE.orM (ltM (fa + (k : Int)) fb) (leM (fb + (B.length : Int)) (fa + (k : Int) + 1)) = false := by
          unfold PE.orM
          simp only [Bool.or_eq_false_iff, decide_eq_false_iff_not]
          omega
        obtain ⟨q, hq⟩ := Int.eq_ofNat_of_zero_le (show 0 ≤ fa + (k : Int) - fb by omega)
        have w1 : IntKind.wrap IntKind.i64 (fa + (k : Int) - fa) = (k : Int) := by rw [wrap_in (by omega) (by omega)]; omega
        have w2 : IntKind.wrap IntKind.i64 (fa + (k : Int) - fb) = (q : Int) := by rw [wrap_in (by omega) (by omega)]; omega
        rw [e, cond_false, w1, w2, m40_eq hA (by omega), Option.bind_some, m40_eq hB (by omega), Option.bind_some, show (min (fa + ((k + 1 : Nat) : Int)) (t - 1) - s).toNat = (min (fa + (k : Int)) (t - 1) - s).toNat + 1 by omega]
        have e5 : er (fun z => tr A (i + z)) (fun z => tr B (j + z)) ((min (fa + (k : Int)) (t - 1) - s).toNat + 1) = er (fun z => tr A (i + z)) (fun z => tr B (j + z)) (min (fa + (k : Int)) (t - 1) - s).toNat + (if tr A k = tr B q then 0 else 1) := by
          show _ + (if tr A (i + (min (fa + (k : Int)) (t - 1) - s).toNat) = tr B (j + (min (fa + (k : Int)) (t - 1) - s).toNat) then 0 else 1) = _
          rw [show i + (min (fa + (k : Int)) (t - 1) - s).toNat = k by omega, show j + (min (fa + (k : Int)) (t - 1) - s).toNat = q by omega]
        rw [e5, ef]
        generalize hmm : (min (fa + (k : Int)) (t - 1) - s).toNat = mm at *
        rw [wrap_in (n := (mm : Int) + 1) (by omega) (by omega)]
        by_cases hh : tr A k = tr B q
        · rw [eqI hh, notT, cond_false, Option.bind_some, if_pos hh, Int.add_zero]
          rfl
        · rw [neI hh, notF, cond_true, Option.bind_some, if_neg hh, wrap_in (by omega) (by omega)]
          rfl) (by
      dsimp only
      rw [wrap_in (by omega) (by omega), geI (by omega), cond_false, show (min (fa + ((A.length - 1 : Nat) : Int)) (t - 1) - s).toNat = (t - 1 - s).toNat by omega])
    have e0 : (min (fa + ((0 : Nat) : Int)) (t - 1) - s).toNat = 0 := by omega
    rw [e0, show fa + ((0 : Nat) : Int) = fa from Int.add_zero fa] at hloop
    exact hloop
  · refine ⟨_, m31_bad h, ?_⟩
    unfold m32
    dsimp only
    rw [m18_eq ha' hA, Option.bind_some]
    by_cases ha : vldC fa A
    · rw [decide_eq_true ha, notT, notF, cond_true, m18_eq hb' hB, Option.bind_some, decide_eq_false fun hb => h ⟨ha, hb⟩, notF, orF, cond_true]
    · rw [decide_eq_false ha, notF, notT, cond_false, Option.bind_some, orT, cond_true]
end Go.Proofs.Ytblachgndbmhaaa
/-
  Ring: the reference's Match and Dated answer as Ring's do.
  No conditions.
-/
namespace Go.Proofs.Ytblachgndbmhaaa
open Go Go.Abs Go.PE
set_option linter.unusedVariables false
theorem m22_bad {f : Int} {c l : List Int} (h : ¬ (vldC f c ∧ vldS l)) : m22 ((f, c), l) = some ([], 210) := by
  unfold m22
  dsimp only
  rw [m17_eq, Option.bind_some]
  by_cases hc : vldC f c
  · rw [decide_eq_true hc, notT, notF, cond_true, m25_eq, Option.bind_some, decide_eq_false fun hl => h ⟨hc, hl⟩, notF, orF, cond_true]
  · rw [decide_eq_false hc, notF, notT, cond_false, Option.bind_some, orT, cond_true]
/-- What the reference has listed: k errors are done, and those with k errors before a place. -/
def Lst (E : Nat → Int) (M k j : Nat) (R : List Sp) : Prop := R.Pairwise spLt ∧ ∀ y, y ∈ R ↔ ∃ p : Nat, p < M ∧ y = ((p : Int), E p) ∧ (E p < k ∨ (E p = k ∧ p < j))
theorem spLt_irrefl (x : Sp) : ¬ spLt x x := fun h => by unfold spLt at h; omega
theorem Lst.nodup {E : Nat → Int} {M k j : Nat} {R : List Sp} (h : Lst E M k j R) : R.Nodup := h.1.imp fun {a b} hab e => by subst e; exact spLt_irrefl _ hab
theorem Lst.len {E : Nat → Int} {M k j : Nat} {R : List Sp} (h : Lst E M k j R) : R.length ≤ M := by
  have hp : R.Perm ((spots E M).filter fun y => decide (y.2 < k ∨ (y.2 = k ∧ y.1 < j))) := (List.perm_ext_iff_of_nodup h.nodup (List.Nodup.sublist List.filter_sublist (spots_nodup E M))).2 fun y => by
    rw [h.2 y, List.mem_filter, spots_mem, decide_eq_true_iff]
    constructor
    · rintro ⟨p, hp, rfl, hh⟩
      exact ⟨⟨p, hp, rfl⟩, by dsimp only; omega⟩
    · rintro ⟨⟨p, hp, rfl⟩, hh⟩
      dsimp only at hh
      exact ⟨p, hp, rfl, by omega⟩
  rw [hp.length_eq]
  have := List.length_filter_le (fun y : Sp => decide (y.2 < k ∨ (y.2 = k ∧ y.1 < j))) (spots E M)
  rwa [spots_len] at this
theorem m23_eq {f : Int} (hf : i64 f) {c l : List Int} (hc' : c.length ≤ 1000) (hl' : l.length ≤ 1000) : ∃ r : List Sp × Int, m22 ((f, c), l) = some r ∧ m23 ((f, c), l) = some r ∧ r.1.length ≤ 1000 := by
  by_cases h : vldC f c ∧ vldS l
  · obtain ⟨hc, hl⟩ := h
    have b1 := hc.1.1
    have b2 := hl.1
    obtain ⟨ys, y1, y2, y3⟩ := match_ok hc hl
    have hyl : ys.length ≤ 1000 := by rw [y2.length_eq, spots_len]; omega
    refine ⟨_, y1, ?_, hyl⟩
    have hE := errs_sz c l
    have hE2 : ∀ p, errs c l p < (l.length : Int) := fun p => by
      have := er_sz (tr l) (fun i => tr c (p + i)) (l.length - 1)
      unfold errs
      omega
    generalize hM : c.length + 1 - l.length = M at *
    have eL : lenM l = (l.length : Int) := rfl
    have eC : lenM c = (c.length : Int) := rfl
    unfold m23
    dsimp only
    rw [m18_eq hf hc', Option.bind_some, decide_eq_true hc, notT, notF, cond_true, m26_eq hl', Option.bind_some, decide_eq_true hl, notT, orF, cond_false, eL, eC, wrap_in (n := (c.length : Int) - (l.length : Int)) (by omega) (by omega)]
    refine Ans.is (Ans.bind (P := fun R => R = ys) ?_ fun o ho => by subst ho; exact Ans.some rfl)
    refine Ans.loop (fun k (s : Int × List Sp) => s.1 = (k : Int) ∧ Lst (errs c l) M k 0 s.2) l.length ⟨rfl, List.Pairwise.nil, fun y => ⟨fun hy => (List.not_mem_nil hy).elim, fun ⟨p, hp, e, hh⟩ => (by have := (hE p).1; rcases hh with hh | hh <;> omega)⟩⟩ fun k s hk hs => ?_
    obtain ⟨i, R⟩ := s
    obtain ⟨g1, g2⟩ := hs
    simp only at g1 g2
    subst g1
    dsimp only
    by_cases hlt : k < l.length
    · have ek : IntKind.wrap IntKind.i64 ((k : Int) + 1) = ((k + 1 : Nat) : Int) := by rw [wrap_in (by omega) (by omega)]; rfl
      rw [ltI (by omega), cond_true, ek]
      refine Ans.bind (P := fun R => Lst (errs c l) M (k + 1) 0 R) ?_ fun o ho => Ans.some ⟨hlt, rfl, ho⟩
      refine Ans.loop (fun j (s : Int × List Sp) => s.1 = (j : Int) ∧ Lst (errs c l) M k j s.2) M ⟨rfl, g2⟩ fun j s hj hs => ?_
      obtain ⟨i, R⟩ := s
      obtain ⟨g1, g2⟩ := hs
      simp only at g1 g2
      subst g1
      dsimp only
      by_cases hjl : j < M
      · have ej : IntKind.wrap IntKind.i64 ((j : Int) + 1) = ((j + 1 : Nat) : Int) := by rw [wrap_in (by omega) (by omega)]; rfl
        rw [leI (show (j : Int) ≤ (c.length : Int) - (l.length : Int) by omega), cond_true, m46_eq hc' (by omega) (by omega), Option.bind_some, ej]
        by_cases he : errs c l j = (k : Int)
        · have hlen := g2.len
          rw [eqI he, cond_true, appM_of (by show (R.length + 1) * 16 ≤ 140737488355328; omega), Option.bind_some]
          refine Ans.some ⟨hjl, rfl, ?_, fun y => ?_⟩
          · show (R ++ [_]).Pairwise spLt
            refine List.pairwise_append.2 ⟨g2.1, List.pairwise_singleton _ _, fun a ha b hb => ?_⟩
            rw [List.mem_singleton.1 hb]
            obtain ⟨p, hp, e, hh⟩ := (g2.2 a).1 ha
            rw [e]
            unfold spLt
            dsimp only
            omega
          · show y ∈ R ++ [_] ↔ _
            rw [List.mem_append, g2.2 y, List.mem_singleton]
            constructor
            · rintro (⟨p, hp, e, hh⟩ | e)
              · exact ⟨p, hp, e, by omega⟩
              · exact ⟨j, hjl, by rw [e, he], by omega⟩
            · rintro ⟨p, hp, e, hh⟩
              by_cases hpj : p = j
              · subst hpj
                exact .inr (by rw [e, he])
              · exact .inl ⟨p, hp, e, by omega⟩
        · rw [neI he, cond_false]
          refine Ans.some ⟨hjl, rfl, g2.1, fun y => ?_⟩
          show y ∈ R ↔ _
          rw [g2.2 y]
          constructor
          · rintro ⟨p, hp, e, hh⟩
            exact ⟨p, hp, e, by omega⟩
          · rintro ⟨p, hp, e, hh⟩
            by_cases hpj : p = j
            · subst hpj
              exact ⟨p, hp, e, by omega⟩
            · exact ⟨p, hp, e, by omega⟩
      · rw [gtI (show (c.length : Int) - (l.length : Int) < (j : Int) by omega), cond_false]
        refine Ans.some ⟨g2.1, fun y => ?_⟩
        show y ∈ R ↔ _
        rw [g2.2 y]
        constructor
        · rintro ⟨p, hp, e, hh⟩
          exact ⟨p, hp, e, by omega⟩
        · rintro ⟨p, hp, e, hh⟩
          exact ⟨p, hp, e, by omega⟩
    · rw [geI (by omega), cond_false]
      refine Ans.some ?_
      have hp : R.Perm ys := ((List.perm_ext_iff_of_nodup g2.nodup (spots_nodup (errs c l) M)).2 fun y => by
        rw [g2.2 y, spots_mem]
        constructor
        · rintro ⟨p, hp, e, _⟩
          exact ⟨p, hp, e⟩
        · rintro ⟨p, hp, e⟩
          exact ⟨p, hp, e, by have := hE2 p; omega⟩).trans y2.symm
      refine List.Perm.eq_of_pairwise (le := fun a b => ¬ spLt b a) (fun a b _ _ h1 h2 => ?_) (g2.1.imp fun {a b} hab hba => by unfold spLt at hab hba; omega) (List.pairwise_iff_getElem.2 fun i j hi hj hij => y3 i j hij hj) hp
      unfold spLt at h1 h2
      exact Prod.ext (by omega) (by omega)
  · refine ⟨_, m22_bad h, ?_, by show (0 : Nat) ≤ 1000; omega⟩
    unfold m23
    dsimp only
    rw [m18_eq hf hc', Option.bind_some]
    by_cases hc : vldC f c
    · rw [decide_eq_true hc, notT, notF, cond_true, m26_eq hl', Option.bind_some, decide_eq_false fun hl => h ⟨hc, hl⟩, notF, orF, cond_true]
    · rw [decide_eq_false hc, notF, notT, cond_false, Option.bind_some, orT, cond_true]
end Go.Proofs.Ytblachgndbmhaaa
/-
  Ring: the reference's Dated answers as Ring's does.
  No conditions.
-/
namespace Go.Proofs.Ytblachgndbmhaaa
open Go Go.Abs Go.PE
set_option linter.unusedVariables false
theorem m30_eq {f : Int} (hf : i64 f) {c l : List Int} (hc' : c.length ≤ 1000) (hl' : l.length ≤ 1000) (mg : Int) : ∃ r, m29 ((f, c), l, mg) = some r ∧ m30 ((f, c), l, mg) = some r := by
  obtain ⟨⟨ys, e⟩, q1, q2, q3⟩ := m23_eq hf hc' hl'
  have hb : ∀ y ∈ ys, 0 ≤ y.2 ∧ y.2 ≤ 1000 := fun y hy => by
    by_cases h : vldC f c ∧ vldS l
    · obtain ⟨zs, z1, z2, _⟩ := match_ok h.1 h.2
      rw [q1] at z1
      have ez : ys = zs := (Prod.mk.inj (Option.some.inj z1)).1
      subst ez
      obtain ⟨p, hp, rfl⟩ := spots_mem.1 (z2.mem_iff.1 hy)
      have := errs_sz c l p
      dsimp only
      omega
    · rw [m22_bad h] at q1
      have ez : [] = ys := (Prod.mk.inj (Option.some.inj q1)).1
      subst ez
      cases hy
  unfold m29 m30
  dsimp only
  rw [q1, q2, Option.bind_some, Option.bind_some]
  dsimp only
  by_cases he : e = 0
  · rw [eqI he, notT, notF, cond_true, m37_eq, Option.bind_some, orF, orF]
    by_cases hm : 1 ≤ mg ∧ mg ≤ 60
    · rw [decide_eq_true hm, notT, cond_false, geI hm.1, geI hm.2, orF, cond_false]
      have eN : lenM ys = (ys.length : Int) := rfl
      rw [eN]
      by_cases h0 : ys.length = 0
      · rw [eqI (show (ys.length : Int) = 0 by omega), notT, andF, cond_false, cond_false, Option.bind_some, Option.bind_some, orT, cond_true]
        exact ⟨_, rfl, rfl⟩
      · rw [neI (show (ys.length : Int) ≠ 0 by omega), notF, andT]
        have i0 := idxM_lt (xs := ys) (i := 0) (by omega)
        have i0 : idxM ys 0 = some (ys[0]'(by omega)) := i0
        by_cases h1 : 1 < ys.length
        · have i1 : idxM ys 1 = some (ys[1]'h1) := idxM_lt (xs := ys) (i := 1) h1
          have b0 := hb _ (List.getElem_mem (show 0 < ys.length by omega))
          have b1 := hb _ (List.getElem_mem h1)
          rw [ltI (show (1 : Int) < (ys.length : Int) by omega), cond_true, cond_true, i1, i0]
          simp only [Option.bind_some, andT, orF]
          rw [wrap_in (n := ys[1].2 - (ys[0]'(by omega)).2) (by omega) (by omega), wrap_in (n := (ys[0]'(by omega)).2 + mg) (by omega) (by omega)]
          by_cases hd : ys[1].2 - (ys[0]'(by omega)).2 < mg
          · rw [ltI hd, ltI (by omega), cond_true]
            exact ⟨_, rfl, rfl⟩
          · rw [geI (by omega), geI (by omega), cond_false]
            exact ⟨_, rfl, rfl⟩
        · rw [geI (show (ys.length : Int) ≤ 1 by omega), cond_false, cond_false, i0]
          simp only [Option.bind_some, andF, orF, cond_false]
          exact ⟨_, rfl, rfl⟩
    · rw [decide_eq_false hm, notF, cond_true]
      have e2 : PE.orM (ltM mg 1) (ltM 60 mg) = true := by
        unfold PE.orM
        simp only [Bool.or_eq_true, decide_eq_true_eq]
        omega
      rw [e2, cond_true]
      exact ⟨_, rfl, rfl⟩
  · rw [neI he, notF, notT, cond_false, Option.bind_some, orT, cond_true, orT, orT, cond_true]
    exact ⟨_, rfl, rfl⟩
end Go.Proofs.Ytblachgndbmhaaa
/-
  Ring: the law RingMatchesReference.
  No conditions.
-/
namespace Go.Proofs.Ytblachgndbmhaaa
open Go Go.Abs Go.PE
set_option linter.unusedVariables false
theorem eqbT (b : Bool) : eqbM b b = true := decide_eq_true rfl
theorem m20_any {l : List Int} (hl : l.length ≤ 1000) : ∃ t, m20 l = some t ∧ t.length ≤ 1000 := by
  by_cases h : (2 ≤ (l.length : Int) ∧ (l.length : Int) ≤ 200) ∧ okW l
  · exact ⟨_, m20_eq h, by rw [trs_len]; omega⟩
  · exact ⟨_, m20_bad h, by show (0 : Nat) ≤ 1000; omega⟩
theorem m19_self {l : List Int} (hl : l.length ≤ 1000) : m19 (l, l) = some true := by
  unfold m19
  dsimp only
  rw [eqI rfl, notT, cond_false]
  refine bind_of (x := Sum.inl ()) (loopM_fn (fun k => (k : Int)) l.length (fun k hk => ?_) ?_) rfl
  · rw [ltI (by show (k : Int) < (l.length : Int); omega), cond_true, idxM_lt hk, Option.bind_some, Option.bind_some, eqI rfl, notT, cond_false, wrap_in (by omega) (by omega)]
    rfl
  · rw [geI (Int.le_refl _), cond_false]
theorem m33_any (y n : Int) (b : Bool) : ∃ r, m33 (y, n, b) = some r := by
  have hA : ∀ c : Bool, ∀ u v : (Int × Int) × Int, ∃ r, (bif c then some u else some v) = some r := fun c u v => by cases c <;> exact ⟨_, rfl⟩
  unfold m33
  dsimp only
  rw [m37_eq, Option.bind_some, m37_eq]
  cases decide (0 ≤ y ∧ y ≤ 2100) with
  | false => exact ⟨_, rfl⟩
  | true =>
    cases decide (0 ≤ n ∧ n ≤ 41) with
    | false => exact ⟨_, rfl⟩
    | true =>
      cases b with
      | true => exact hA _ _ _
      | false =>
        show ∃ r, Option.bind (bif eqM n 0 then _ else _) _ = some r
        cases eqM n 0 with
        | true => exact hA _ _ _
        | false => exact hA _ _ _
theorem law3_ok (x : (Int × List Int) × List Int × Int × List Int × List Int × Int × Int × List (Int × Int) × Int × Int × Int × Bool) (h1 : i64 x.1.1) (h3 : i64 x.2.2.1) (h4 : ∀ v ∈ x.2.2.2.1, i64 v) (h5 : ∀ v ∈ x.2.2.2.2.1, i64 v) (h6 : i64 x.2.2.2.2.2.1) (h7 : i64 x.2.2.2.2.2.2.1) (h8 : ∀ c ∈ x.2.2.2.2.2.2.2.1, i64 c.1 ∧ i64 c.2) (h9 : i64 x.2.2.2.2.2.2.2.2.1) (h10 : i64 x.2.2.2.2.2.2.2.2.2.1) (h11 : i64 x.2.2.2.2.2.2.2.2.2.2.1) : m3 x = some true := by
  obtain ⟨c, l, n, p, e1, e2, e3, hf, hc, hcv, hn, hpn, hl, hlv⟩ := start_ok h3 h4 h6 h7 h8
  unfold m3
  refine bind_of sane_ok ?_
  rw [notT, cond_false]
  obtain ⟨c1, c2, _⟩ := cut_ok (l := x.1.2) (m := 40) (by omega)
  obtain ⟨c3, c4, _⟩ := cut_ok (l := x.2.1) (m := 61) (by omega)
  obtain ⟨S, d1, d2, d3, d4, d5⟩ := m15_ok (x := x.2.2.2.2.1) (least := 2) h5 (by omega)
  generalize x.1.2.take (min (lenM x.1.2) 40).toNat = R at *
  generalize x.2.1.take (min (lenM x.2.1) 61).toNat = L at *
  refine bind_of c1 (bind_of e1 (bind_of e2 (bind_of (m14_eq h10 (by omega)) (bind_of d1 (bind_of c3 (bind_of e3 ?_))))))
  dsimp only
  have p1 := pk_lo (c := x.2.2.2.2.2.2.2.2.2.1) (n := 80) (by omega)
  have p2 := pk_hi (c := x.2.2.2.2.2.2.2.2.2.1) (n := 80) (by omega)
  generalize hC : [(x.1.1, R), (pk x.2.2.1 1900, c), (max (0 : Int) (IntKind.wrap IntKind.i64 (IntKind.wrap IntKind.i64 (pk x.2.2.1 1900 + pk x.2.2.2.2.2.2.2.2.2.1 80) - (40 : Int))), S)] = C
  generalize hX : [L, l] = X
  have hCl : C.length = 3 := by rw [← hC]; rfl
  have hXl : X.length = 2 := by rw [← hX]; rfl
  have hCm : ∀ z ∈ C, i64 z.1 ∧ z.2.length ≤ 1000 := fun z hz => by
    rw [← hC] at hz
    rcases List.mem_cons.1 hz with rfl | hz
    · exact ⟨h1, by show R.length ≤ 1000; omega⟩
    · rcases List.mem_cons.1 hz with rfl | hz
      · exact ⟨by unfold i64; dsimp only; omega, by show c.length ≤ 1000; omega⟩
      · rw [List.mem_singleton.1 hz]
        refine ⟨?_, by show S.length ≤ 1000; omega⟩
        show i64 (max 0 _)
        rw [wrap_in (n := pk x.2.2.1 1900 + pk x.2.2.2.2.2.2.2.2.2.1 80) (by omega) (by omega), wrap_in (by omega) (by omega)]
        unfold i64
        omega
  have hXm : ∀ z ∈ X, z.length ≤ 1000 := fun z hz => by
    rw [← hX] at hz
    rcases List.mem_cons.1 hz with rfl | hz
    · omega
    · rw [List.mem_singleton.1 hz]; omega
  refine bind_of (x := Sum.inl ()) (loopM_fn (fun k => (k : Int)) 3 (fun k hk => ?_) rfl) ?_
  · have hkC : k < C.length := by omega
    have hk2 : 2 - k < C.length := by omega
    obtain ⟨z1, z2⟩ := hCm _ (List.getElem_mem hkC)
    obtain ⟨z3, z4⟩ := hCm _ (List.getElem_mem hk2)
    have e2k : IntKind.wrap IntKind.i64 (2 - (k : Int)) = ((2 - k : Nat) : Int) := by rw [wrap_in (by omega) (by omega)]; omega
    have i1 := idxM_lt hkC
    have i2 := idxM_lt hk2
    rw [ltI (by omega), cond_true, i1, Option.bind_some, e2k, i2]
    generalize C[k] = a at *
    generalize C[2 - k] = a' at *
    obtain ⟨t, t1, t2⟩ := m20_any z2
    rw [m17_eq, Option.bind_some, m18_eq z1 z2, Option.bind_some, eqbT, notT, notF, cond_true, t1, Option.bind_some, cond_true, m21_eq z2, t1, Option.bind_some, cond_true, m19_self t2, Option.bind_some, notT, orF, cond_false]
    refine bind_of (x := Sum.inl ()) (loopM_fn (fun k => (k : Int)) 2 (fun j hj => ?_) rfl) ?_
    · have hjX : j < X.length := by omega
      have zx := hXm _ (List.getElem_mem hjX)
      rw [ltI (by omega), cond_true, idxM_lt hjX, Option.bind_some]
      generalize X[j] = s at *
      obtain ⟨r, r1, r2, r3⟩ := m23_eq z1 z2 zx
      have r1 : m22 ((a.1, a.2), s) = some r := r1
      rw [r1, Option.bind_some, r2, Option.bind_some, eqI rfl, notT, notF, cond_true, m24_self (by omega), Option.bind_some, notT, orF, notF, cond_true, m25_eq, Option.bind_some, cond_true, m26_eq zx, Option.bind_some, eqbT, notT, orF, cond_false, m14_eq h6 (by omega), Option.bind_some]
      generalize hQ : [x.2.2.2.2.2.1, (p : Int), IntKind.wrap IntKind.i64 ((p : Int) + 1), pk x.2.2.2.2.2.1 80] = Q
      refine bind_of (x := Sum.inl ()) (loopM_fn (fun k => (k : Int)) Q.length (fun i hi => ?_) (by rw [geI (Int.le_refl _), cond_false])) ?_
      · have hQl : Q.length = 4 := by rw [← hQ]; rfl
        rw [ltI (by show (i : Int) < (Q.length : Int); omega), cond_true, idxM_lt hi, Option.bind_some]
        obtain ⟨u, u1, u2⟩ := m28_eq z1 z2 zx Q[i]
        rw [u1, Option.bind_some, u2, Option.bind_some, eqI rfl, eqI rfl, notT, orF, cond_false, wrap_in (by omega) (by omega)]
        rfl
      show Option.bind (m14 _) _ = _
      rw [m14_eq h9 (by omega), Option.bind_some]
      generalize hG : [x.2.2.2.2.2.2.2.2.1, IntKind.wrap IntKind.i64 ((1 : Int) + pk x.2.2.2.2.2.2.2.2.1 5)] = G
      refine bind_of (x := Sum.inl ()) (loopM_fn (fun k => (k : Int)) G.length (fun i hi => ?_) (by rw [geI (Int.le_refl _), cond_false])) ?_
      · have hGl : G.length = 2 := by rw [← hG]; rfl
        rw [ltI (by show (i : Int) < (G.length : Int); omega), cond_true, idxM_lt hi, Option.bind_some]
        obtain ⟨u, u1, u2⟩ := m30_eq z1 z2 zx G[i]
        rw [u1, Option.bind_some, u2, Option.bind_some, eqI rfl, eqI rfl, eqbT, notT, orF, orF, cond_false, wrap_in (by omega) (by omega)]
        rfl
      obtain ⟨u, u1, u2⟩ := m32_eq z1 z3 z2 z4
      rw [Sum.elim_inl]
      rw [Option.bind_some, u1, Option.bind_some, Option.bind_some, u2, Option.bind_some, eqI rfl, eqI rfl, eqI rfl, notT, orF, orF, cond_false, wrap_in (by omega) (by omega)]
      rfl
    · show some (Sum.inl (IntKind.wrap IntKind.i64 ((k : Int) + 1))) = _
      rw [wrap_in (by omega) (by omega)]
      rfl
  · show Option.bind (m14 _) _ = _
    rw [m14_eq h10 (by omega), Option.bind_some]
    generalize hY : [x.2.2.2.2.2.2.2.2.2.1, pk x.2.2.2.2.2.2.2.2.2.1 2101] = Y
    refine bind_of (x := Sum.inl ()) (loopM_fn (fun k => (k : Int)) Y.length (fun i hi => ?_) (by rw [geI (Int.le_refl _), cond_false])) rfl
    have hYl : Y.length = 2 := by rw [← hY]; rfl
    rw [ltI (by show (i : Int) < (Y.length : Int); omega), cond_true, idxM_lt hi, Option.bind_some, m14_eq h11 (by omega), Option.bind_some]
    generalize hZ : [x.2.2.2.2.2.2.2.2.2.2.1, pk x.2.2.2.2.2.2.2.2.2.2.1 42] = Z
    refine bind_of (x := Sum.inl ()) (loopM_fn (fun k => (k : Int)) Z.length (fun j hj => ?_) (by rw [geI (Int.le_refl _), cond_false])) ?_
    · have hZl : Z.length = 2 := by rw [← hZ]; rfl
      obtain ⟨u, u1⟩ := m33_any Y[i] Z[j] x.2.2.2.2.2.2.2.2.2.2.2
      rw [ltI (by show (j : Int) < (Z.length : Int); omega), cond_true, idxM_lt hj, Option.bind_some, u1, Option.bind_some, m34_eq, u1, Option.bind_some, eqI rfl, eqI rfl, eqI rfl, andT, notT, orF, cond_false, wrap_in (by omega) (by omega)]
      rfl
    · show some (Sum.inl (IntKind.wrap IntKind.i64 ((i : Int) + 1))) = _
      rw [wrap_in (by omega) (by omega)]
      rfl
end Go.Proofs.Ytblachgndbmhaaa
/-
  Ring: the plain law of RingMatchesReference, as the frame asks for it.
  No conditions.
-/
namespace Go.Proofs.Ytblachgndbmhaaa
open Go Go.Abs Go.PE
theorem law3 : ∀ (S : Cells) (w : World) (η : Eta) (vs : List Value) x, All2 (RM S w η) (rvs as3 x) vs → m3 x = some true :=
  law_of_ok fun x h => law3_ok x h.1.1 h.2.2.1 (i64_mem h.2.2.2.1) (i64_mem h.2.2.2.2.1) h.2.2.2.2.2.1 h.2.2.2.2.2.2.1 (pairs h.2.2.2.2.2.2.2.1) h.2.2.2.2.2.2.2.2.1 h.2.2.2.2.2.2.2.2.2.1 h.2.2.2.2.2.2.2.2.2.2.1
end Go.Proofs.Ytblachgndbmhaaa
