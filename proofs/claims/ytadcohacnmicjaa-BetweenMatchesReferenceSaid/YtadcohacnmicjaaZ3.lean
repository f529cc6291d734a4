/-
  Texts of this proof, put together: Pv, Pw, Py, Px, Ty, Tb, M0, M1.
  No conditions.
-/
import Derived.Test.YtadcohacnmicjaaZ2
import Derived.ProofKit
import Derived.OpenShut
import Derived.Carry
import Derived.Test.YtadcohacnmicjaaProg
import Derived.KernelRfl
set_option linter.all false
/-
  The pure machine: copy; lists that are known not to be empty.
  Conditions: none; it holds over any program P.
-/
namespace Go.PE
open Go Go.RowKit Go.Abs
set_option linter.unusedVariables false
set_option linter.unusedSimpArgs false

def copyM {α : Type} (xs ys : List α) : List α := ys.take xs.length ++ xs.drop ys.length
/-- A list that is only read; none in the inner place: it may be out of range. -/
def rdS (H : PH) (T : Ty) (pv : PV) : Option (Option (List T.den)) := match pv with
  | .r (.c (.h id)) => match lk H id with
    | some (.arr T' xs) => match castT (.list T) (t' := .list T') xs with
      | some xs => some (some xs)
      | none => none
    | some (.frz T' xs) => match castT (.list T) (t' := .list T') xs with
      | some xs => some (some xs)
      | none => none
    | _ => none
  | .r (.c (.rw id vid i)) => match lk H id with
    | some (.tab T' xss vid') => match castT (.list (.list T)) (t' := .list (.list T')) xss, Nat.beq vid vid' with
      | some xss, true => some (idxM xss i)
      | _, _ => none
    | _ => none
  | pv => match conP [] (.list T) pv with
    | some ys => some (some ys)
    | none => none
def copyR (Γ : Tabs) (t : TypeId) (pd ps : PV) (H : PH) (nx : Nat) : Option RdR := match elOf Γ t, pd with
  | some (_, _, T), .r (.c (.h id)) => match lk H id with
    | some (.arr T' xs) => match castT (.list T) (t' := .list T') xs, rdS H T ps with
      | some xs, some m => some (wr m [] (fun ys => .c (.d (.int .i64) (min (lenM ys) (lenM xs)))) (fun ys => [(id, .arr T (copyM xs ys))]) nx)
      | _, _ => none
    | _ => none
  | _, _ => none
/-- A list that is not empty, and so not nil. -/
def neR (Γ : Tabs) (dst : Option Nat) (pv : PV) (H : PH) (nx : Nat) : Option RdR := match memO dst Γ.own, pv with
  | true, .r (.c (.d (.list T) xs)) => some (par (neM xs) [] (fun ys => .c (.n T (some ys))) H nx)
  | _, _ => none
def opV : OpF := fun Γ o e ctx H nx => match o.op with
  | .assign x => match ev e ctx x with
    | some pv => neR Γ o.dst pv H nx
    | none => none
  | .call c => match c.callee, c.args.toList, c.argTypes.toList with
    | .builtin .copy, [d, s], [t, t'] => match ev e ctx d, ev e ctx s, Nat.beq t t' with
      | some pd, some ps, true => copyR Γ t pd ps H nx
      | _, _, _ => none
    | _, _, _ => none
  | _ => none

section
variable {P : Program} {Γ : Tabs} {B : Nat} {S : Cells} {w : World} {η : Eta} {H : PH} {nx : Nat}
theorem neR_ok {rd : Option Nat} {o : Oper} {e : Ev} {ctx : Ctx} {x : Operand} {pv : PV} {R : RdR} (hop : o.op = .assign x) (hw : Wf e) (hc : CtxH e ctx) (hx : ev e ctx x = some pv) (h : neR Γ o.dst pv H nx = some R) (r : R.T) (hr : R.m = some r) : R.OK P rd B o e (H, nx) r := by
  have hd : ∀ c, o.op ≠ .defer c := by rw [hop]; intro c hh; cases hh
  unfold neR at h
  split at h
  · rename_i T xs _
    cases h
    obtain ⟨ys, hys⟩ : ∃ ys : List T.den, ys = r := ⟨r, rfl⟩
    subst hys
    obtain ⟨e1, hne⟩ := neM_some hr
    subst e1
    refine ok_par (T := List T.den) hd (fun S w η a hi ho => ?_)
    have hv := ev_sound hw hc hx (by rw [hop]; simp [Op.operands]) ho
    refine ⟨a.eval x, by simp [execOp, hop], ?_⟩
    obtain ⟨_, hv⟩ := hv
    obtain ⟨base, cap, e1, e2, e3, e4⟩ := VRep.slice hv
    refine ⟨hv, ?_⟩
    rcases e4 with e4 | ⟨b, off, rfl, _⟩
    · exact absurd (List.eq_nil_of_length_eq_zero e4) hne
    · exact ⟨_, _, _, e1⟩
  · cases h
theorem rdS_sound (hi : HInv B η H S w) {T : Ty} {pv : PV} {v : Value} {ys : List T.den} (h : rdS H T pv = some (some ys)) (hm : PM S w η pv v) :
    ∃ base cap, v = .slice base ys.length cap ∧ ys.length ≤ maxLen ∧ (ys.length = 0 ∨ ∃ b off, base = some ⟨b, off, none⟩ ∧ ∀ (i : Nat) (x : T.den), ys[i]? = some x → ∃ es, Rep S w T x es ∧ ∀ j u, es[j]? = some u → w.cell? ⟨b, off + i * T.size + j, none⟩ = some u) := by
  have ofV : VRep S w (.list T) ys v → ∃ base cap, v = .slice base ys.length cap ∧ ys.length ≤ maxLen ∧ (ys.length = 0 ∨ ∃ b off, base = some ⟨b, off, none⟩ ∧ ∀ (i : Nat) (x : T.den), ys[i]? = some x → ∃ es, Rep S w T x es ∧ ∀ j u, es[j]? = some u → w.cell? ⟨b, off + i * T.size + j, none⟩ = some u) := by
    intro hv
    obtain ⟨base, cap, e1, e2, e3, e4⟩ := VRep.slice hv
    refine ⟨base, cap, e1, Nat.le_trans e2 e3, e4.imp (fun h => h) ?_⟩
    rintro ⟨b, off, h1, h2⟩
    refine ⟨b, off, h1, fun i x hx => ?_⟩
    obtain ⟨es, h3, h4⟩ := h2 i x hx
    exact ⟨es, h3, fun j u hj => (h4 j u hj).2⟩
  have ofA : ∀ F, ArrH F S w v T ys → ∃ base cap, v = .slice base ys.length cap ∧ ys.length ≤ maxLen ∧ (ys.length = 0 ∨ ∃ b off, base = some ⟨b, off, none⟩ ∧ ∀ (i : Nat) (x : T.den), ys[i]? = some x → ∃ es, Rep S w T x es ∧ ∀ j u, es[j]? = some u → w.cell? ⟨b, off + i * T.size + j, none⟩ = some u) := by
    rintro F ⟨base, cap, e1, e2, e3, e4⟩
    refine ⟨base, cap, e1, Nat.le_trans e2 e3, ?_⟩
    rcases e4 with ⟨e4, _⟩ | ⟨b, off, h1, _, _, h2⟩
    · exact .inl (by omega)
    · exact .inr ⟨b, off, h1, h2⟩
  unfold rdS at h
  split at h
  · rename_i id
    split at h
    · rename_i T' xs hlk
      split at h
      · rename_i xs' hcast
        cases h
        obtain ⟨hT, hxs⟩ := castT_some hcast
        cases hT
        have hxs : xs = ys := hxs
        subst hxs
        obtain ⟨F1, _, u, g1, hA⟩ := hi.read hlk
        have := hm.1
        rw [g1] at this
        cases this
        exact ofA _ hA
      · cases h
    · rename_i T' xs hlk
      split at h
      · rename_i xs' hcast
        cases h
        obtain ⟨F1, _, u, g1, _, hA⟩ := hi.read hlk
        have := hm.1
        rw [g1] at this
        cases this
        exact ofV (castT_vrep hcast hA)
      · cases h
    · cases h
  · rename_i id vid i
    split at h
    · rename_i T' xss vid' hlk
      split at h
      · rename_i xss' hcast hb
        obtain ⟨hT, hxs⟩ := castT_some hcast
        cases hT
        have hxs : xss = xss' := hxs
        subst hxs
        have := Nat.eq_of_beq_eq_true hb
        subst this
        have h := Option.some.inj h
        obtain ⟨_, _, hg⟩ := idxM_some h
        obtain ⟨us0, f1, f2, f3⟩ := hm
        obtain ⟨F1, _, u, us, k1, k2, k3, hA⟩ := hi.read hlk
        rw [f1] at k2
        cases k2
        obtain ⟨b, off, Fi, _, _, hR⟩ := hA.row hg
        have hus : us0.getD i.toNat undef = v := by simp [Array.getD_eq_getD_getElem?, f2]
        rw [hus] at hR
        exact ofA _ hR
      · cases h
    · cases h
  · split at h
    · rename_i ys' hy
      cases h
      exact ofV (conP_sound (HInv.empty hi.inw) hy hm)
    · cases h
theorem ArrH.over {F : Cells} {u : Value} {T : Ty} {xs ys : List T.den} {news : List Value} (hF : ∀ b o, F b o → B ≤ b ∧ b < w.heap.size ∧ ¬ S b o) (hin : InW S w) (h : ArrH F S w u T xs) (hl : ys.length ≤ xs.length) (h0 : 0 < ys.length)
    (hr : RepL S w T ys news) : ∃ b off cap, u = .slice (some ⟨b, off, none⟩) xs.length cap ∧ (∀ m, m < news.length → F b (off + m) ∧ World.there w b (off + m)) ∧ Grow B S w S (w.setCells b off news) ∧ ArrH F S (w.setCells b off news) u T (ys ++ xs.drop ys.length) := by
  obtain ⟨base, cap, rfl, c1, c2, c3⟩ := h
  have hnl := hr.length
  rcases c3 with ⟨c3, _⟩ | ⟨b, off, rfl, hf, ht, hxs⟩
  · omega
  have hm : xs.length * T.size ≤ cap * T.size := Nat.mul_le_mul_right _ c1
  have hm2 : ys.length * T.size ≤ xs.length * T.size := Nat.mul_le_mul_right _ hl
  have hin2 : ∀ m, m < news.length → F b (off + m) ∧ World.there w b (off + m) := fun m hm => ⟨(hf _ _).2 ⟨rfl, by omega, by omega⟩, ht _ (by omega) (by omega)⟩
  have hpos : 0 < news.length := by rw [hnl]; exact Nat.mul_pos h0 T.size_pos
  have hst : Grow B S w S (w.setCells b off news) := Grow.stored hin (hF _ _ (hin2 0 hpos).1).1 fun m hm => (hF _ _ (hin2 m hm).1).2.2
  have hcells : ∀ m u, news[m]? = some u → (w.setCells b off news).cell? ⟨b, off + m, none⟩ = some u := fun m u hm => by
    have hml := (List.getElem?_eq_some_iff.1 hm).1
    rw [World.cell?_setCells_in b news _ w (fun m hm => by obtain ⟨_, ⟨v, hv⟩, _⟩ := hin2 m hm; rw [hv]; rfl) m hml]
    rw [List.getElem?_eq_getElem hml] at hm
    exact hm
  have hlen : (ys ++ xs.drop ys.length).length = xs.length := by simp; omega
  refine ⟨b, off, cap, rfl, hin2, hst, _, cap, by rw [hlen], by omega, c2, .inr ⟨b, off, rfl, hf, fun o h1 h2 => ?_, fun m y hm => ?_⟩⟩
  · obtain ⟨⟨z, hz⟩, hfz⟩ := ht o h1 h2
    refine ⟨?_, by rw [World.frozen?_setCells]; exact hfz⟩
    by_cases hio : o < off + news.length
    · have := hcells (o - off) _ (List.getElem?_eq_getElem (by omega))
      rw [show off + (o - off) = o by omega] at this
      exact ⟨_, this⟩
    · exact ⟨z, by rw [World.cell?_setCells_out b news _ w ⟨b, o, none⟩ fun _ _ => by simp only; omega]; exact hz⟩
  · by_cases hmy : m < ys.length
    · rw [List.getElem?_append_left hmy] at hm
      obtain ⟨es, he, hc⟩ := hr.get m y hm
      refine ⟨es, he.keep hst.keep, fun j v hj => ?_⟩
      rw [Nat.add_assoc]; exact hcells _ v (hc j v hj)
    · rw [List.getElem?_append_right (by omega), List.getElem?_drop, show ys.length + (m - ys.length) = m by omega] at hm
      obtain ⟨es, he, hc⟩ := hxs m y hm
      refine ⟨es, he.keep hst.keep, fun j v hj => ?_⟩
      have hmm : ys.length * T.size ≤ m * T.size := Nat.mul_le_mul_right _ (by omega)
      rw [World.cell?_setCells_out b news _ w ⟨b, off + m * T.size + j, none⟩ fun _ _ => by simp only; omega]
      exact hc j v hj
theorem copyR_ok (hΓ : TabOK P Γ) {rd : Option Nat} {o : Oper} {e : Ev} {ctx : Ctx} {t : TypeId} {d s : Operand} {pd ps : PV} {R : RdR} (hop : o.op = .call { callee := .builtin .copy, args := #[d, s], argTypes := #[t, t] }) (hw : Wf e) (hc : CtxH e ctx) (hxd : ev e ctx d = some pd) (hxs : ev e ctx s = some ps)
    (h : copyR Γ t pd ps H nx = some R) (r : R.T) (hr : R.m = some r) : R.OK P rd B o e (H, nx) r := by
  have hd : ∀ c, o.op ≠ .defer c := by rw [hop]; intro c hh; cases hh
  have hm1 : d ∈ o.op.operands.toList := by rw [hop]; simp [Op.operands, Call.operands]
  have hm2 : s ∈ o.op.operands.toList := by rw [hop]; simp [Op.operands, Call.operands]
  unfold copyR at h
  split at h
  · rename_i el bts T id hel
    have hS := elOf_sound hΓ hel
    split at h
    · rename_i T' xs' hlk
      split at h
      · rename_i xs m hcast hm
        cases h
        obtain ⟨hT, hxx⟩ := castT_some hcast
        cases hT
        have hxx : xs' = xs := hxx
        subst hxx
        have hm : rdS H T ps = some (some r) := by rw [hm]; exact congrArg some hr
        obtain ⟨ys, hys⟩ : ∃ ys : List T.den, ys = r := ⟨r, rfl⟩
        subst hys
        refine ok_fl2 rfl hd fun S w η a hi hlen ho => ?_
        obtain ⟨f1, f2⟩ := ev_sound hw hc hxd hm1 ho
        obtain ⟨sb, sc, e1, e2, e3⟩ := rdS_sound hi hm (ev_sound hw hc hxs hm2 ho)
        obtain ⟨F1, hF1, u, k1, hA⟩ := hi.read hlk
        rw [f1] at k1
        cases k1
        obtain ⟨i, z, i1, i2, i3, i4, i5⟩ := hS.info
        have hsz : ∀ w, (sizeOf el).run P w = .ok T.size w := fun w => by simp [sizeOf, typeInfo, i1, i4]
        obtain ⟨db, dc, hdu, hdm, _⟩ := hA.hdr
        have hval : CM S w η (.d (.int .i64) (min (lenM ys) (lenM xs') : Int)) (goInt (Nat.min ys.length xs'.length)) := by
          refine ⟨rfl, VRep.int.2 ⟨?_, ?_⟩⟩
          · simp only [goInt, lenM]
            congr 1
            rw [show Nat.min ys.length xs'.length = min ys.length xs'.length from rfl]
            omega
          · rw [has_i64]; simp only [lenM, maxLen] at *; omega
        by_cases h0 : 0 < min ys.length xs'.length
        · rcases e3 with e3 | ⟨b2, off2, rfl, hx2⟩
          · omega
          obtain ⟨news, hrl, hrc⟩ := RepL.of (b := b2) (off := off2) (xs := ys.take xs'.length) (fun i x hx => hx2 i x (by
            have hil := (List.getElem?_eq_some_iff.1 hx).1
            simp at hil
            rw [List.getElem?_take_of_lt (by omega)] at hx; exact hx))
          have hnl := hrl.length
          rw [List.length_take] at hnl
          have hld : (loadCells ⟨b2, off2, none⟩ (Nat.min ys.length xs'.length * T.size)).run P w = .ok news.toArray w := by
            have := run_loadCells_list (P := P) w ⟨b2, off2, none⟩ news fun j v hj => by rw [Addr.add_lit]; exact hrc j v hj
            rwa [hnl, show min xs'.length ys.length = Nat.min ys.length xs'.length from Nat.min_comm _ _] at this
          obtain ⟨b, off, cap, hue, hin, hg, hA'⟩ := ArrH.over hF1 hi.inw hA (ys := ys.take xs'.length) (by simp; omega) (by simp; omega) hrl
          have hst : (storeCells ⟨b, off, none⟩ news 0).run P w = .ok () (w.setCells b off news) := by
            have := run_storeCells_cells (P := P) b off news 0 w (fun j hj => by
              obtain ⟨_, ⟨v, hv⟩, _⟩ := hin j hj
              rw [Nat.add_zero, hv]; rfl) (fun j hj => by rw [Nat.add_zero]; exact (hin j hj).2.2) hrl.one
            rwa [Nat.add_zero] at this
          have hrun : (execOp a.eval o).run P w = .ok (.value (goInt (Nat.min ys.length xs'.length))) (w.setCells b off news) := by
            simp [execOp, hop, resolve, invoke, builtin, e1, hue, Builtin.copy_, run_underlying hS.und, Builtin.lenOf, hsz, Builtin.firstCells, hld, hst]
          have hcm : ys.take xs'.length ++ xs'.drop (ys.take xs'.length).length = copyM xs' ys := by
            unfold copyM
            rw [List.length_take]
            by_cases hle : ys.length ≤ xs'.length
            · rw [Nat.min_eq_right hle]
            · rw [Nat.min_eq_left (by omega), List.drop_eq_nil_of_le (Nat.le_refl _), List.drop_eq_nil_of_le (by omega)]
          rw [hcm] at hA'
          refine ⟨_, _, S, η, .inl hrun, hg, .refl _, Out.refl _ _ _, ?_, CM.mono hg.keep (.refl _) hval⟩
          show HInv B η ((id, .arr T (copyM xs' ys)) :: H) S _
          refine hi.set hlk (by rw [size_setCells]; exact Nat.le_refl _) hg.lt hg.keep fun G hG hAG => ?_
          obtain ⟨u2, q1, hAG⟩ := hAG
          rw [f1] at q1
          cases q1
          obtain ⟨b3, off3, cap3, hu3, hin3, hg3, hA3⟩ := ArrH.over hG hi.inw hAG (ys := ys.take xs'.length) (by simp; omega) (by simp; omega) hrl
          rw [hue] at hu3
          injection hu3 with q1 q2 q3
          injection q1 with q1
          injection q1 with q4 q5
          subst q4; subst q5
          rw [hcm] at hA3
          have hnpos : 0 < news.length := by rw [hnl]; exact Nat.mul_pos (by omega) T.size_pos
          refine ⟨fun _ _ h => .inl h, fun b' o' _ hn => ⟨World.cell?_setCells_out b news off w ⟨b', o', none⟩ fun hb _ => ?_, World.frozen?_setCells _ _ _ _ _⟩, fun b' _ hn => heap_setCells_ne b news _ w b' fun h => hn _ (h ▸ (hin3 0 hnpos).1), G, ⟨_, f1, hA3⟩, fun b o h => ⟨.inl h, by rw [size_setCells]; exact (hG b o h).2.1, (hG b o h).2.2⟩⟩
          simp only at hb ⊢
          subst hb
          rcases Nat.lt_or_ge o' off with h | h
          · exact .inl h
          · refine .inr (Nat.le_of_not_lt fun hlt => hn ?_)
            have := (hin3 (o' - off) (by omega)).1
            rwa [show off + (o' - off) = o' by omega] at this
        · have hn0 : Nat.min ys.length xs'.length = 0 := by
            have : min ys.length xs'.length = 0 := by omega
            exact this
          have hl0 : ∀ q, (loadCells q 0).run P w = .ok #[] w := fun q => by simpa using run_loadCells_list (P := P) w q [] (fun j v hj => by simp at hj)
          have hrun : (execOp a.eval o).run P w = .ok (.value (goInt 0)) w := by
            cases db <;> cases sb <;> simp [execOp, hop, resolve, invoke, builtin, e1, hdu, Builtin.copy_, run_underlying hS.und, Builtin.lenOf, hsz, Builtin.firstCells, storeCells, hl0, hn0]
          have hcm : copyM xs' ys = xs' := by
            unfold copyM
            have : ys.length = 0 ∨ xs'.length = 0 := by omega
            rcases this with h | h
            · rw [List.eq_nil_of_length_eq_zero h]; simp
            · rw [List.eq_nil_of_length_eq_zero h]; simp
          rw [hn0] at hval
          refine ⟨_, _, S, η, .inl hrun, Grow.refl hi.inw, .refl _, Out.refl _ _ _, ?_, hval⟩
          show HInv B η ((id, .arr T (copyM xs' ys)) :: H) S w
          rw [hcm]
          exact hi.set hlk (Nat.le_refl _) hi.inw (Keep.refl _ _) fun F2 hF2 hA2 => ⟨fun _ _ h => .inl h, fun _ _ _ _ => ⟨rfl, rfl⟩, fun _ _ _ => rfl, F2, hA2, fun b o h => ⟨.inl h, (hF2 b o h).2⟩⟩
      · cases h
    · cases h
  · cases h
theorem opV_sound : OpF.Sound opV := by
  intro P Γ hΓ rd B o e ctx H nx R h hw hc r hr
  unfold opV at h
  split at h
  · rename_i x hop
    split at h
    · rename_i pv hx; exact neR_ok hop hw hc hx h r hr
    · cases h
  · rename_i c hop
    split at h
    · rename_i d s t t' hcal hxs hts
      have hce := call_eta hcal hxs hts
      subst hce
      split at h
      · rename_i pd ps hd hs hb
        have := Nat.eq_of_beq_eq_true hb
        subst this
        exact copyR_ok hΓ hop hw hc hd hs h r hr
      · cases h
    · cases h
  · cases h
end
end Go.PE
/-
  The pure machine: more operations that look at no object.
  Conditions: none; it holds over any program P.
-/
namespace Go.PE
open Go Go.RowKit Go.Abs
set_option linter.unusedVariables false
set_option linter.unusedSimpArgs false

/-- append onto a literal that is not empty: its array is full, so what comes out is data. -/
def appQ (Γ : Tabs) (t : TypeId) (ps px : PV) (H : PH) (nx : Nat) : Option RdR := match elOf Γ t, ps with
  | some (_, bts, T), .r (.c (.q T' (x :: xs))) => match castT (.list T) (t' := .list T') (x :: xs), conP [] (.list T) px with
    | some xs, some ys => some (par (appM bts xs ys) [] (fun zs => .c (.d (.list T) zs)) H nx)
    | _, _ => none
  | _, _ => none
def opW : OpF := fun Γ o e ctx H nx => match o.op with
  | .call c => match c.callee, c.args.toList, c.argTypes.toList with
    | .builtin .append, [s, x], [t, t'] => match ev e ctx s, ev e ctx x, Nat.beq t t' with
      | some ps, some px, true => appQ Γ t ps px H nx
      | _, _, _ => none
    | _, _, _ => none
  | _ => none
section
variable {P : Program} {Γ : Tabs} {B : Nat} {S : Cells} {w : World} {η : Eta} {H : PH} {nx : Nat}
theorem appQ_ok (hΓ : TabOK P Γ) {rd : Option Nat} {o : Oper} {e : Ev} {ctx : Ctx} {t : TypeId} {s x : Operand} {ps px : PV} {R : RdR} {hs' : Hl} (hop : o.op = .call { callee := .builtin .append, args := #[s, x], argTypes := #[t, t] }) (hw : Wf e) (hc : CtxH e ctx) (hs : ev e ctx s = some ps) (hx : ev e ctx x = some px)
    (h : appQ Γ t ps px H nx = some R) (r : R.T) (hr : R.m = some r) : R.OK P rd B o e hs' r := by
  have hd : ∀ c, o.op ≠ .defer c := by rw [hop]; intro c hh; cases hh
  have hm1 : s ∈ o.op.operands.toList := by rw [hop]; simp [Op.operands, Call.operands]
  have hm2 : x ∈ o.op.operands.toList := by rw [hop]; simp [Op.operands, Call.operands]
  unfold appQ at h
  split at h
  · rename_i el bts T T' x0 xs0 hel
    have hS := elOf_sound hΓ hel
    split at h
    · rename_i xs ys hcast hsrc
      cases h
      obtain ⟨hT, hxx⟩ := castT_some hcast
      cases hT
      have hxx : x0 :: xs0 = xs := hxx
      obtain ⟨zs, hzs'⟩ : ∃ zs : List T.den, zs = r := ⟨r, rfl⟩
      subst hzs'
      obtain ⟨hb, hzs⟩ := appM_some hr
      show ∀ S w η a, InW S w → En.Only (lk e) (opReads o) S w η a.tmps → OpW P rd o a w (fun a' w' => ∃ v S', a' = a.put o.dst v ∧ Grow w.heap.size S w S' w' ∧ PM S' w' η (.c (.d (.list T) zs)) v)
      intro S w η a hi ho
      have hv := conP_sound (HInv.empty hi) hsrc (ev_sound hw hc hx hm2 ho)
      obtain ⟨hq1, base, hq2⟩ := ev_sound hw hc hs hm1 ho
      rw [hxx] at hq1 hq2
      by_cases hy : ys = []
      · subst hy
        have hrun : (Builtin.append_ #[t, t] o.type #[a.eval s, a.eval x]).run P w = .ok (a.eval s) w := by
          obtain ⟨news, hrl, hsrc⟩ := VRep.src (P := P) hS.und hv
          obtain ⟨i, z, i1, i2, i3, i4, i5⟩ := hS.info
          have hn0 : news = [] := hrl
          subst hn0
          have hl := hsrc.len w
          simp only [List.length_nil] at hl
          have hc' : (Builtin.firstCells T.size 0 (a.eval x)).run P w = .ok #[] w := hsrc.cells
          rw [hq2]
          rcases hsrc.kind with ⟨e', hk⟩ | hk
          · simp [Builtin.append_, run_underlying hS.und, sizeOf, typeInfo, i1, i4, hl, hc']
            cases base <;> simp [storeCells]
          · rw [hS.und] at hk; cases hk
        refine OpW.value hd (run_appendV hop hrun) ⟨_, S, rfl, Grow.refl hi, rfl, ?_⟩
        rw [hzs, List.append_nil]; exact hq1
      · have hyl : 0 < ys.length := List.length_pos_iff.2 hy
        obtain ⟨base', cap', q1, q2, q3, q4⟩ := VRep.slice hq1
        rw [hq2] at q1
        cases q1
        have hold : ∃ olds, RepL S w T xs olds ∧ (Builtin.firstCells T.size xs.length (.slice base xs.length xs.length)).run P w.drew = .ok olds.toArray w.drew := by
          rcases q4 with q4 | ⟨b, off, rfl, q4⟩
          · have : xs = [] := List.eq_nil_of_length_eq_zero q4
            rw [← hxx] at this; cases this
          · obtain ⟨cs, hr, hc⟩ := RepL.of (b := b) (off := off) (fun i x hx => by
              obtain ⟨es, he, hg⟩ := q4 i x hx
              exact ⟨es, he, fun j u hj => (hg j u hj).2⟩)
            refine ⟨cs, hr, run_firstCells_some _ _ _ _ _ _ cs hr.length (fun j u hj => ?_)⟩
            rw [Addr.add_lit]; exact hc j u hj
        obtain ⟨olds, hro, hold⟩ := hold
        obtain ⟨cap', cs, hrun, d1, d2, d3, d4, ns, hns, hc⟩ := run_append_grow (ty := o.type) hS hro hold hv (by omega) hb
        have hk : Keep S w (fun b o => S b o ∨ (b = w.heap.size ∧ o < cs.size)) (w.drew.alloc (.cells cs el)) := ⟨fun _ _ h => .inl h, fun b o h => by rw [World.cell?_alloc_lt _ _ _ (hi b o h)]; rfl⟩
        rw [← hq2] at hrun
        refine OpW.value hd (run_appendV hop hrun) ⟨_, fun b o => S b o ∨ (b = w.heap.size ∧ o < cs.size), rfl, ⟨((Below.refl _ _).drew).alloc (Nat.le_refl _) _, hk, ?_, ?_, (LK.drew _).trans (LK.alloc _ _)⟩, rfl, ?_⟩
        · intro b o h
          rcases h with h | ⟨rfl, _⟩
          · have := hi b o h; simp; omega
          · simp
        · intro b o h
          rcases h with h | ⟨rfl, _⟩
          · exact .inl h
          · exact .inr (Nat.le_refl _)
        · have hzl : xs.length + ys.length = zs.length := by rw [hzs, List.length_append]
          rw [← hzs] at hns
          rw [hzl] at d1 ⊢
          refine VRep.mkSlice (hns.keep hk) d1 d2 fun j u hj => ?_
          have hjl := (Array.getElem?_eq_some_iff.1 (hc j u hj)).1
          rw [Nat.zero_add]
          refine ⟨.inr ⟨rfl, hjl⟩, ?_⟩
          rw [World.cell?_alloc_at _ _ _ _ (by simp)]; exact hc j u hj
    · cases h
  · cases h
theorem opW_sound : OpF.Sound opW := by
  intro P Γ hΓ rd B o e ctx H nx R h hw hc r hr
  unfold opW at h
  split at h
  · rename_i c hop
    split at h
    · rename_i s x t t' hcal hxs hts
      have hce := call_eta hcal hxs hts
      subst hce
      split at h
      · rename_i ps px hs hx hb
        have := Nat.eq_of_beq_eq_true hb
        subst this
        exact appQ_ok hΓ hop hw hc hs hx h r hr
      · cases h
    · cases h
  · cases h
end
theorem opW_indep {Γ : Tabs} {H H' : PH} {nx : Nat} {e : Ev} {ctx : Ctx} {o : Oper} : opW Γ o e ctx H' nx = opW Γ o e ctx H nx := rfl
theorem opW_nice : opW.Nice := ⟨fun _ _ _ _ _ _ _ _ => rfl, fun _ _ _ _ _ _ _ h _ _ => h⟩
end Go.PE
/-
  The pure machine: all operations (2).
  Conditions: none; it holds over any program P.
-/
namespace Go.PE
open Go Go.RowKit Go.Abs
set_option linter.unusedVariables false
set_option linter.unusedSimpArgs false
theorem OpF.Nice.or' {F G : OpF} (hF : F.Nice) (hG : G.Nice) (hd : ∀ Γ o e ctx H nx R, G Γ o e ctx H nx = some R → R.fl = 0 → F Γ o e ctx H nx = none → ∀ H', F Γ o e ctx H' nx = none) : (F.or G).Nice := by
  constructor
  · intro Γ o e ctx H H' nx h
    unfold OpF.or
    rw [hF.loc _ _ _ _ _ _ _ h, hG.loc _ _ _ _ _ _ _ h]
  · intro Γ o e ctx H nx R h h0 H'
    unfold OpF.or at h ⊢
    split at h
    · rename_i R' h1
      cases h
      rw [hF.pure0 _ _ _ _ _ _ _ h1 h0 H']
    · rename_i h1
      rw [hd _ _ _ _ _ _ _ h h0 h1 H']
      exact hG.pure0 _ _ _ _ _ _ _ h h0 H'
section
variable {Γ : Tabs} {H H' : PH} {nx : Nat} {e : Ev} {ctx : Ctx} {o : Oper}
theorem appT_loc {t : TypeId} {pa pv : PV} (h : Ag pa.ids H H') (h2 : Ag pv.ids H H') : appT Γ t pa pv H' nx = appT Γ t pa pv H nx := by
  unfold appT
  generalize elOf Γ t = q
  cases q with
  | none => cases pa <;> first | rfl | (rename_i v; cases v <;> first | rfl | (rename_i x; cases x <;> rfl))
  | some p =>
    cases pa with
    | r v =>
      cases v with
      | c x =>
        cases x <;> first | rfl | skip
        rename_i id vid i
        have h1 : lk (fzP H' pv) id = lk (fzP H pv) id := (fzP_ag h2 h).one
        simp only [h1, srcOf_loc h2, dP_loc h2]
      | s l => rfl
    | _ => rfl
theorem stT_loc {t : TypeId} {pa pv : PV} (h : Ag pa.ids H H') (h2 : Ag pv.ids H H') : stT Γ t pa pv H' nx = stT Γ t pa pv H nx := by
  unfold stT
  generalize lk Γ.ty t = q
  split
  · rename_i id sz i k ti
    have h1 : lk H' id = lk H id := Ag.one h
    simp only [h1]
    split
    · rfl
    · rename_i j T xss vid _ _
      have h3 : lk H' j = lk H j := Ag.one h2
      simp only [h3]
    · rfl
  · rename_i id vid sz i j k ti
    split
    · rename_i v T' hT
      have h2 : Ag v.ids H H' := h2
      have h1 : lk (fzR H' v) id = lk (fzR H v) id := (fzR_ag (v := v) h2 h).one
      have h3 : conR (fzR H' v) T' v = conR (fzR H v) T' v := conR_loc (fzR_ag h2 h2)
      have h4 : dR H' v = dR H v := dR_loc h2
      simp only [h1, h3, h4]
    · rfl
  · rfl
theorem rdS_loc {T : Ty} {pv : PV} (h : Ag pv.ids H H') : rdS H' T pv = rdS H T pv := by
  unfold rdS
  cases pv with
  | r v =>
    cases v with
    | c x => cases x <;> first | rfl | (have h1 := Ag.one h; simp only [h1])
    | s l => rfl
  | _ => rfl
theorem copyR_loc {t : TypeId} {pa pv : PV} (h : Ag pa.ids H H') (h2 : Ag pv.ids H H') : copyR Γ t pa pv H' nx = copyR Γ t pa pv H nx := by
  unfold copyR
  generalize elOf Γ t = q
  cases q with
  | none => cases pa <;> first | rfl | (rename_i v; cases v <;> first | rfl | (rename_i x; cases x <;> rfl))
  | some p =>
    cases pa with
    | r v =>
      cases v with
      | c x =>
        cases x <;> first | rfl | skip
        have h1 := Ag.one h
        simp only [h1, rdS_loc h2]
      | s l => rfl
    | _ => rfl
theorem opU_fl {R : RdR} (h : opU Γ o e ctx H nx = some R) : R.fl ≠ 0 := by
  unfold opU at h
  split at h
  · split at h
    · unfold mkT at h; (repeat' split at h) <;> first | (cases h; exact Nat.succ_ne_zero _) | cases h
    · cases h
  · split at h
    · split at h
      · unfold appT at h; (repeat' split at h) <;> first | (cases h; exact Nat.succ_ne_zero _) | cases h
      · cases h
    · cases h
  · split at h
    · unfold stT at h; (repeat' split at h) <;> first | (cases h; exact Nat.succ_ne_zero _) | cases h
    · cases h
  · cases h
theorem opU_nice : opU.Nice := by
  constructor
  · intro Γ o e ctx H H' nx h
    unfold opU
    split
    · split <;> rfl
    · rename_i c hop
      split
      · rename_i s x t t' hcal ha ht
        split
        · rename_i ps px hs hx ht'
          obtain ⟨h1, h2⟩ := opIds2 (by rw [hop]; simp [Op.operands, Call.operands, hcal, ha]) hs hx h
          exact appT_loc h1 h2
        · rfl
      · rfl
    · rename_i t a x hop
      split
      · rename_i pa pv ha hx
        obtain ⟨h1, h2⟩ := opIds2 (by rw [hop]; simp [Op.operands]) ha hx h
        exact stT_loc h1 h2
      · rfl
    · rfl
  · intro Γ o e ctx H nx R h h0 H'
    exact absurd h0 (opU_fl h)
theorem opV_nice : opV.Nice := by
  constructor
  · intro Γ o e ctx H H' nx h
    unfold opV
    split
    · split <;> rfl
    · rename_i c hop
      split
      · rename_i s x t t' hcal ha ht
        split
        · rename_i ps px hs hx ht'
          obtain ⟨h1, h2⟩ := opIds2 (by rw [hop]; simp [Op.operands, Call.operands, hcal, ha]) hs hx h
          exact copyR_loc h1 h2
        · rfl
      · rfl
    · rfl
  · intro Γ o e ctx H nx R h h0 H'
    unfold opV at h ⊢
    split at h
    · split at h
      · exact h
      · cases h
    · split at h
      · split at h
        · unfold copyR at h
          (repeat' split at h) <;> first | (cases h; cases h0) | cases h
        · cases h
      · cases h
    · cases h
/-- What OPS1 makes of a call of a builtin that opU or opV may take, or of a store or make, is not pure. -/
theorem OPS1_builtin {c : Call} {b : Builtin} {R : RdR} (hb : b = .append ∨ b = .copy) (hop : o.op = .call c) (hc : c.callee = .builtin b) (h : OPS1 Γ o e ctx H nx = some R) : R.fl ≠ 0 := by
  unfold OPS1 opAll OpF.or at h
  split at h
  · rename_i R1 h1
    cases h
    split at h1
    · rename_i R2 h2
      cases h1
      split at h2
      · rename_i R3 h3
        cases h2
        unfold OpF.calm at h3
        split at h3
        · rename_i R4 h4
          unfold opA at h4
          simp only [hop, hc] at h4
          unfold bltA at h4
          rcases hb with rfl | rfl <;> cases h4
        · cases h3
      · exact opH1_fl h2
    · unfold opC at h1
      simp only [hop, hc] at h1
      cases h1
  · unfold opD at h
    simp only [hop] at h
    cases h
theorem OPS1_mk {t : TypeId} {x y : Operand} {R : RdR} (hop : o.op = .makeSlice t x y) (h : OPS1 Γ o e ctx H nx = some R) : R.fl ≠ 0 := by
  unfold OPS1 opAll OpF.or at h
  split at h
  · rename_i R1 h1
    cases h
    split at h1
    · rename_i R2 h2
      cases h1
      split at h2
      · rename_i R3 h3
        cases h2
        unfold OpF.calm opA at h3
        simp only [hop] at h3
        cases h3
      · exact opH1_fl h2
    · unfold opC at h1
      simp only [hop] at h1
      cases h1
  · unfold opD at h
    simp only [hop] at h
    cases h
theorem OPS1_store {t : TypeId} {x y : Operand} {R : RdR} (hop : o.op = .store t x y) (h : OPS1 Γ o e ctx H nx = some R) : R.fl ≠ 0 := by
  unfold OPS1 opAll OpF.or at h
  split at h
  · rename_i R1 h1
    cases h
    split at h1
    · rename_i R2 h2
      cases h1
      split at h2
      · rename_i R3 h3
        cases h2
        unfold OpF.calm opA at h3
        simp only [hop] at h3
        cases h3
      · exact opH1_fl h2
    · unfold opC at h1
      simp only [hop] at h1
      cases h1
  · unfold opD at h
    simp only [hop] at h
    cases h
def OPS2 : OpF := (opU.or opV).or OPS1
theorem OPS2_sound : OPS2.Sound := (opU_sound.or opV_sound).or OPS1_sound
theorem OPS2_nice : OPS2.Nice := by
  refine (opU_nice.or' opV_nice fun Γ o e ctx H nx R h h0 hn H' => ?_).or' OPS1_nice fun Γ o e ctx H nx R h h0 hn H' => ?_
  · unfold opV at h
    unfold opU
    split at h
    · rename_i x hop; simp only [hop]
    · rename_i c hop
      simp only [hop]
      split at h
      · rename_i hcal ha ht
        simp only [hcal]
      · cases h
    · cases h
  · unfold OpF.or opU opV at hn ⊢
    split
    · rename_i R' h1
      split at h1
      · rename_i hop; exact absurd h0 (OPS1_mk hop h)
      · rename_i c hop
        split at h1
        · rename_i hcal ha ht; exact absurd h0 (OPS1_builtin (.inl rfl) hop hcal h)
        · cases h1
      · rename_i hop; exact absurd h0 (OPS1_store hop h)
      · cases h1
    · rename_i h1
      split
      · rename_i x hop
        simp only [hop] at hn
        exact hn
      · rename_i c hop
        split
        · rename_i hcal ha ht; exact absurd h0 (OPS1_builtin (.inr rfl) hop hcal h)
        · rfl
      · rfl
/-- Operations that look at no object come first. -/
def OPS : OpF := opW.or OPS2
theorem OPS_sound : OPS.Sound := opW_sound.or OPS2_sound
theorem OPS_nice : OPS.Nice := opW_nice.or' OPS2_nice fun Γ o e ctx H nx R h h0 hn H' => (by rw [opW_indep]; exact hn)
end
/-- Without the contracts of some functions: these are run. -/
def dropK {α : Type} (l : List Nat) : List (Nat × α) → List (Nat × α)
  | [] => []
  | (k, v) :: r => match memN l k with
    | true => dropK l r
    | false => (k, v) :: dropK l r
theorem lk_dropK {α : Type} {l : List Nat} {i : Nat} {x : α} : ∀ {sp : List (Nat × α)}, lk (dropK l sp) i = some x → lk sp i = some x
  | [], h => h
  | (k, v) :: r, h => by
    unfold dropK at h
    by_cases hk : k = i
    · subst hk
      cases hm : memN l k with
      | true =>
        rw [hm] at h
        -- it has been dropped
        have : ∀ {sp : List (Nat × α)}, lk (dropK l sp) k = none := by
          intro sp
          induction sp with
          | nil => rfl
          | cons y ys ih =>
            obtain ⟨j, u⟩ := y
            unfold dropK
            cases hj : memN l j with
            | true => exact ih
            | false =>
              show lk ((j, u) :: dropK l ys) k = none
              rw [lk_ne _ _ (fun he => by rw [he, hm] at hj; cases hj)]
              exact ih
        rw [this] at h; cases h
      | false => rw [hm] at h; rw [lk_same] at h ⊢; exact h
    · rw [lk_ne _ _ hk]
      cases hm : memN l k with
      | true => rw [hm] at h; exact lk_dropK h
      | false =>
        rw [hm] at h
        have h : lk ((k, v) :: dropK l r) i = some x := h
        rw [lk_ne _ _ hk] at h
        exact lk_dropK h
def Tabs.drop (Γ : Tabs) (l : List Nat) : Tabs := { Γ with sp := dropK l Γ.sp }
theorem TabOK.drop {P : Program} {Γ : Tabs} (h : TabOK P Γ) (l : List Nat) : TabOK P (Γ.drop l) :=
  ⟨h.ty, h.fn, fun f s hl => h.sp f s (lk_dropK hl), fun f s hl => h.en f s (lk_dropK hl), h.mixed⟩
end Go.PE
/-
  From a contract of the pure machine to a given statement: arguments read as data; a law that is true of all data.
  Conditions: none; it holds over any program P.
-/
namespace Go.PE
open Go Go.RowKit Go.Abs Go.ChangeShapes Go.WideShapes Go.ChangeAt
set_option linter.unusedVariables false
set_option linter.unusedSimpArgs false

mutual
/-- The type t holds data of the shape T. -/
inductive TyP (P : Program) : TypeId → Ty → Prop where
  | int {t k} : P.underlying t = some (.int k) → TyP P t (.int k)
  | bool {t} : P.underlying t = some .bool → TyP P t .bool
  | str {t} : P.underlying t = some .string → TyP P t .str
  | list {t e T} : P.underlying t = some (.slice e) → P.cellsOf e = T.size → TyP P e T → TyP P t (.list T)
  | struct1 {t fs T} : P.underlying t = some (.struct fs) → P.cellsOf t = T.size → FsP P (fs.toList.map fun f => (f.offset, f.type)) 0 T → fs.size = 1 → TyP P t (.one T)
  | struct {t fs A B} : P.underlying t = some (.struct fs) → P.cellsOf t = A.size + B.size → FsP P (fs.toList.map fun f => (f.offset, f.type)) 0 (.pair A B) → TyP P t (.pair A B)
  | array1 {t e T} : P.underlying t = some (.array 1 e) → P.cellsOf t = T.size → FsP P [(0, e)] 0 T → TyP P t (.one T)
  | array {t n e A B} : P.underlying t = some (.array n e) → P.cellsOf t = A.size + B.size → FsP P ((List.range n).map fun i => (i * P.cellsOf e, e)) 0 (.pair A B) → TyP P t (.pair A B)
/-- The fields have, one after the other, the shape T. -/
inductive FsP (P : Program) : List (Nat × TypeId) → Nat → Ty → Prop where
  | last {off t T} : P.cellsOf t = T.size → TyP P t T → FsP P [(off, t)] off T
  | cons {off t A B l} : P.cellsOf t = A.size → TyP P t A → FsP P l (off + A.size) B → FsP P ((off, t) :: l) off (.pair A B)
end
def InWd (w : World) : Cells := fun b _ => b < w.heap.size
theorem exists_list {α : Type} {p : Nat → α → Prop} : ∀ (n : Nat), (∀ i, i < n → ∃ y, p i y) → ∃ ys : List α, ys.length = n ∧ ∀ i y, ys[i]? = some y → p i y
  | 0, _ => ⟨[], rfl, fun i y h => by simp at h⟩
  | n + 1, h => by
    obtain ⟨ys, h1, h2⟩ := exists_list n fun i hi => h i (by omega)
    obtain ⟨y, hy⟩ := h n (by omega)
    refine ⟨ys ++ [y], by simp [h1], fun i z hz => ?_⟩
    by_cases hi : i < ys.length
    · rw [List.getElem?_append_left hi] at hz; exact h2 i z hz
    · rw [List.getElem?_append_right (by omega)] at hz
      have : i - ys.length = 0 := by
        have := (List.getElem?_eq_some_iff.1 hz).1
        simp at this; omega
      rw [this] at hz
      simp at hz
      subst hz
      rw [show i = n by omega]; exact hy
section
variable {H : Type} {enc : TypeId × Value → H} {P : Program} {w : World} {base : Nat} {spare : Nat → Bool} {held : Bool}
theorem cells?_get {a : Addr} {n : Nat} {cs : List Value} (h : w.cells? base a n = some cs) : cs.length = n ∧ ∀ j u, cs[j]? = some u → w.cell? (a.add j) = some u := by
  obtain ⟨_, h1, h2⟩ := World.cells?_some h
  refine ⟨h1, fun j u hj => ?_⟩
  have hl := (List.getElem?_eq_some_iff.1 hj).1
  rw [h2 j (by omega)]; exact hj
theorem trod_rep : ∀ (fuel : Nat) {t : TypeId} {T : Ty} {cs : List Value} {x : DataW H × List MemPlace}, TyP P t T → DataW.trod enc P w base spare held fuel t cs = some x → ∃ y : T.den, Rep (InWd w) w T y cs := by
  intro fuel
  induction fuel with
  | zero => intro t T cs x _ h; simp [DataW.trod] at h
  | succ n ih =>
    -- fields
    have fields : ∀ {l : List (Nat × TypeId)} {off : Nat} {T : Ty} {cs : List Value}, FsP P l off T → off + T.size ≤ cs.length → (∀ (i : Nat) p, l[i]? = some p → ∃ x, DataW.trod enc P w base spare held n p.2 ((cs.drop p.1).take (P.cellsOf p.2)) = some x) →
        ∃ y : T.den, Rep (InWd w) w T y ((cs.drop off).take T.size) := by
      intro l
      induction l with
      | nil => intro off T cs h; cases h
      | cons p l ihl =>
        intro off T cs h hlen ht
        cases h with
        | last hc hty =>
          obtain ⟨x, hx⟩ := ht 0 _ rfl
          rw [← hc]
          exact ih hty hx
        | @cons _ t A B _ hc hty hr =>
          obtain ⟨x, hx⟩ := ht 0 _ rfl
          rw [hc] at hx
          obtain ⟨y1, h1⟩ := ih hty hx
          have hsz : (Ty.pair A B).size = A.size + B.size := rfl
          rw [hsz] at hlen
          obtain ⟨y2, h2⟩ := ihl hr (by omega) fun i p hp => ht (i + 1) p (by simpa using hp)
          refine ⟨(y1, y2), _, _, ?_, h1, h2⟩
          rw [hsz]
          rw [List.take_add, List.drop_drop]
    intro t T cs x hT h
    cases hT with
    | int hu =>
      obtain ⟨m, rfl, _, hw⟩ := DataW.trod_int hu h
      refine ⟨m, rfl, ?_⟩
      simp [Lit.wf] at hw
      exact hw
    | bool hu => obtain ⟨b, rfl, _⟩ := DataW.trod_bool hu h; exact ⟨b, rfl⟩
    | str hu =>
      obtain ⟨s, rfl, _, hs⟩ := DataW.trod_string hu h
      exact ⟨s.data.toList, by simp, by simpa using hs⟩
    | @list _ e T hu hc hty =>
      rcases DataW.trod_slice hu h with ⟨rfl, _⟩ | ⟨a, len, cap, elems, rest, m, hm, rfl, _, _, h1, h2, h3, h4, _⟩
      · exact ⟨[], none, 0, rfl, Nat.le_refl _, Nat.zero_le _, .inl rfl⟩
      · cases hm
        rw [hc] at h4
        have hex : ∀ i, i < len → ∃ y : T.den, ∃ es, Rep (InWd w) w T y es ∧ ∀ j u, es[j]? = some u → w.cell? ((a.add (i * T.size)).add j) = some u := by
          intro i hi
          have h5 := h4 i hi
          rw [List.getElem?_eq_getElem (by omega)] at h5
          obtain ⟨es, h6, h7⟩ := Option.bind_eq_some_iff.1 h5
          obtain ⟨y, hy⟩ := ih hty h7
          exact ⟨y, es, hy, (cells?_get h6).2⟩
        obtain ⟨ys, hl, hys⟩ := exists_list len hex
        refine ⟨ys, some a, cap, by rw [hl], by rw [hl]; exact h1, h2, ?_⟩
        by_cases h0 : len = 0
        · left; show List.length ys = 0; omega
        · right
          have hsp : a.spot = none := by
            obtain ⟨y, es, hr, hg⟩ := hex 0 (by omega)
            have hel := hr.length
            have hpos := T.size_pos
            have := hg 0 _ (List.getElem?_eq_getElem (by omega))
            unfold World.cell? at this
            split at this
            · split at this
              · cases this
              · rename_i hs
                simpa [Addr.add] using hs
            · cases this
          obtain ⟨b, off, sp⟩ := a
          simp only at hsp
          subst hsp
          refine ⟨b, off, rfl, fun i y hy => ?_⟩
          obtain ⟨es, hr, hg⟩ := hys i y hy
          refine ⟨es, hr, fun j u hj => ?_⟩
          have h5 := hg j u hj
          rw [Addr.add_lit, Addr.add_lit] at h5
          exact ⟨World.block_lt_of_cell? _ _ h5, h5⟩
    | @struct1 _ fs T hu hc hf h1 =>
      obtain ⟨xs, m, hm, _, hl, hxl, hx⟩ := DataW.trod_struct hu h
      cases hm
      obtain ⟨y, hy⟩ := fields hf (by rw [hl, hc]; omega) fun i p hp => by
        simp only [List.getElem?_map, Option.map_eq_some_iff] at hp
        obtain ⟨f, hf1, rfl⟩ := hp
        have hil : i < xs.length := by rw [hxl]; simpa using (List.getElem?_eq_some_iff.1 hf1).1
        exact ⟨xs[i], by rw [← List.getElem?_eq_getElem hil]; exact hx i f (by simpa using hf1)⟩
      rw [List.drop_zero, List.take_of_length_le (by omega)] at hy
      exact ⟨y, hy⟩
    | @struct _ fs A B hu hc hf =>
      obtain ⟨xs, m, hm, _, hl, hxl, hx⟩ := DataW.trod_struct hu h
      cases hm
      have hsz : (Ty.pair A B).size = A.size + B.size := rfl
      obtain ⟨y, hy⟩ := fields hf (by rw [hl, hc, hsz]; omega) fun i p hp => by
        simp only [List.getElem?_map, Option.map_eq_some_iff] at hp
        obtain ⟨f, hf1, rfl⟩ := hp
        have hil : i < xs.length := by rw [hxl]; simpa using (List.getElem?_eq_some_iff.1 hf1).1
        exact ⟨xs[i], by rw [← List.getElem?_eq_getElem hil]; exact hx i f (by simpa using hf1)⟩
      rw [List.drop_zero, List.take_of_length_le (by rw [hl, hc, hsz]; omega)] at hy
      exact ⟨y, hy⟩
    | @array1 _ e T hu hc hf =>
      obtain ⟨xs, m, hm, _, hl, hxl, hx⟩ := DataW.trod_array hu h
      cases hm
      obtain ⟨y, hy⟩ := fields hf (by rw [hl, hc]; omega) fun i p hp => by
        have hi0 : i = 0 := by have := (List.getElem?_eq_some_iff.1 hp).1; simp at this; exact this
        subst hi0
        simp at hp
        subst hp
        have := hx 0 (by omega)
        rw [Nat.zero_mul] at this
        exact ⟨xs[0], by rw [← List.getElem?_eq_getElem (by omega)]; exact this⟩
      rw [List.drop_zero, List.take_of_length_le (by omega)] at hy
      exact ⟨y, hy⟩
    | @array _ k e A B hu hc hf =>
      obtain ⟨xs, m, hm, _, hl, hxl, hx⟩ := DataW.trod_array hu h
      cases hm
      have hsz : (Ty.pair A B).size = A.size + B.size := rfl
      obtain ⟨y, hy⟩ := fields hf (by rw [hl, hc, hsz]; omega) fun i p hp => by
        simp only [List.getElem?_map, Option.map_eq_some_iff] at hp
        obtain ⟨j, hj, rfl⟩ := hp
        have hjl : i < k := by have := (List.getElem?_eq_some_iff.1 hj).1; simpa using this
        have hji : j = i := by rw [List.getElem?_range hjl] at hj; cases hj; rfl
        subst hji
        exact ⟨xs[j], by rw [← List.getElem?_eq_getElem (by omega)]; exact hx j hjl⟩
      rw [List.drop_zero, List.take_of_length_le (by rw [hl, hc, hsz]; omega)] at hy
      exact ⟨y, hy⟩

theorem TyP.agg : ∀ {t : TypeId} {T : Ty} {v : Value} {r : Reach} {b0 : Nat} {x : T.den}, TyP P t T → Value.okWide P w r b0 t v → Rep (InWd w) w T x v.cells.toList → VRep (InWd w) w T x v := by
  intro t T v r b0 x hT hok hr
  refine ⟨_, hr, ?_⟩
  cases hT with
  | int hu => obtain ⟨n, rfl⟩ := okWide_int hu hok; rfl
  | bool hu => obtain ⟨n, rfl⟩ := okWide_bool hu hok; rfl
  | str hu => obtain ⟨n, rfl⟩ := okWide_string hu hok; rfl
  | list hu _ _ => obtain ⟨a, l, c, rfl⟩ := okWide_slice hu hok; rfl
  | struct1 hu _ _ _ => simp only [Value.okWide, hu] at hok; obtain ⟨cs, rfl, _⟩ := hok; simp [Ty.wrap, Ty.agg, Value.cells]
  | struct hu _ _ => simp only [Value.okWide, hu] at hok; obtain ⟨cs, rfl, _⟩ := hok; simp [Ty.wrap, Ty.agg, Value.cells]
  | array1 hu _ _ => simp only [Value.okWide, hu] at hok; obtain ⟨cs, rfl, _⟩ := hok; simp [Ty.wrap, Ty.agg, Value.cells]
  | array hu _ _ => simp only [Value.okWide, hu] at hok; obtain ⟨cs, rfl, _⟩ := hok; simp [Ty.wrap, Ty.agg, Value.cells]

/-- The parameters' types. -/
inductive TysP (P : Program) : List TypeId → List Ty → Prop where
  | nil : TysP P [] []
  | cons {t T ts Ts} : P.readableRec t = true → t < P.types.size → TyP P t T → TysP P ts Ts → TysP P (t :: ts) (T :: Ts)
theorem args_data {η : Eta} {r : Reach} {b0 : Nat} : ∀ {ts : List TypeId} {Ts : List Ty} {vs : List Value} {ds : List (DataW H)} {ps : List MemPlace}, TysP P ts Ts → DataW.TrodAll enc P w base spare held ts vs ds ps → (∀ (j : Nat) t v, ts[j]? = some t → vs[j]? = some v → Value.okWide P w r b0 t v) →
    ∃ x : Tup (Ts.map .d), All2 (RM (InWd w) w η) (rvs Ts x) vs
  | _, _, vs, ds, ps, .nil, h, _ => by
    obtain ⟨rfl, _, _⟩ := trodAll_nil h
    exact ⟨(), .nil⟩
  | _, _, vs, ds, ps, .cons (t := t) (T := T) (ts := ts) (Ts := Ts) h1 h2 h3 h4, h, hok => by
    obtain ⟨v, vs', d, ds', p, q, rfl, rfl, rfl, ⟨n, hn⟩, hr⟩ := trodAll_cons h
    obtain ⟨y, hy⟩ := trod_rep n h3 hn
    have hv : RM (InWd w) w η (T.rv y) v := VRep.rm (h3.agg (hok 0 t v rfl rfl) hy)
    obtain ⟨x, hx⟩ := args_data (η := η) h4 hr fun j t v h1 h2 => hok (j + 1) t v (by simpa using h1) (by simpa using h2)
    cases Ts with
    | nil => exact ⟨y, by cases hx; exact .cons hv .nil⟩
    | cons U Us => exact ⟨(y, x), .cons hv hx⟩
theorem args_back (hl : laidOutB P = true) {w' : World} (hb : Below w.heap.size w w') {sp : Nat → Bool} : ∀ {ts : List TypeId} {Ts : List Ty} {vs : List Value} {ds : List (DataW H)} {ps : List MemPlace}, TysP P ts Ts → DataW.TrodAll enc P w 0 (fun _ => true) true ts vs ds ps → (∀ x ∈ ps, x.block < w.heap.size) → (∀ x ∈ ps, sp x.block = true) →
    DataW.TrodAll enc P w' 0 sp true ts vs ds ps
  | _, _, vs, ds, ps, .nil, h, _, _ => by
    obtain ⟨rfl, rfl, rfl⟩ := trodAll_nil h
    exact rfl
  | _, _, vs, ds, ps, .cons h1 h2 h3 h4, h, hlt, hsp => by
    obtain ⟨v, vs', d, ds', p, q, rfl, rfl, rfl, hd, hr⟩ := trodAll_cons h
    have hd' := WideElems.Trod_stays hl h1 h2 (sp' := sp) hd (fun x hx => hb.same (hlt x (by simp [hx]))) fun x hx => hsp x (by simp [hx])
    exact ⟨p, q, hd', args_back hl hb h4 hr (fun x hx => hlt x (by simp [hx])) fun x hx => hsp x (by simp [hx]), rfl⟩
end

/-- A law that is true of all data holds of the program. -/
theorem law_contract {P : Program} (hl : laidOutB P = true) {f : FuncId} {fn : Func} {s : ChangeSpec} {args : List Ty} {m : Tup (args.map .d) → Option Bool} (hspec : SpecOK P f ⟨args, [.bool], m⟩) {ts : List TypeId} (hts : fn.params.toList = ts) (hT : TysP P ts args) {tb : TypeId} (hrt : fn.resultTypes = #[tb]) (htb : P.underlying tb = some .bool)
    (hvars : s.vars = []) (hfn : ∀ (H : Type) (ds : List (DataW H)), ds.length = args.length → (s.fn H ds).results = [.lit (.bool true)] ∧ (s.fn H ds).args = ds ∧ (s.fn H ds).vars = [])
    (hm : ∀ (S : Cells) (w : World) (η : Eta) (vs : List Value) x, All2 (RM S w η) (rvs args x) vs → m x = some true)
    {H : Type} {enc : TypeId × Value → H} {W : World} {base : Nat} {av : Array Value} {ds gs : List (DataW H)} {before : List MemPlace}
    (hval : ∀ (j : Nat) t v, fn.params[j]? = some t → av[j]? = some v → Value.okWide P W .any base t v) (hW : DataW.Whole enc P fn.params.toList s.vars false W av.toList ds gs before) :
    Calls P f av W fun e W' => ∃ v, e = .returned v ∧ s.post enc P fn false true false false W av v W' := by
  have hW0 := hW
  obtain ⟨p, q, hA, hV, rfl, hfz, _⟩ := hW
  rw [hvars] at hV
  obtain ⟨rfl, rfl⟩ := trodVars_none hV
  rw [List.append_nil] at *
  rw [hts] at hA
  have hlt : ∀ x ∈ p, x.block < W.heap.size := fun x hx => by simpa using hW0.lt x hx
  obtain ⟨x, hx⟩ := args_data (η := fun _ => none) (r := .any) (b0 := base) hT hA fun j t v h1 h2 => hval j t v (by rw [← hts] at h1; simpa using h1) (by simpa using h2)
  have hc := hspec x true (hm _ _ _ _ x hx) (InWd W) W (fun _ => none) av.toList (fun b o h => h) hx
  have hav : av.toList.toArray = av := by simp
  rw [hav] at hc
  refine hc.mono fun e W' ⟨v, S', he, hg, hp⟩ => ⟨v, he, ?_⟩
  have hvb : v = .bool true := VRep.bool.1 hp.2
  subst hvb
  have hb := hg.below
  have hlen : ds.length = args.length := by
    have h1 : ∀ {ts : List TypeId} {Ts : List Ty} {vs : List Value} {ds : List (DataW H)} {ps : List MemPlace}, TysP P ts Ts → DataW.TrodAll enc P W 0 (fun _ => true) true ts vs ds ps → ds.length = Ts.length := by
      intro ts Ts vs ds ps hT
      induction hT generalizing vs ds ps with
      | nil => intro h; obtain ⟨_, rfl, _⟩ := trodAll_nil h; rfl
      | cons _ _ _ _ ih => intro h; obtain ⟨_, _, _, _, _, _, rfl, rfl, rfl, _, hr⟩ := trodAll_cons h; simp [ih hr]
    exact h1 hT hA
  obtain ⟨f1, f2, f3⟩ := hfn H (ds ++ []) (by simpa using hlen)
  have hargs : ∀ sp : Nat → Bool, (∀ y ∈ p, sp y.block = true) → DataW.TrodAll enc P W' 0 sp true fn.params.toList av.toList (s.fn H (ds ++ [])).args p := fun sp hsp => by
    rw [f2, List.append_nil, hts]
    exact args_back hl hb hT hA hlt hsp
  have hres : ∀ (b : Nat) (sp : Nat → Bool) (hd : Bool), DataW.TrodAll enc P W' b sp hd fn.resultTypes.toList ((Value.bool true).resultList fn.resultTypes.size) (s.fn H (ds ++ [])).results [] := fun b sp hd => by
    rw [f1, hrt]
    exact trodAll_cons_mk (shut_bool htb _) trodAll_mk0
  have hvv : ∀ sp : Nat → Bool, DataW.TrodVars enc P W' sp s.vars (s.fn H (ds ++ [])).vars [] := fun sp => by rw [f3, hvars]; rfl
  have hold : ∀ y ∈ p, (fun b => decide (b < W.heap.size)) y.block = true := fun y hy => by simpa using hlt y hy
  refine ⟨ds, [], p, [], p, [], hW0, hres _ _ _, hargs _ hold, hvv _, World.keptBut_mono (fun y hy => ⟨hy, ?_⟩) (hb.frame (· ∈ p)), fun _ => ?_⟩
  · simpa using hy
  · refine ⟨ok_one hrt rfl (okWide_bool_mk htb _), _, _, ([] ++ p) ++ [], ⟨[] ++ p, [], trodAll_append (hargs _ (fun _ _ => rfl)) (hres _ _ _), hvv _, rfl, ?_, ?_⟩, ?_⟩
    · intro b off hpm
      have hpm : MemPlace.cell b off ∈ p := by simpa using hpm
      have hlt' := hlt _ hpm
      rw [hb.frozen (p := ⟨b, off, none⟩) hlt']
      exact hfz b off hpm
    · intro h; cases h
    · intro y hy _
      simpa using hy
end Go.PE
/-
  The parameters of the laws of this seat, as data; written by a program (gen_law.py). No conditions.
-/
namespace Go.Proofs.Ytadcohacnmicjaa
open Go Go.Abs Go.PE Go.RowKit Go.ChangeShapes Go.WideShapes Go.ChangeAt Go.Proofs
theorem tyP3 : TyP Try.prog 3 (.int .i64) := .int Try.underlying3
theorem tyP22 : TyP Try.prog 22 (.list (.int .i64)) := .list Try.underlying22 (by kernel_rfl) tyP3
theorem tyP57 : TyP Try.prog 57 (.pair (.int .i64) (.pair (.int .i64) (.int .i64))) := .array Try.underlying57 (by kernel_rfl) (show FsP Try.prog [(0, 3), (1, 3), (2, 3)] 0 (.pair (.int .i64) (.pair (.int .i64) (.int .i64))) from .cons (by kernel_rfl) tyP3 (.cons (by kernel_rfl) tyP3 (.last (by kernel_rfl) tyP3)))
theorem tyP23 : TyP Try.prog 23 (.list (.pair (.int .i64) (.pair (.int .i64) (.int .i64)))) := .list Try.underlying23 (by kernel_rfl) tyP57
theorem tyP25 : TyP Try.prog 25 (.pair (.int .i64) (.pair (.list (.int .i64)) (.pair (.list (.pair (.int .i64) (.pair (.int .i64) (.int .i64)))) (.int .i64)))) := .struct Try.underlying25 (by kernel_rfl) (show FsP Try.prog [(0, 3), (1, 22), (2, 23), (3, 3)] 0 (.pair (.int .i64) (.pair (.list (.int .i64)) (.pair (.list (.pair (.int .i64) (.pair (.int .i64) (.int .i64)))) (.int .i64)))) from .cons (by kernel_rfl) tyP3 (.cons (by kernel_rfl) tyP22 (.cons (by kernel_rfl) tyP23 (.last (by kernel_rfl) tyP3))))
theorem tyP30 : TyP Try.prog 30 (.pair (.int .i64) (.pair (.int .i64) (.int .i64))) := .struct Try.underlying30 (by kernel_rfl) (show FsP Try.prog [(0, 3), (1, 3), (2, 3)] 0 (.pair (.int .i64) (.pair (.int .i64) (.int .i64))) from .cons (by kernel_rfl) tyP3 (.cons (by kernel_rfl) tyP3 (.last (by kernel_rfl) tyP3)))
theorem tyP26 : TyP Try.prog 26 (.list (.pair (.int .i64) (.pair (.int .i64) (.int .i64)))) := .list Try.underlying26 (by kernel_rfl) tyP30
theorem tyP28 : TyP Try.prog 28 (.pair (.int .i64) (.list (.pair (.int .i64) (.pair (.int .i64) (.int .i64))))) := .struct Try.underlying28 (by kernel_rfl) (show FsP Try.prog [(0, 3), (1, 26)] 0 (.pair (.int .i64) (.list (.pair (.int .i64) (.pair (.int .i64) (.int .i64))))) from .cons (by kernel_rfl) tyP3 (.last (by kernel_rfl) tyP26))
theorem tys3 : TysP Try.prog [25, 28, 3, 3, 3, 30, 22] [(.pair (.int .i64) (.pair (.list (.int .i64)) (.pair (.list (.pair (.int .i64) (.pair (.int .i64) (.int .i64)))) (.int .i64)))), (.pair (.int .i64) (.list (.pair (.int .i64) (.pair (.int .i64) (.int .i64))))), (.int .i64), (.int .i64), (.int .i64), (.pair (.int .i64) (.pair (.int .i64) (.int .i64))), (.list (.int .i64))] := .cons (by kernel_rfl) (of_decide_eq_true (by kernel_rfl)) tyP25 (.cons (by kernel_rfl) (of_decide_eq_true (by kernel_rfl)) tyP28 (.cons (by kernel_rfl) (of_decide_eq_true (by kernel_rfl)) tyP3 (.cons (by kernel_rfl) (of_decide_eq_true (by kernel_rfl)) tyP3 (.cons (by kernel_rfl) (of_decide_eq_true (by kernel_rfl)) tyP3 (.cons (by kernel_rfl) (of_decide_eq_true (by kernel_rfl)) tyP30 (.cons (by kernel_rfl) (of_decide_eq_true (by kernel_rfl)) tyP22 (.nil)))))))
theorem tys4 : TysP Try.prog [25, 3] [(.pair (.int .i64) (.pair (.list (.int .i64)) (.pair (.list (.pair (.int .i64) (.pair (.int .i64) (.int .i64)))) (.int .i64)))), (.int .i64)] := .cons (by kernel_rfl) (of_decide_eq_true (by kernel_rfl)) tyP25 (.cons (by kernel_rfl) (of_decide_eq_true (by kernel_rfl)) tyP3 (.nil))
theorem tys5 : TysP Try.prog [25, 3, 22, 22] [(.pair (.int .i64) (.pair (.list (.int .i64)) (.pair (.list (.pair (.int .i64) (.pair (.int .i64) (.int .i64)))) (.int .i64)))), (.int .i64), (.list (.int .i64)), (.list (.int .i64))] := .cons (by kernel_rfl) (of_decide_eq_true (by kernel_rfl)) tyP25 (.cons (by kernel_rfl) (of_decide_eq_true (by kernel_rfl)) tyP3 (.cons (by kernel_rfl) (of_decide_eq_true (by kernel_rfl)) tyP22 (.cons (by kernel_rfl) (of_decide_eq_true (by kernel_rfl)) tyP22 (.nil))))
theorem tys6 : TysP Try.prog [25, 57, 22] [(.pair (.int .i64) (.pair (.list (.int .i64)) (.pair (.list (.pair (.int .i64) (.pair (.int .i64) (.int .i64)))) (.int .i64)))), (.pair (.int .i64) (.pair (.int .i64) (.int .i64))), (.list (.int .i64))] := .cons (by kernel_rfl) (of_decide_eq_true (by kernel_rfl)) tyP25 (.cons (by kernel_rfl) (of_decide_eq_true (by kernel_rfl)) tyP57 (.cons (by kernel_rfl) (of_decide_eq_true (by kernel_rfl)) tyP22 (.nil)))
theorem tys7 : TysP Try.prog [25, 3] [(.pair (.int .i64) (.pair (.list (.int .i64)) (.pair (.list (.pair (.int .i64) (.pair (.int .i64) (.int .i64)))) (.int .i64)))), (.int .i64)] := .cons (by kernel_rfl) (of_decide_eq_true (by kernel_rfl)) tyP25 (.cons (by kernel_rfl) (of_decide_eq_true (by kernel_rfl)) tyP3 (.nil))
theorem tys8 : TysP Try.prog [25, 57] [(.pair (.int .i64) (.pair (.list (.int .i64)) (.pair (.list (.pair (.int .i64) (.pair (.int .i64) (.int .i64)))) (.int .i64)))), (.pair (.int .i64) (.pair (.int .i64) (.int .i64)))] := .cons (by kernel_rfl) (of_decide_eq_true (by kernel_rfl)) tyP25 (.cons (by kernel_rfl) (of_decide_eq_true (by kernel_rfl)) tyP57 (.nil))
theorem tys9 : TysP Try.prog [25, 22, 3] [(.pair (.int .i64) (.pair (.list (.int .i64)) (.pair (.list (.pair (.int .i64) (.pair (.int .i64) (.int .i64)))) (.int .i64)))), (.list (.int .i64)), (.int .i64)] := .cons (by kernel_rfl) (of_decide_eq_true (by kernel_rfl)) tyP25 (.cons (by kernel_rfl) (of_decide_eq_true (by kernel_rfl)) tyP22 (.cons (by kernel_rfl) (of_decide_eq_true (by kernel_rfl)) tyP3 (.nil)))
theorem laidOut : laidOutB Try.prog = true := by kernel_rfl
theorem own : ownKnob Try.prog.godebug = none := by kernel_rfl
end Go.Proofs.Ytadcohacnmicjaa
/-
  The type table of this seat and its functions, for the pure machine. Written by a program (gen_tabs.py). No conditions.
-/
namespace Go.Proofs.Ytadcohacnmicjaa
open Go Go.Abs Go.PE
set_option linter.unusedSimpArgs false
set_option linter.unusedVariables false
section
variable {S : Cells} {w : World} {η : Eta}
theorem zi (k : IntKind) : CM S w η (.d (.int k) (0 : Int)) (.int k 0) := ⟨rfl, VRep.int.2 ⟨rfl, by unfold IntKind.has; cases k <;> decide⟩⟩
theorem zb : CM S w η (.d .bool false) (.bool false) := ⟨rfl, VRep.bool.2 rfl⟩
theorem zs : CM S w η (.d .str ([] : List UInt8)) (.string ⟨#[]⟩) := ⟨rfl, VRep.str.2 ⟨rfl, Nat.zero_le _⟩⟩
end
abbrev tI : Ty := .int .i64
abbrev ty_putlogref09_Numbers : Ty := .pair (.int .i64) (.pair (.list (.int .i64)) (.pair (.list (.pair (.int .i64) (.pair (.int .i64) (.int .i64)))) (.int .i64)))
abbrev ty_api_Bound : Ty := .pair (.int .i64) (.pair (.int .i64) (.int .i64))
abbrev ty_api_Between : Ty := .pair (.int .i64) (.list (ty_api_Bound))
def tyTab : List (TypeId × TI) := [
  (1, ⟨false, 1, [.l .nilF], none, .fn⟩),
  (2, ⟨false, 1, [.d (.int .i64) (0 : Int)], some (.int .i64), .int .i64⟩),
  (3, ⟨false, 1, [.d (.int .i64) (0 : Int)], some (.int .i64), .int .i64⟩),
  (4, ⟨false, 1, [.d .bool false], some (.bool), .bool⟩),
  (5, ⟨false, 1, [.d (.int .u8) (0 : Int)], some (.int .u8), .int .u8⟩),
  (7, ⟨true, 4, [.d (.int .i64) (0 : Int), .d (.int .i64) (0 : Int), .d .bool false, .d (.int .u8) (0 : Int)], some (.pair (.int .i64) (.pair (.int .i64) (.pair (.bool) (.int .u8)))), .other⟩),
  (9, ⟨false, 1, [.d .str ([] : List UInt8)], some (.str), .str⟩),
  (12, ⟨false, 1, [.d (.int .u64) (0 : Int)], some (.int .u64), .int .u64⟩),
  (13, ⟨true, 2, [.d .str ([] : List UInt8), .d (.int .u64) (0 : Int)], some (.pair (.str) (.int .u64)), .struct [(0, 9, 1), (1, 12, 1)]⟩),
  (15, ⟨false, 1, [.l .nilP], none, .ptr 87⟩),
  (16, ⟨false, 1, [.l .nilP], none, .ptr 90⟩),
  (17, ⟨false, 1, [.l .nilP], none, .ptr 100⟩),
  (18, ⟨true, 1, [.l .nilP], none, .struct [(0, 17, 1)]⟩),
  (20, ⟨false, 1, [.l .nilI], none, .other⟩),
  (21, ⟨false, 1, [.d (.int .i32) (0 : Int)], some (.int .i32), .int .i32⟩),
  (22, ⟨false, 1, [.l .nilS], some (.list (.int .i64)), .slice 3 8⟩),
  (23, ⟨false, 1, [.l .nilS], some (.list (.pair (.int .i64) (.pair (.int .i64) (.int .i64)))), .slice 57 24⟩),
  (24, ⟨true, 4, [.d (.int .i64) (0 : Int), .l .nilS, .l .nilS, .d (.int .i64) (0 : Int)], some (.pair (.int .i64) (.pair (.list (.int .i64)) (.pair (.list (.pair (.int .i64) (.pair (.int .i64) (.int .i64)))) (.int .i64)))), .struct [(0, 3, 1), (1, 22, 1), (2, 23, 1), (3, 3, 1)]⟩),
  (25, ⟨true, 4, [.d (.int .i64) (0 : Int), .l .nilS, .l .nilS, .d (.int .i64) (0 : Int)], some (ty_putlogref09_Numbers), .struct [(0, 3, 1), (1, 22, 1), (2, 23, 1), (3, 3, 1)]⟩),
  (26, ⟨false, 1, [.l .nilS], some (.list (ty_api_Bound)), .slice 30 24⟩),
  (27, ⟨true, 2, [.d (.int .i64) (0 : Int), .l .nilS], some (.pair (.int .i64) (.list (ty_api_Bound))), .struct [(0, 3, 1), (1, 26, 1)]⟩),
  (28, ⟨true, 2, [.d (.int .i64) (0 : Int), .l .nilS], some (ty_api_Between), .struct [(0, 3, 1), (1, 26, 1)]⟩),
  (29, ⟨true, 3, [.d (.int .i64) (0 : Int), .d (.int .i64) (0 : Int), .d (.int .i64) (0 : Int)], some (.pair (.int .i64) (.pair (.int .i64) (.int .i64))), .struct [(0, 3, 1), (1, 3, 1), (2, 3, 1)]⟩),
  (30, ⟨true, 3, [.d (.int .i64) (0 : Int), .d (.int .i64) (0 : Int), .d (.int .i64) (0 : Int)], some (ty_api_Bound), .struct [(0, 3, 1), (1, 3, 1), (2, 3, 1)]⟩),
  (31, ⟨false, 1, [.l .nilF], none, .fn⟩),
  (32, ⟨false, 1, [.l .nilF], none, .fn⟩),
  (33, ⟨false, 1, [.l .nilF], none, .fn⟩),
  (34, ⟨false, 1, [.l .nilF], none, .fn⟩),
  (35, ⟨false, 1, [.l .nilF], none, .fn⟩),
  (36, ⟨false, 1, [.l .nilF], none, .fn⟩),
  (37, ⟨false, 1, [.l .nilS], some (.list (ty_api_Between)), .slice 28 32⟩),
  (38, ⟨false, 1, [.l .nilS], some (.list (.list (.int .i64))), .slice 22 24⟩),
  (39, ⟨false, 1, [.d (.int .i64) (0 : Int)], some (.int .i64), .int .i64⟩),
  (41, ⟨false, 1, [.l .nilF], none, .fn⟩),
  (43, ⟨false, 1, [.l .nilF], none, .fn⟩),
  (45, ⟨false, 1, [.l .nilF], none, .fn⟩),
  (46, ⟨false, 1, [.l .nilF], none, .fn⟩),
  (47, ⟨false, 1, [.l .nilF], none, .fn⟩),
  (48, ⟨false, 1, [.l .nilF], none, .fn⟩),
  (49, ⟨false, 1, [.l .nilF], none, .fn⟩),
  (50, ⟨false, 1, [.l .nilF], none, .fn⟩),
  (51, ⟨false, 1, [.l .nilF], none, .fn⟩),
  (52, ⟨false, 1, [.l .nilF], none, .fn⟩),
  (53, ⟨false, 1, [.l .nilF], none, .fn⟩),
  (54, ⟨false, 1, [.l .nilF], none, .fn⟩),
  (55, ⟨false, 1, [.l .nilF], none, .fn⟩),
  (56, ⟨false, 1, [.l .nilF], none, .fn⟩),
  (57, ⟨true, 3, [.d (.int .i64) (0 : Int), .d (.int .i64) (0 : Int), .d (.int .i64) (0 : Int)], some (.pair (.int .i64) (.pair (.int .i64) (.int .i64))), .array 3 3⟩),
  (58, ⟨false, 1, [.l .nilF], none, .fn⟩),
  (59, ⟨false, 1, [.l .nilF], none, .fn⟩),
  (60, ⟨false, 1, [.l .nilF], none, .fn⟩),
  (61, ⟨false, 1, [.l .nilF], none, .fn⟩),
  (62, ⟨false, 1, [.l .nilF], none, .fn⟩),
  (64, ⟨false, 1, [.l .nilF], none, .fn⟩),
  (65, ⟨false, 1, [.l .nilS], some (.list (.list (.list (.int .i64)))), .slice 38 24⟩),
  (66, ⟨false, 1, [.l .nilF], none, .fn⟩),
  (67, ⟨false, 1, [.l .nilF], none, .fn⟩),
  (68, ⟨false, 1, [.l .nilF], none, .fn⟩),
  (69, ⟨false, 1, [.l .nilF], none, .fn⟩),
  (70, ⟨false, 1, [.l .nilF], none, .fn⟩),
  (71, ⟨false, 1, [.l .nilF], none, .fn⟩),
  (72, ⟨false, 1, [.l .nilF], none, .fn⟩),
  (73, ⟨false, 1, [.l .nilF], none, .fn⟩),
  (74, ⟨false, 1, [.l .nilF], none, .fn⟩),
  (75, ⟨false, 1, [.l .nilF], none, .fn⟩),
  (76, ⟨false, 1, [.l .nilF], none, .fn⟩),
  (77, ⟨false, 1, [.l .nilF], none, .fn⟩),
  (79, ⟨false, 1, [.l .nilF], none, .fn⟩),
  (80, ⟨false, 1, [.l .nilF], none, .fn⟩),
  (81, ⟨false, 1, [.l .nilF], none, .fn⟩),
  (82, ⟨false, 1, [.l .nilF], none, .fn⟩),
  (83, ⟨false, 1, [.l .nilF], none, .fn⟩),
  (84, ⟨false, 1, [.l .nilF], none, .fn⟩),
  (85, ⟨false, 1, [.l .nilF], none, .fn⟩),
  (86, ⟨true, 4, [.l .nilP, .l .nilP, .l .nilP, .d .str ([] : List UInt8)], none, .struct [(0, 17, 1), (1, 17, 1), (2, 17, 1), (3, 9, 1)]⟩),
  (89, ⟨true, 0, [], none, .other⟩),
  (91, ⟨false, 1, [.l .nilF], none, .fn⟩),
  (92, ⟨false, 1, [.d (.int .u32) (0 : Int)], some (.int .u32), .int .u32⟩),
  (95, ⟨false, 1, [.l .nilF], none, .fn⟩),
  (96, ⟨false, 1, [.l .nilP], none, .ptr 5⟩),
  (99, ⟨true, 11, [.d (.int .u64) (0 : Int), .d (.int .u64) (0 : Int), .d (.int .u32) (0 : Int), .d (.int .u8) (0 : Int), .d (.int .u8) (0 : Int), .d (.int .u8) (0 : Int), .d (.int .u8) (0 : Int), .l .nilF, .l .nilP, .d (.int .i32) (0 : Int), .d (.int .i32) (0 : Int)], none, .other⟩)]
theorem ti1 : TIok Try.prog 1 ⟨false, 1, [.l .nilF], none, .fn⟩ :=
  ⟨Try.isAgg1, Try.sizeOf1, ⟨_, Try.zeroValue1, ⟨[Value.nilFunc], rfl, fun S w η => .cons (rfl) (.nil)⟩, (fun T h => by cases h)⟩, (fun T h => by cases h), ⟨_, _, _, Try.runUnderlying1⟩⟩
theorem ti2 : TIok Try.prog 2 ⟨false, 1, [.d (.int .i64) (0 : Int)], some (.int .i64), .int .i64⟩ :=
  ⟨Try.isAgg2, Try.sizeOf2, ⟨_, Try.zeroValue2, ⟨[Value.int IntKind.i64 0], rfl, fun S w η => .cons (zi _) (.nil)⟩, (fun T h => by cases h; rfl)⟩, (fun T h => by cases h; exact ⟨rfl, rfl⟩), Try.runUnderlying2⟩
theorem ti3 : TIok Try.prog 3 ⟨false, 1, [.d (.int .i64) (0 : Int)], some (.int .i64), .int .i64⟩ :=
  ⟨Try.isAgg3, Try.sizeOf3, ⟨_, Try.zeroValue3, ⟨[Value.int IntKind.i64 0], rfl, fun S w η => .cons (zi _) (.nil)⟩, (fun T h => by cases h; rfl)⟩, (fun T h => by cases h; exact ⟨rfl, rfl⟩), Try.runUnderlying3⟩
theorem ti4 : TIok Try.prog 4 ⟨false, 1, [.d .bool false], some (.bool), .bool⟩ :=
  ⟨Try.isAgg4, Try.sizeOf4, ⟨_, Try.zeroValue4, ⟨[Value.bool false], rfl, fun S w η => .cons (zb) (.nil)⟩, (fun T h => by cases h; rfl)⟩, (fun T h => by cases h; exact ⟨rfl, rfl⟩), Try.runUnderlying4⟩
theorem ti5 : TIok Try.prog 5 ⟨false, 1, [.d (.int .u8) (0 : Int)], some (.int .u8), .int .u8⟩ :=
  ⟨Try.isAgg5, Try.sizeOf5, ⟨_, Try.zeroValue5, ⟨[Value.int IntKind.u8 0], rfl, fun S w η => .cons (zi _) (.nil)⟩, (fun T h => by cases h; rfl)⟩, (fun T h => by cases h; exact ⟨rfl, rfl⟩), Try.runUnderlying5⟩
theorem ti7 : TIok Try.prog 7 ⟨true, 4, [.d (.int .i64) (0 : Int), .d (.int .i64) (0 : Int), .d .bool false, .d (.int .u8) (0 : Int)], some (.pair (.int .i64) (.pair (.int .i64) (.pair (.bool) (.int .u8)))), .other⟩ :=
  ⟨Try.isAgg7, Try.sizeOf7, ⟨_, Try.zeroValue7, ⟨[Value.int IntKind.i64 0, Value.int IntKind.i64 0, Value.bool false, Value.int IntKind.u8 0], rfl, fun S w η => .cons (zi _) (.cons (zi _) (.cons (zb) (.cons (zi _) (.nil))))⟩, (fun T h => by cases h; rfl)⟩, (fun T h => by cases h; exact ⟨rfl, rfl⟩), trivial⟩
theorem ti9 : TIok Try.prog 9 ⟨false, 1, [.d .str ([] : List UInt8)], some (.str), .str⟩ :=
  ⟨Try.isAgg9, Try.sizeOf9, ⟨_, Try.zeroValue9, ⟨[Value.string ⟨#[]⟩], rfl, fun S w η => .cons (zs) (.nil)⟩, (fun T h => by cases h; rfl)⟩, (fun T h => by cases h; exact ⟨rfl, rfl⟩), Try.runUnderlying9⟩
theorem ti12 : TIok Try.prog 12 ⟨false, 1, [.d (.int .u64) (0 : Int)], some (.int .u64), .int .u64⟩ :=
  ⟨Try.isAgg12, Try.sizeOf12, ⟨_, Try.zeroValue12, ⟨[Value.int IntKind.u64 0], rfl, fun S w η => .cons (zi _) (.nil)⟩, (fun T h => by cases h; rfl)⟩, (fun T h => by cases h; exact ⟨rfl, rfl⟩), Try.runUnderlying12⟩
theorem ti13 : TIok Try.prog 13 ⟨true, 2, [.d .str ([] : List UInt8), .d (.int .u64) (0 : Int)], some (.pair (.str) (.int .u64)), .struct [(0, 9, 1), (1, 12, 1)]⟩ :=
  ⟨Try.isAgg13, Try.sizeOf13, ⟨_, Try.zeroValue13, ⟨[Value.string ⟨#[]⟩, Value.int IntKind.u64 0], rfl, fun S w η => .cons (zs) (.cons (zi _) (.nil))⟩, (fun T h => by cases h; rfl)⟩, (fun T h => by cases h; exact ⟨rfl, rfl⟩), ⟨_, Try.runUnderlying13, rfl, fun w => by simp [Try.sizeOf12, Try.sizeOf9]⟩⟩
theorem ti15 : TIok Try.prog 15 ⟨false, 1, [.l .nilP], none, .ptr 87⟩ :=
  ⟨Try.isAgg15, Try.sizeOf15, ⟨_, Try.zeroValue15, ⟨[Value.pointer none], rfl, fun S w η => .cons (rfl) (.nil)⟩, (fun T h => by cases h)⟩, (fun T h => by cases h), Try.runUnderlying15⟩
theorem ti16 : TIok Try.prog 16 ⟨false, 1, [.l .nilP], none, .ptr 90⟩ :=
  ⟨Try.isAgg16, Try.sizeOf16, ⟨_, Try.zeroValue16, ⟨[Value.pointer none], rfl, fun S w η => .cons (rfl) (.nil)⟩, (fun T h => by cases h)⟩, (fun T h => by cases h), Try.runUnderlying16⟩
theorem ti17 : TIok Try.prog 17 ⟨false, 1, [.l .nilP], none, .ptr 100⟩ :=
  ⟨Try.isAgg17, Try.sizeOf17, ⟨_, Try.zeroValue17, ⟨[Value.pointer none], rfl, fun S w η => .cons (rfl) (.nil)⟩, (fun T h => by cases h)⟩, (fun T h => by cases h), Try.runUnderlying17⟩
theorem ti18 : TIok Try.prog 18 ⟨true, 1, [.l .nilP], none, .struct [(0, 17, 1)]⟩ :=
  ⟨Try.isAgg18, Try.sizeOf18, ⟨_, Try.zeroValue18, ⟨[Value.pointer none], rfl, fun S w η => .cons (rfl) (.nil)⟩, (fun T h => by cases h)⟩, (fun T h => by cases h), ⟨_, Try.runUnderlying18, rfl, fun w => by simp [Try.sizeOf17]⟩⟩
theorem ti20 : TIok Try.prog 20 ⟨false, 1, [.l .nilI], none, .other⟩ :=
  ⟨Try.isAgg20, Try.sizeOf20, ⟨_, Try.zeroValue20, ⟨[Value.nilIface], rfl, fun S w η => .cons (rfl) (.nil)⟩, (fun T h => by cases h)⟩, (fun T h => by cases h), trivial⟩
theorem ti21 : TIok Try.prog 21 ⟨false, 1, [.d (.int .i32) (0 : Int)], some (.int .i32), .int .i32⟩ :=
  ⟨Try.isAgg21, Try.sizeOf21, ⟨_, Try.zeroValue21, ⟨[Value.int IntKind.i32 0], rfl, fun S w η => .cons (zi _) (.nil)⟩, (fun T h => by cases h; rfl)⟩, (fun T h => by cases h; exact ⟨rfl, rfl⟩), Try.runUnderlying21⟩
theorem ti22 : TIok Try.prog 22 ⟨false, 1, [.l .nilS], some (.list (.int .i64)), .slice 3 8⟩ :=
  ⟨Try.isAgg22, Try.sizeOf22, ⟨_, Try.zeroValue22, ⟨[Value.slice none 0 0], rfl, fun S w η => .cons (rfl) (.nil)⟩, (fun T h => by cases h; rfl)⟩, (fun T h => by cases h; exact ⟨rfl, rfl⟩), ⟨Try.underlying22, by decide, Try.t3, _, rfl, rfl, rfl, Try.zeroValue3, Try.sizeOf3⟩⟩
theorem ti23 : TIok Try.prog 23 ⟨false, 1, [.l .nilS], some (.list (.pair (.int .i64) (.pair (.int .i64) (.int .i64)))), .slice 57 24⟩ :=
  ⟨Try.isAgg23, Try.sizeOf23, ⟨_, Try.zeroValue23, ⟨[Value.slice none 0 0], rfl, fun S w η => .cons (rfl) (.nil)⟩, (fun T h => by cases h; rfl)⟩, (fun T h => by cases h; exact ⟨rfl, rfl⟩), ⟨Try.underlying23, by decide, Try.t57, _, rfl, rfl, rfl, Try.zeroValue57, Try.sizeOf57⟩⟩
theorem ti24 : TIok Try.prog 24 ⟨true, 4, [.d (.int .i64) (0 : Int), .l .nilS, .l .nilS, .d (.int .i64) (0 : Int)], some (.pair (.int .i64) (.pair (.list (.int .i64)) (.pair (.list (.pair (.int .i64) (.pair (.int .i64) (.int .i64)))) (.int .i64)))), .struct [(0, 3, 1), (1, 22, 1), (2, 23, 1), (3, 3, 1)]⟩ :=
  ⟨Try.isAgg24, Try.sizeOf24, ⟨_, Try.zeroValue24, ⟨[Value.int IntKind.i64 0, Value.slice none 0 0, Value.slice none 0 0, Value.int IntKind.i64 0], rfl, fun S w η => .cons (zi _) (.cons (rfl) (.cons (rfl) (.cons (zi _) (.nil))))⟩, (fun T h => by cases h; rfl)⟩, (fun T h => by cases h; exact ⟨rfl, rfl⟩), ⟨_, Try.runUnderlying24, rfl, fun w => by simp [Try.sizeOf22, Try.sizeOf23, Try.sizeOf3]⟩⟩
theorem ti25 : TIok Try.prog 25 ⟨true, 4, [.d (.int .i64) (0 : Int), .l .nilS, .l .nilS, .d (.int .i64) (0 : Int)], some (ty_putlogref09_Numbers), .struct [(0, 3, 1), (1, 22, 1), (2, 23, 1), (3, 3, 1)]⟩ :=
  ⟨Try.isAgg25, Try.sizeOf25, ⟨_, Try.zeroValue25, ⟨[Value.int IntKind.i64 0, Value.slice none 0 0, Value.slice none 0 0, Value.int IntKind.i64 0], rfl, fun S w η => .cons (zi _) (.cons (rfl) (.cons (rfl) (.cons (zi _) (.nil))))⟩, (fun T h => by cases h; rfl)⟩, (fun T h => by cases h; exact ⟨rfl, rfl⟩), ⟨_, Try.runUnderlying25, rfl, fun w => by simp [Try.sizeOf22, Try.sizeOf23, Try.sizeOf3]⟩⟩
theorem ti26 : TIok Try.prog 26 ⟨false, 1, [.l .nilS], some (.list (ty_api_Bound)), .slice 30 24⟩ :=
  ⟨Try.isAgg26, Try.sizeOf26, ⟨_, Try.zeroValue26, ⟨[Value.slice none 0 0], rfl, fun S w η => .cons (rfl) (.nil)⟩, (fun T h => by cases h; rfl)⟩, (fun T h => by cases h; exact ⟨rfl, rfl⟩), ⟨Try.underlying26, by decide, Try.t30, _, rfl, rfl, rfl, Try.zeroValue30, Try.sizeOf30⟩⟩
theorem ti27 : TIok Try.prog 27 ⟨true, 2, [.d (.int .i64) (0 : Int), .l .nilS], some (.pair (.int .i64) (.list (ty_api_Bound))), .struct [(0, 3, 1), (1, 26, 1)]⟩ :=
  ⟨Try.isAgg27, Try.sizeOf27, ⟨_, Try.zeroValue27, ⟨[Value.int IntKind.i64 0, Value.slice none 0 0], rfl, fun S w η => .cons (zi _) (.cons (rfl) (.nil))⟩, (fun T h => by cases h; rfl)⟩, (fun T h => by cases h; exact ⟨rfl, rfl⟩), ⟨_, Try.runUnderlying27, rfl, fun w => by simp [Try.sizeOf26, Try.sizeOf3]⟩⟩
theorem ti28 : TIok Try.prog 28 ⟨true, 2, [.d (.int .i64) (0 : Int), .l .nilS], some (ty_api_Between), .struct [(0, 3, 1), (1, 26, 1)]⟩ :=
  ⟨Try.isAgg28, Try.sizeOf28, ⟨_, Try.zeroValue28, ⟨[Value.int IntKind.i64 0, Value.slice none 0 0], rfl, fun S w η => .cons (zi _) (.cons (rfl) (.nil))⟩, (fun T h => by cases h; rfl)⟩, (fun T h => by cases h; exact ⟨rfl, rfl⟩), ⟨_, Try.runUnderlying28, rfl, fun w => by simp [Try.sizeOf26, Try.sizeOf3]⟩⟩
theorem ti29 : TIok Try.prog 29 ⟨true, 3, [.d (.int .i64) (0 : Int), .d (.int .i64) (0 : Int), .d (.int .i64) (0 : Int)], some (.pair (.int .i64) (.pair (.int .i64) (.int .i64))), .struct [(0, 3, 1), (1, 3, 1), (2, 3, 1)]⟩ :=
  ⟨Try.isAgg29, Try.sizeOf29, ⟨_, Try.zeroValue29, ⟨[Value.int IntKind.i64 0, Value.int IntKind.i64 0, Value.int IntKind.i64 0], rfl, fun S w η => .cons (zi _) (.cons (zi _) (.cons (zi _) (.nil)))⟩, (fun T h => by cases h; rfl)⟩, (fun T h => by cases h; exact ⟨rfl, rfl⟩), ⟨_, Try.runUnderlying29, rfl, fun w => by simp [Try.sizeOf3]⟩⟩
theorem ti30 : TIok Try.prog 30 ⟨true, 3, [.d (.int .i64) (0 : Int), .d (.int .i64) (0 : Int), .d (.int .i64) (0 : Int)], some (ty_api_Bound), .struct [(0, 3, 1), (1, 3, 1), (2, 3, 1)]⟩ :=
  ⟨Try.isAgg30, Try.sizeOf30, ⟨_, Try.zeroValue30, ⟨[Value.int IntKind.i64 0, Value.int IntKind.i64 0, Value.int IntKind.i64 0], rfl, fun S w η => .cons (zi _) (.cons (zi _) (.cons (zi _) (.nil)))⟩, (fun T h => by cases h; rfl)⟩, (fun T h => by cases h; exact ⟨rfl, rfl⟩), ⟨_, Try.runUnderlying30, rfl, fun w => by simp [Try.sizeOf3]⟩⟩
theorem ti31 : TIok Try.prog 31 ⟨false, 1, [.l .nilF], none, .fn⟩ :=
  ⟨Try.isAgg31, Try.sizeOf31, ⟨_, Try.zeroValue31, ⟨[Value.nilFunc], rfl, fun S w η => .cons (rfl) (.nil)⟩, (fun T h => by cases h)⟩, (fun T h => by cases h), ⟨_, _, _, Try.runUnderlying31⟩⟩
theorem ti32 : TIok Try.prog 32 ⟨false, 1, [.l .nilF], none, .fn⟩ :=
  ⟨Try.isAgg32, Try.sizeOf32, ⟨_, Try.zeroValue32, ⟨[Value.nilFunc], rfl, fun S w η => .cons (rfl) (.nil)⟩, (fun T h => by cases h)⟩, (fun T h => by cases h), ⟨_, _, _, Try.runUnderlying32⟩⟩
theorem ti33 : TIok Try.prog 33 ⟨false, 1, [.l .nilF], none, .fn⟩ :=
  ⟨Try.isAgg33, Try.sizeOf33, ⟨_, Try.zeroValue33, ⟨[Value.nilFunc], rfl, fun S w η => .cons (rfl) (.nil)⟩, (fun T h => by cases h)⟩, (fun T h => by cases h), ⟨_, _, _, Try.runUnderlying33⟩⟩
theorem ti34 : TIok Try.prog 34 ⟨false, 1, [.l .nilF], none, .fn⟩ :=
  ⟨Try.isAgg34, Try.sizeOf34, ⟨_, Try.zeroValue34, ⟨[Value.nilFunc], rfl, fun S w η => .cons (rfl) (.nil)⟩, (fun T h => by cases h)⟩, (fun T h => by cases h), ⟨_, _, _, Try.runUnderlying34⟩⟩
theorem ti35 : TIok Try.prog 35 ⟨false, 1, [.l .nilF], none, .fn⟩ :=
  ⟨Try.isAgg35, Try.sizeOf35, ⟨_, Try.zeroValue35, ⟨[Value.nilFunc], rfl, fun S w η => .cons (rfl) (.nil)⟩, (fun T h => by cases h)⟩, (fun T h => by cases h), ⟨_, _, _, Try.runUnderlying35⟩⟩
theorem ti36 : TIok Try.prog 36 ⟨false, 1, [.l .nilF], none, .fn⟩ :=
  ⟨Try.isAgg36, Try.sizeOf36, ⟨_, Try.zeroValue36, ⟨[Value.nilFunc], rfl, fun S w η => .cons (rfl) (.nil)⟩, (fun T h => by cases h)⟩, (fun T h => by cases h), ⟨_, _, _, Try.runUnderlying36⟩⟩
theorem ti37 : TIok Try.prog 37 ⟨false, 1, [.l .nilS], some (.list (ty_api_Between)), .slice 28 32⟩ :=
  ⟨Try.isAgg37, Try.sizeOf37, ⟨_, Try.zeroValue37, ⟨[Value.slice none 0 0], rfl, fun S w η => .cons (rfl) (.nil)⟩, (fun T h => by cases h; rfl)⟩, (fun T h => by cases h; exact ⟨rfl, rfl⟩), ⟨Try.underlying37, by decide, Try.t28, _, rfl, rfl, rfl, Try.zeroValue28, Try.sizeOf28⟩⟩
theorem ti38 : TIok Try.prog 38 ⟨false, 1, [.l .nilS], some (.list (.list (.int .i64))), .slice 22 24⟩ :=
  ⟨Try.isAgg38, Try.sizeOf38, ⟨_, Try.zeroValue38, ⟨[Value.slice none 0 0], rfl, fun S w η => .cons (rfl) (.nil)⟩, (fun T h => by cases h; rfl)⟩, (fun T h => by cases h; exact ⟨rfl, rfl⟩), ⟨Try.underlying38, by decide, Try.t22, _, rfl, rfl, rfl, Try.zeroValue22, Try.sizeOf22⟩⟩
theorem ti39 : TIok Try.prog 39 ⟨false, 1, [.d (.int .i64) (0 : Int)], some (.int .i64), .int .i64⟩ :=
  ⟨Try.isAgg39, Try.sizeOf39, ⟨_, Try.zeroValue39, ⟨[Value.int IntKind.i64 0], rfl, fun S w η => .cons (zi _) (.nil)⟩, (fun T h => by cases h; rfl)⟩, (fun T h => by cases h; exact ⟨rfl, rfl⟩), Try.runUnderlying39⟩
theorem ti41 : TIok Try.prog 41 ⟨false, 1, [.l .nilF], none, .fn⟩ :=
  ⟨Try.isAgg41, Try.sizeOf41, ⟨_, Try.zeroValue41, ⟨[Value.nilFunc], rfl, fun S w η => .cons (rfl) (.nil)⟩, (fun T h => by cases h)⟩, (fun T h => by cases h), ⟨_, _, _, Try.runUnderlying41⟩⟩
theorem ti43 : TIok Try.prog 43 ⟨false, 1, [.l .nilF], none, .fn⟩ :=
  ⟨Try.isAgg43, Try.sizeOf43, ⟨_, Try.zeroValue43, ⟨[Value.nilFunc], rfl, fun S w η => .cons (rfl) (.nil)⟩, (fun T h => by cases h)⟩, (fun T h => by cases h), ⟨_, _, _, Try.runUnderlying43⟩⟩
theorem ti45 : TIok Try.prog 45 ⟨false, 1, [.l .nilF], none, .fn⟩ :=
  ⟨Try.isAgg45, Try.sizeOf45, ⟨_, Try.zeroValue45, ⟨[Value.nilFunc], rfl, fun S w η => .cons (rfl) (.nil)⟩, (fun T h => by cases h)⟩, (fun T h => by cases h), ⟨_, _, _, Try.runUnderlying45⟩⟩
theorem ti46 : TIok Try.prog 46 ⟨false, 1, [.l .nilF], none, .fn⟩ :=
  ⟨Try.isAgg46, Try.sizeOf46, ⟨_, Try.zeroValue46, ⟨[Value.nilFunc], rfl, fun S w η => .cons (rfl) (.nil)⟩, (fun T h => by cases h)⟩, (fun T h => by cases h), ⟨_, _, _, Try.runUnderlying46⟩⟩
theorem ti47 : TIok Try.prog 47 ⟨false, 1, [.l .nilF], none, .fn⟩ :=
  ⟨Try.isAgg47, Try.sizeOf47, ⟨_, Try.zeroValue47, ⟨[Value.nilFunc], rfl, fun S w η => .cons (rfl) (.nil)⟩, (fun T h => by cases h)⟩, (fun T h => by cases h), ⟨_, _, _, Try.runUnderlying47⟩⟩
theorem ti48 : TIok Try.prog 48 ⟨false, 1, [.l .nilF], none, .fn⟩ :=
  ⟨Try.isAgg48, Try.sizeOf48, ⟨_, Try.zeroValue48, ⟨[Value.nilFunc], rfl, fun S w η => .cons (rfl) (.nil)⟩, (fun T h => by cases h)⟩, (fun T h => by cases h), ⟨_, _, _, Try.runUnderlying48⟩⟩
theorem ti49 : TIok Try.prog 49 ⟨false, 1, [.l .nilF], none, .fn⟩ :=
  ⟨Try.isAgg49, Try.sizeOf49, ⟨_, Try.zeroValue49, ⟨[Value.nilFunc], rfl, fun S w η => .cons (rfl) (.nil)⟩, (fun T h => by cases h)⟩, (fun T h => by cases h), ⟨_, _, _, Try.runUnderlying49⟩⟩
theorem ti50 : TIok Try.prog 50 ⟨false, 1, [.l .nilF], none, .fn⟩ :=
  ⟨Try.isAgg50, Try.sizeOf50, ⟨_, Try.zeroValue50, ⟨[Value.nilFunc], rfl, fun S w η => .cons (rfl) (.nil)⟩, (fun T h => by cases h)⟩, (fun T h => by cases h), ⟨_, _, _, Try.runUnderlying50⟩⟩
theorem ti51 : TIok Try.prog 51 ⟨false, 1, [.l .nilF], none, .fn⟩ :=
  ⟨Try.isAgg51, Try.sizeOf51, ⟨_, Try.zeroValue51, ⟨[Value.nilFunc], rfl, fun S w η => .cons (rfl) (.nil)⟩, (fun T h => by cases h)⟩, (fun T h => by cases h), ⟨_, _, _, Try.runUnderlying51⟩⟩
theorem ti52 : TIok Try.prog 52 ⟨false, 1, [.l .nilF], none, .fn⟩ :=
  ⟨Try.isAgg52, Try.sizeOf52, ⟨_, Try.zeroValue52, ⟨[Value.nilFunc], rfl, fun S w η => .cons (rfl) (.nil)⟩, (fun T h => by cases h)⟩, (fun T h => by cases h), ⟨_, _, _, Try.runUnderlying52⟩⟩
theorem ti53 : TIok Try.prog 53 ⟨false, 1, [.l .nilF], none, .fn⟩ :=
  ⟨Try.isAgg53, Try.sizeOf53, ⟨_, Try.zeroValue53, ⟨[Value.nilFunc], rfl, fun S w η => .cons (rfl) (.nil)⟩, (fun T h => by cases h)⟩, (fun T h => by cases h), ⟨_, _, _, Try.runUnderlying53⟩⟩
theorem ti54 : TIok Try.prog 54 ⟨false, 1, [.l .nilF], none, .fn⟩ :=
  ⟨Try.isAgg54, Try.sizeOf54, ⟨_, Try.zeroValue54, ⟨[Value.nilFunc], rfl, fun S w η => .cons (rfl) (.nil)⟩, (fun T h => by cases h)⟩, (fun T h => by cases h), ⟨_, _, _, Try.runUnderlying54⟩⟩
theorem ti55 : TIok Try.prog 55 ⟨false, 1, [.l .nilF], none, .fn⟩ :=
  ⟨Try.isAgg55, Try.sizeOf55, ⟨_, Try.zeroValue55, ⟨[Value.nilFunc], rfl, fun S w η => .cons (rfl) (.nil)⟩, (fun T h => by cases h)⟩, (fun T h => by cases h), ⟨_, _, _, Try.runUnderlying55⟩⟩
theorem ti56 : TIok Try.prog 56 ⟨false, 1, [.l .nilF], none, .fn⟩ :=
  ⟨Try.isAgg56, Try.sizeOf56, ⟨_, Try.zeroValue56, ⟨[Value.nilFunc], rfl, fun S w η => .cons (rfl) (.nil)⟩, (fun T h => by cases h)⟩, (fun T h => by cases h), ⟨_, _, _, Try.runUnderlying56⟩⟩
theorem ti57 : TIok Try.prog 57 ⟨true, 3, [.d (.int .i64) (0 : Int), .d (.int .i64) (0 : Int), .d (.int .i64) (0 : Int)], some (.pair (.int .i64) (.pair (.int .i64) (.int .i64))), .array 3 3⟩ :=
  ⟨Try.isAgg57, Try.sizeOf57, ⟨_, Try.zeroValue57, ⟨[Value.int IntKind.i64 0, Value.int IntKind.i64 0, Value.int IntKind.i64 0], rfl, fun S w η => .cons (zi _) (.cons (zi _) (.cons (zi _) (.nil)))⟩, (fun T h => by cases h; rfl)⟩, (fun T h => by cases h; exact ⟨rfl, rfl⟩), Try.runUnderlying57⟩
theorem ti58 : TIok Try.prog 58 ⟨false, 1, [.l .nilF], none, .fn⟩ :=
  ⟨Try.isAgg58, Try.sizeOf58, ⟨_, Try.zeroValue58, ⟨[Value.nilFunc], rfl, fun S w η => .cons (rfl) (.nil)⟩, (fun T h => by cases h)⟩, (fun T h => by cases h), ⟨_, _, _, Try.runUnderlying58⟩⟩
theorem ti59 : TIok Try.prog 59 ⟨false, 1, [.l .nilF], none, .fn⟩ :=
  ⟨Try.isAgg59, Try.sizeOf59, ⟨_, Try.zeroValue59, ⟨[Value.nilFunc], rfl, fun S w η => .cons (rfl) (.nil)⟩, (fun T h => by cases h)⟩, (fun T h => by cases h), ⟨_, _, _, Try.runUnderlying59⟩⟩
theorem ti60 : TIok Try.prog 60 ⟨false, 1, [.l .nilF], none, .fn⟩ :=
  ⟨Try.isAgg60, Try.sizeOf60, ⟨_, Try.zeroValue60, ⟨[Value.nilFunc], rfl, fun S w η => .cons (rfl) (.nil)⟩, (fun T h => by cases h)⟩, (fun T h => by cases h), ⟨_, _, _, Try.runUnderlying60⟩⟩
theorem ti61 : TIok Try.prog 61 ⟨false, 1, [.l .nilF], none, .fn⟩ :=
  ⟨Try.isAgg61, Try.sizeOf61, ⟨_, Try.zeroValue61, ⟨[Value.nilFunc], rfl, fun S w η => .cons (rfl) (.nil)⟩, (fun T h => by cases h)⟩, (fun T h => by cases h), ⟨_, _, _, Try.runUnderlying61⟩⟩
theorem ti62 : TIok Try.prog 62 ⟨false, 1, [.l .nilF], none, .fn⟩ :=
  ⟨Try.isAgg62, Try.sizeOf62, ⟨_, Try.zeroValue62, ⟨[Value.nilFunc], rfl, fun S w η => .cons (rfl) (.nil)⟩, (fun T h => by cases h)⟩, (fun T h => by cases h), ⟨_, _, _, Try.runUnderlying62⟩⟩
theorem ti64 : TIok Try.prog 64 ⟨false, 1, [.l .nilF], none, .fn⟩ :=
  ⟨Try.isAgg64, Try.sizeOf64, ⟨_, Try.zeroValue64, ⟨[Value.nilFunc], rfl, fun S w η => .cons (rfl) (.nil)⟩, (fun T h => by cases h)⟩, (fun T h => by cases h), ⟨_, _, _, Try.runUnderlying64⟩⟩
theorem ti65 : TIok Try.prog 65 ⟨false, 1, [.l .nilS], some (.list (.list (.list (.int .i64)))), .slice 38 24⟩ :=
  ⟨Try.isAgg65, Try.sizeOf65, ⟨_, Try.zeroValue65, ⟨[Value.slice none 0 0], rfl, fun S w η => .cons (rfl) (.nil)⟩, (fun T h => by cases h; rfl)⟩, (fun T h => by cases h; exact ⟨rfl, rfl⟩), ⟨Try.underlying65, by decide, Try.t38, _, rfl, rfl, rfl, Try.zeroValue38, Try.sizeOf38⟩⟩
theorem ti66 : TIok Try.prog 66 ⟨false, 1, [.l .nilF], none, .fn⟩ :=
  ⟨Try.isAgg66, Try.sizeOf66, ⟨_, Try.zeroValue66, ⟨[Value.nilFunc], rfl, fun S w η => .cons (rfl) (.nil)⟩, (fun T h => by cases h)⟩, (fun T h => by cases h), ⟨_, _, _, Try.runUnderlying66⟩⟩
theorem ti67 : TIok Try.prog 67 ⟨false, 1, [.l .nilF], none, .fn⟩ :=
  ⟨Try.isAgg67, Try.sizeOf67, ⟨_, Try.zeroValue67, ⟨[Value.nilFunc], rfl, fun S w η => .cons (rfl) (.nil)⟩, (fun T h => by cases h)⟩, (fun T h => by cases h), ⟨_, _, _, Try.runUnderlying67⟩⟩
theorem ti68 : TIok Try.prog 68 ⟨false, 1, [.l .nilF], none, .fn⟩ :=
  ⟨Try.isAgg68, Try.sizeOf68, ⟨_, Try.zeroValue68, ⟨[Value.nilFunc], rfl, fun S w η => .cons (rfl) (.nil)⟩, (fun T h => by cases h)⟩, (fun T h => by cases h), ⟨_, _, _, Try.runUnderlying68⟩⟩
theorem ti69 : TIok Try.prog 69 ⟨false, 1, [.l .nilF], none, .fn⟩ :=
  ⟨Try.isAgg69, Try.sizeOf69, ⟨_, Try.zeroValue69, ⟨[Value.nilFunc], rfl, fun S w η => .cons (rfl) (.nil)⟩, (fun T h => by cases h)⟩, (fun T h => by cases h), ⟨_, _, _, Try.runUnderlying69⟩⟩
theorem ti70 : TIok Try.prog 70 ⟨false, 1, [.l .nilF], none, .fn⟩ :=
  ⟨Try.isAgg70, Try.sizeOf70, ⟨_, Try.zeroValue70, ⟨[Value.nilFunc], rfl, fun S w η => .cons (rfl) (.nil)⟩, (fun T h => by cases h)⟩, (fun T h => by cases h), ⟨_, _, _, Try.runUnderlying70⟩⟩
theorem ti71 : TIok Try.prog 71 ⟨false, 1, [.l .nilF], none, .fn⟩ :=
  ⟨Try.isAgg71, Try.sizeOf71, ⟨_, Try.zeroValue71, ⟨[Value.nilFunc], rfl, fun S w η => .cons (rfl) (.nil)⟩, (fun T h => by cases h)⟩, (fun T h => by cases h), ⟨_, _, _, Try.runUnderlying71⟩⟩
theorem ti72 : TIok Try.prog 72 ⟨false, 1, [.l .nilF], none, .fn⟩ :=
  ⟨Try.isAgg72, Try.sizeOf72, ⟨_, Try.zeroValue72, ⟨[Value.nilFunc], rfl, fun S w η => .cons (rfl) (.nil)⟩, (fun T h => by cases h)⟩, (fun T h => by cases h), ⟨_, _, _, Try.runUnderlying72⟩⟩
theorem ti73 : TIok Try.prog 73 ⟨false, 1, [.l .nilF], none, .fn⟩ :=
  ⟨Try.isAgg73, Try.sizeOf73, ⟨_, Try.zeroValue73, ⟨[Value.nilFunc], rfl, fun S w η => .cons (rfl) (.nil)⟩, (fun T h => by cases h)⟩, (fun T h => by cases h), ⟨_, _, _, Try.runUnderlying73⟩⟩
theorem ti74 : TIok Try.prog 74 ⟨false, 1, [.l .nilF], none, .fn⟩ :=
  ⟨Try.isAgg74, Try.sizeOf74, ⟨_, Try.zeroValue74, ⟨[Value.nilFunc], rfl, fun S w η => .cons (rfl) (.nil)⟩, (fun T h => by cases h)⟩, (fun T h => by cases h), ⟨_, _, _, Try.runUnderlying74⟩⟩
theorem ti75 : TIok Try.prog 75 ⟨false, 1, [.l .nilF], none, .fn⟩ :=
  ⟨Try.isAgg75, Try.sizeOf75, ⟨_, Try.zeroValue75, ⟨[Value.nilFunc], rfl, fun S w η => .cons (rfl) (.nil)⟩, (fun T h => by cases h)⟩, (fun T h => by cases h), ⟨_, _, _, Try.runUnderlying75⟩⟩
theorem ti76 : TIok Try.prog 76 ⟨false, 1, [.l .nilF], none, .fn⟩ :=
  ⟨Try.isAgg76, Try.sizeOf76, ⟨_, Try.zeroValue76, ⟨[Value.nilFunc], rfl, fun S w η => .cons (rfl) (.nil)⟩, (fun T h => by cases h)⟩, (fun T h => by cases h), ⟨_, _, _, Try.runUnderlying76⟩⟩
theorem ti77 : TIok Try.prog 77 ⟨false, 1, [.l .nilF], none, .fn⟩ :=
  ⟨Try.isAgg77, Try.sizeOf77, ⟨_, Try.zeroValue77, ⟨[Value.nilFunc], rfl, fun S w η => .cons (rfl) (.nil)⟩, (fun T h => by cases h)⟩, (fun T h => by cases h), ⟨_, _, _, Try.runUnderlying77⟩⟩
theorem ti79 : TIok Try.prog 79 ⟨false, 1, [.l .nilF], none, .fn⟩ :=
  ⟨Try.isAgg79, Try.sizeOf79, ⟨_, Try.zeroValue79, ⟨[Value.nilFunc], rfl, fun S w η => .cons (rfl) (.nil)⟩, (fun T h => by cases h)⟩, (fun T h => by cases h), ⟨_, _, _, Try.runUnderlying79⟩⟩
theorem ti80 : TIok Try.prog 80 ⟨false, 1, [.l .nilF], none, .fn⟩ :=
  ⟨Try.isAgg80, Try.sizeOf80, ⟨_, Try.zeroValue80, ⟨[Value.nilFunc], rfl, fun S w η => .cons (rfl) (.nil)⟩, (fun T h => by cases h)⟩, (fun T h => by cases h), ⟨_, _, _, Try.runUnderlying80⟩⟩
theorem ti81 : TIok Try.prog 81 ⟨false, 1, [.l .nilF], none, .fn⟩ :=
  ⟨Try.isAgg81, Try.sizeOf81, ⟨_, Try.zeroValue81, ⟨[Value.nilFunc], rfl, fun S w η => .cons (rfl) (.nil)⟩, (fun T h => by cases h)⟩, (fun T h => by cases h), ⟨_, _, _, Try.runUnderlying81⟩⟩
theorem ti82 : TIok Try.prog 82 ⟨false, 1, [.l .nilF], none, .fn⟩ :=
  ⟨Try.isAgg82, Try.sizeOf82, ⟨_, Try.zeroValue82, ⟨[Value.nilFunc], rfl, fun S w η => .cons (rfl) (.nil)⟩, (fun T h => by cases h)⟩, (fun T h => by cases h), ⟨_, _, _, Try.runUnderlying82⟩⟩
theorem ti83 : TIok Try.prog 83 ⟨false, 1, [.l .nilF], none, .fn⟩ :=
  ⟨Try.isAgg83, Try.sizeOf83, ⟨_, Try.zeroValue83, ⟨[Value.nilFunc], rfl, fun S w η => .cons (rfl) (.nil)⟩, (fun T h => by cases h)⟩, (fun T h => by cases h), ⟨_, _, _, Try.runUnderlying83⟩⟩
theorem ti84 : TIok Try.prog 84 ⟨false, 1, [.l .nilF], none, .fn⟩ :=
  ⟨Try.isAgg84, Try.sizeOf84, ⟨_, Try.zeroValue84, ⟨[Value.nilFunc], rfl, fun S w η => .cons (rfl) (.nil)⟩, (fun T h => by cases h)⟩, (fun T h => by cases h), ⟨_, _, _, Try.runUnderlying84⟩⟩
theorem ti85 : TIok Try.prog 85 ⟨false, 1, [.l .nilF], none, .fn⟩ :=
  ⟨Try.isAgg85, Try.sizeOf85, ⟨_, Try.zeroValue85, ⟨[Value.nilFunc], rfl, fun S w η => .cons (rfl) (.nil)⟩, (fun T h => by cases h)⟩, (fun T h => by cases h), ⟨_, _, _, Try.runUnderlying85⟩⟩
theorem ti86 : TIok Try.prog 86 ⟨true, 4, [.l .nilP, .l .nilP, .l .nilP, .d .str ([] : List UInt8)], none, .struct [(0, 17, 1), (1, 17, 1), (2, 17, 1), (3, 9, 1)]⟩ :=
  ⟨Try.isAgg86, Try.sizeOf86, ⟨_, Try.zeroValue86, ⟨[Value.pointer none, Value.pointer none, Value.pointer none, Value.string ⟨#[]⟩], rfl, fun S w η => .cons (rfl) (.cons (rfl) (.cons (rfl) (.cons (zs) (.nil))))⟩, (fun T h => by cases h)⟩, (fun T h => by cases h), ⟨_, Try.runUnderlying86, rfl, fun w => by simp [Try.sizeOf17, Try.sizeOf9]⟩⟩
theorem ti89 : TIok Try.prog 89 ⟨true, 0, [], none, .other⟩ :=
  ⟨Try.isAgg89, Try.sizeOf89, ⟨_, Try.zeroValue89, ⟨[], rfl, fun S w η => .nil⟩, (fun T h => by cases h)⟩, (fun T h => by cases h), trivial⟩
theorem ti91 : TIok Try.prog 91 ⟨false, 1, [.l .nilF], none, .fn⟩ :=
  ⟨Try.isAgg91, Try.sizeOf91, ⟨_, Try.zeroValue91, ⟨[Value.nilFunc], rfl, fun S w η => .cons (rfl) (.nil)⟩, (fun T h => by cases h)⟩, (fun T h => by cases h), ⟨_, _, _, Try.runUnderlying91⟩⟩
theorem ti92 : TIok Try.prog 92 ⟨false, 1, [.d (.int .u32) (0 : Int)], some (.int .u32), .int .u32⟩ :=
  ⟨Try.isAgg92, Try.sizeOf92, ⟨_, Try.zeroValue92, ⟨[Value.int IntKind.u32 0], rfl, fun S w η => .cons (zi _) (.nil)⟩, (fun T h => by cases h; rfl)⟩, (fun T h => by cases h; exact ⟨rfl, rfl⟩), Try.runUnderlying92⟩
theorem ti95 : TIok Try.prog 95 ⟨false, 1, [.l .nilF], none, .fn⟩ :=
  ⟨Try.isAgg95, Try.sizeOf95, ⟨_, Try.zeroValue95, ⟨[Value.nilFunc], rfl, fun S w η => .cons (rfl) (.nil)⟩, (fun T h => by cases h)⟩, (fun T h => by cases h), ⟨_, _, _, Try.runUnderlying95⟩⟩
theorem ti96 : TIok Try.prog 96 ⟨false, 1, [.l .nilP], none, .ptr 5⟩ :=
  ⟨Try.isAgg96, Try.sizeOf96, ⟨_, Try.zeroValue96, ⟨[Value.pointer none], rfl, fun S w η => .cons (rfl) (.nil)⟩, (fun T h => by cases h)⟩, (fun T h => by cases h), Try.runUnderlying96⟩
theorem ti99 : TIok Try.prog 99 ⟨true, 11, [.d (.int .u64) (0 : Int), .d (.int .u64) (0 : Int), .d (.int .u32) (0 : Int), .d (.int .u8) (0 : Int), .d (.int .u8) (0 : Int), .d (.int .u8) (0 : Int), .d (.int .u8) (0 : Int), .l .nilF, .l .nilP, .d (.int .i32) (0 : Int), .d (.int .i32) (0 : Int)], none, .other⟩ :=
  ⟨Try.isAgg99, Try.sizeOf99, ⟨_, Try.zeroValue99, ⟨[Value.int IntKind.u64 0, Value.int IntKind.u64 0, Value.int IntKind.u32 0, Value.int IntKind.u8 0, Value.int IntKind.u8 0, Value.int IntKind.u8 0, Value.int IntKind.u8 0, Value.nilFunc, Value.pointer none, Value.int IntKind.i32 0, Value.int IntKind.i32 0], rfl, fun S w η => .cons (zi _) (.cons (zi _) (.cons (zi _) (.cons (zi _) (.cons (zi _) (.cons (zi _) (.cons (zi _) (.cons (rfl) (.cons (rfl) (.cons (zi _) (.cons (zi _) (.nil)))))))))))⟩, (fun T h => by cases h)⟩, (fun T h => by cases h), trivial⟩
theorem tyOK : ∀ id ti, lk tyTab id = some ti → TIok Try.prog id ti := by
  unfold tyTab
  refine lk_all ti1 ?_
  refine lk_all ti2 ?_
  refine lk_all ti3 ?_
  refine lk_all ti4 ?_
  refine lk_all ti5 ?_
  refine lk_all ti7 ?_
  refine lk_all ti9 ?_
  refine lk_all ti12 ?_
  refine lk_all ti13 ?_
  refine lk_all ti15 ?_
  refine lk_all ti16 ?_
  refine lk_all ti17 ?_
  refine lk_all ti18 ?_
  refine lk_all ti20 ?_
  refine lk_all ti21 ?_
  refine lk_all ti22 ?_
  refine lk_all ti23 ?_
  refine lk_all ti24 ?_
  refine lk_all ti25 ?_
  refine lk_all ti26 ?_
  refine lk_all ti27 ?_
  refine lk_all ti28 ?_
  refine lk_all ti29 ?_
  refine lk_all ti30 ?_
  refine lk_all ti31 ?_
  refine lk_all ti32 ?_
  refine lk_all ti33 ?_
  refine lk_all ti34 ?_
  refine lk_all ti35 ?_
  refine lk_all ti36 ?_
  refine lk_all ti37 ?_
  refine lk_all ti38 ?_
  refine lk_all ti39 ?_
  refine lk_all ti41 ?_
  refine lk_all ti43 ?_
  refine lk_all ti45 ?_
  refine lk_all ti46 ?_
  refine lk_all ti47 ?_
  refine lk_all ti48 ?_
  refine lk_all ti49 ?_
  refine lk_all ti50 ?_
  refine lk_all ti51 ?_
  refine lk_all ti52 ?_
  refine lk_all ti53 ?_
  refine lk_all ti54 ?_
  refine lk_all ti55 ?_
  refine lk_all ti56 ?_
  refine lk_all ti57 ?_
  refine lk_all ti58 ?_
  refine lk_all ti59 ?_
  refine lk_all ti60 ?_
  refine lk_all ti61 ?_
  refine lk_all ti62 ?_
  refine lk_all ti64 ?_
  refine lk_all ti65 ?_
  refine lk_all ti66 ?_
  refine lk_all ti67 ?_
  refine lk_all ti68 ?_
  refine lk_all ti69 ?_
  refine lk_all ti70 ?_
  refine lk_all ti71 ?_
  refine lk_all ti72 ?_
  refine lk_all ti73 ?_
  refine lk_all ti74 ?_
  refine lk_all ti75 ?_
  refine lk_all ti76 ?_
  refine lk_all ti77 ?_
  refine lk_all ti79 ?_
  refine lk_all ti80 ?_
  refine lk_all ti81 ?_
  refine lk_all ti82 ?_
  refine lk_all ti83 ?_
  refine lk_all ti84 ?_
  refine lk_all ti85 ?_
  refine lk_all ti86 ?_
  refine lk_all ti89 ?_
  refine lk_all ti91 ?_
  refine lk_all ti92 ?_
  refine lk_all ti95 ?_
  refine lk_all ti96 ?_
  refine lk_all ti99 ?_
  exact lk_none
noncomputable def fnTab : List (FuncId × Func) := [(3, Try.f3), (4, Try.f4), (5, Try.f5), (6, Try.f6), (7, Try.f7), (8, Try.f8), (9, Try.f9), (10, Try.f10), (11, Try.f11), (12, Try.f12), (13, Try.f13), (14, Try.f14), (15, Try.f15), (16, Try.f16), (17, Try.f17), (18, Try.f18), (19, Try.f19), (20, Try.f20), (21, Try.f21), (22, Try.f22), (23, Try.f23), (24, Try.f24), (25, Try.f25), (26, Try.f26), (27, Try.f27), (28, Try.f28), (29, Try.f29), (30, Try.f30), (31, Try.f31), (32, Try.f32), (33, Try.f33), (34, Try.f34), (35, Try.f35), (36, Try.f36), (37, Try.f37), (38, Try.f38), (39, Try.f39), (40, Try.f40), (41, Try.f41), (42, Try.f42), (43, Try.f43), (44, Try.f44), (45, Try.f45), (46, Try.f46), (47, Try.f47), (48, Try.f48), (49, Try.f49), (50, Try.f50), (51, Try.f51), (52, Try.f52), (53, Try.f53), (54, Try.f54), (55, Try.f55), (56, Try.f56), (57, Try.f57), (58, Try.f58), (59, Try.f59), (60, Try.f60), (61, Try.f61), (62, Try.f62), (63, Try.f63), (64, Try.f64), (65, Try.f65)]
theorem fnOK : ∀ f fn, lk fnTab f = some fn → Try.prog.funcs[f]? = some fn ∧ ∀ (args : Array Value) (w : World), (callFunc f args).run Try.prog w = .ok (.enter f args) w := by
  unfold fnTab
  refine lk_all (p := fun f fn => Try.prog.funcs[f]? = some fn ∧ ∀ (args : Array Value) (w : World), (callFunc f args).run Try.prog w = .ok (.enter f args) w) ⟨Try.func3, Try.call3⟩ ?_
  refine lk_all (p := fun f fn => Try.prog.funcs[f]? = some fn ∧ ∀ (args : Array Value) (w : World), (callFunc f args).run Try.prog w = .ok (.enter f args) w) ⟨Try.func4, Try.call4⟩ ?_
  refine lk_all (p := fun f fn => Try.prog.funcs[f]? = some fn ∧ ∀ (args : Array Value) (w : World), (callFunc f args).run Try.prog w = .ok (.enter f args) w) ⟨Try.func5, Try.call5⟩ ?_
  refine lk_all (p := fun f fn => Try.prog.funcs[f]? = some fn ∧ ∀ (args : Array Value) (w : World), (callFunc f args).run Try.prog w = .ok (.enter f args) w) ⟨Try.func6, Try.call6⟩ ?_
  refine lk_all (p := fun f fn => Try.prog.funcs[f]? = some fn ∧ ∀ (args : Array Value) (w : World), (callFunc f args).run Try.prog w = .ok (.enter f args) w) ⟨Try.func7, Try.call7⟩ ?_
  refine lk_all (p := fun f fn => Try.prog.funcs[f]? = some fn ∧ ∀ (args : Array Value) (w : World), (callFunc f args).run Try.prog w = .ok (.enter f args) w) ⟨Try.func8, Try.call8⟩ ?_
  refine lk_all (p := fun f fn => Try.prog.funcs[f]? = some fn ∧ ∀ (args : Array Value) (w : World), (callFunc f args).run Try.prog w = .ok (.enter f args) w) ⟨Try.func9, Try.call9⟩ ?_
  refine lk_all (p := fun f fn => Try.prog.funcs[f]? = some fn ∧ ∀ (args : Array Value) (w : World), (callFunc f args).run Try.prog w = .ok (.enter f args) w) ⟨Try.func10, Try.call10⟩ ?_
  refine lk_all (p := fun f fn => Try.prog.funcs[f]? = some fn ∧ ∀ (args : Array Value) (w : World), (callFunc f args).run Try.prog w = .ok (.enter f args) w) ⟨Try.func11, Try.call11⟩ ?_
  refine lk_all (p := fun f fn => Try.prog.funcs[f]? = some fn ∧ ∀ (args : Array Value) (w : World), (callFunc f args).run Try.prog w = .ok (.enter f args) w) ⟨Try.func12, Try.call12⟩ ?_
  refine lk_all (p := fun f fn => Try.prog.funcs[f]? = some fn ∧ ∀ (args : Array Value) (w : World), (callFunc f args).run Try.prog w = .ok (.enter f args) w) ⟨Try.func13, Try.call13⟩ ?_
  refine lk_all (p := fun f fn => Try.prog.funcs[f]? = some fn ∧ ∀ (args : Array Value) (w : World), (callFunc f args).run Try.prog w = .ok (.enter f args) w) ⟨Try.func14, Try.call14⟩ ?_
  refine lk_all (p := fun f fn => Try.prog.funcs[f]? = some fn ∧ ∀ (args : Array Value) (w : World), (callFunc f args).run Try.prog w = .ok (.enter f args) w) ⟨Try.func15, Try.call15⟩ ?_
  refine lk_all (p := fun f fn => Try.prog.funcs[f]? = some fn ∧ ∀ (args : Array Value) (w : World), (callFunc f args).run Try.prog w = .ok (.enter f args) w) ⟨Try.func16, Try.call16⟩ ?_
  refine lk_all (p := fun f fn => Try.prog.funcs[f]? = some fn ∧ ∀ (args : Array Value) (w : World), (callFunc f args).run Try.prog w = .ok (.enter f args) w) ⟨Try.func17, Try.call17⟩ ?_
  refine lk_all (p := fun f fn => Try.prog.funcs[f]? = some fn ∧ ∀ (args : Array Value) (w : World), (callFunc f args).run Try.prog w = .ok (.enter f args) w) ⟨Try.func18, Try.call18⟩ ?_
  refine lk_all (p := fun f fn => Try.prog.funcs[f]? = some fn ∧ ∀ (args : Array Value) (w : World), (callFunc f args).run Try.prog w = .ok (.enter f args) w) ⟨Try.func19, Try.call19⟩ ?_
  refine lk_all (p := fun f fn => Try.prog.funcs[f]? = some fn ∧ ∀ (args : Array Value) (w : World), (callFunc f args).run Try.prog w = .ok (.enter f args) w) ⟨Try.func20, Try.call20⟩ ?_
  refine lk_all (p := fun f fn => Try.prog.funcs[f]? = some fn ∧ ∀ (args : Array Value) (w : World), (callFunc f args).run Try.prog w = .ok (.enter f args) w) ⟨Try.func21, Try.call21⟩ ?_
  refine lk_all (p := fun f fn => Try.prog.funcs[f]? = some fn ∧ ∀ (args : Array Value) (w : World), (callFunc f args).run Try.prog w = .ok (.enter f args) w) ⟨Try.func22, Try.call22⟩ ?_
  refine lk_all (p := fun f fn => Try.prog.funcs[f]? = some fn ∧ ∀ (args : Array Value) (w : World), (callFunc f args).run Try.prog w = .ok (.enter f args) w) ⟨Try.func23, Try.call23⟩ ?_
  refine lk_all (p := fun f fn => Try.prog.funcs[f]? = some fn ∧ ∀ (args : Array Value) (w : World), (callFunc f args).run Try.prog w = .ok (.enter f args) w) ⟨Try.func24, Try.call24⟩ ?_
  refine lk_all (p := fun f fn => Try.prog.funcs[f]? = some fn ∧ ∀ (args : Array Value) (w : World), (callFunc f args).run Try.prog w = .ok (.enter f args) w) ⟨Try.func25, Try.call25⟩ ?_
  refine lk_all (p := fun f fn => Try.prog.funcs[f]? = some fn ∧ ∀ (args : Array Value) (w : World), (callFunc f args).run Try.prog w = .ok (.enter f args) w) ⟨Try.func26, Try.call26⟩ ?_
  refine lk_all (p := fun f fn => Try.prog.funcs[f]? = some fn ∧ ∀ (args : Array Value) (w : World), (callFunc f args).run Try.prog w = .ok (.enter f args) w) ⟨Try.func27, Try.call27⟩ ?_
  refine lk_all (p := fun f fn => Try.prog.funcs[f]? = some fn ∧ ∀ (args : Array Value) (w : World), (callFunc f args).run Try.prog w = .ok (.enter f args) w) ⟨Try.func28, Try.call28⟩ ?_
  refine lk_all (p := fun f fn => Try.prog.funcs[f]? = some fn ∧ ∀ (args : Array Value) (w : World), (callFunc f args).run Try.prog w = .ok (.enter f args) w) ⟨Try.func29, Try.call29⟩ ?_
  refine lk_all (p := fun f fn => Try.prog.funcs[f]? = some fn ∧ ∀ (args : Array Value) (w : World), (callFunc f args).run Try.prog w = .ok (.enter f args) w) ⟨Try.func30, Try.call30⟩ ?_
  refine lk_all (p := fun f fn => Try.prog.funcs[f]? = some fn ∧ ∀ (args : Array Value) (w : World), (callFunc f args).run Try.prog w = .ok (.enter f args) w) ⟨Try.func31, Try.call31⟩ ?_
  refine lk_all (p := fun f fn => Try.prog.funcs[f]? = some fn ∧ ∀ (args : Array Value) (w : World), (callFunc f args).run Try.prog w = .ok (.enter f args) w) ⟨Try.func32, Try.call32⟩ ?_
  refine lk_all (p := fun f fn => Try.prog.funcs[f]? = some fn ∧ ∀ (args : Array Value) (w : World), (callFunc f args).run Try.prog w = .ok (.enter f args) w) ⟨Try.func33, Try.call33⟩ ?_
  refine lk_all (p := fun f fn => Try.prog.funcs[f]? = some fn ∧ ∀ (args : Array Value) (w : World), (callFunc f args).run Try.prog w = .ok (.enter f args) w) ⟨Try.func34, Try.call34⟩ ?_
  refine lk_all (p := fun f fn => Try.prog.funcs[f]? = some fn ∧ ∀ (args : Array Value) (w : World), (callFunc f args).run Try.prog w = .ok (.enter f args) w) ⟨Try.func35, Try.call35⟩ ?_
  refine lk_all (p := fun f fn => Try.prog.funcs[f]? = some fn ∧ ∀ (args : Array Value) (w : World), (callFunc f args).run Try.prog w = .ok (.enter f args) w) ⟨Try.func36, Try.call36⟩ ?_
  refine lk_all (p := fun f fn => Try.prog.funcs[f]? = some fn ∧ ∀ (args : Array Value) (w : World), (callFunc f args).run Try.prog w = .ok (.enter f args) w) ⟨Try.func37, Try.call37⟩ ?_
  refine lk_all (p := fun f fn => Try.prog.funcs[f]? = some fn ∧ ∀ (args : Array Value) (w : World), (callFunc f args).run Try.prog w = .ok (.enter f args) w) ⟨Try.func38, Try.call38⟩ ?_
  refine lk_all (p := fun f fn => Try.prog.funcs[f]? = some fn ∧ ∀ (args : Array Value) (w : World), (callFunc f args).run Try.prog w = .ok (.enter f args) w) ⟨Try.func39, Try.call39⟩ ?_
  refine lk_all (p := fun f fn => Try.prog.funcs[f]? = some fn ∧ ∀ (args : Array Value) (w : World), (callFunc f args).run Try.prog w = .ok (.enter f args) w) ⟨Try.func40, Try.call40⟩ ?_
  refine lk_all (p := fun f fn => Try.prog.funcs[f]? = some fn ∧ ∀ (args : Array Value) (w : World), (callFunc f args).run Try.prog w = .ok (.enter f args) w) ⟨Try.func41, Try.call41⟩ ?_
  refine lk_all (p := fun f fn => Try.prog.funcs[f]? = some fn ∧ ∀ (args : Array Value) (w : World), (callFunc f args).run Try.prog w = .ok (.enter f args) w) ⟨Try.func42, Try.call42⟩ ?_
  refine lk_all (p := fun f fn => Try.prog.funcs[f]? = some fn ∧ ∀ (args : Array Value) (w : World), (callFunc f args).run Try.prog w = .ok (.enter f args) w) ⟨Try.func43, Try.call43⟩ ?_
  refine lk_all (p := fun f fn => Try.prog.funcs[f]? = some fn ∧ ∀ (args : Array Value) (w : World), (callFunc f args).run Try.prog w = .ok (.enter f args) w) ⟨Try.func44, Try.call44⟩ ?_
  refine lk_all (p := fun f fn => Try.prog.funcs[f]? = some fn ∧ ∀ (args : Array Value) (w : World), (callFunc f args).run Try.prog w = .ok (.enter f args) w) ⟨Try.func45, Try.call45⟩ ?_
  refine lk_all (p := fun f fn => Try.prog.funcs[f]? = some fn ∧ ∀ (args : Array Value) (w : World), (callFunc f args).run Try.prog w = .ok (.enter f args) w) ⟨Try.func46, Try.call46⟩ ?_
  refine lk_all (p := fun f fn => Try.prog.funcs[f]? = some fn ∧ ∀ (args : Array Value) (w : World), (callFunc f args).run Try.prog w = .ok (.enter f args) w) ⟨Try.func47, Try.call47⟩ ?_
  refine lk_all (p := fun f fn => Try.prog.funcs[f]? = some fn ∧ ∀ (args : Array Value) (w : World), (callFunc f args).run Try.prog w = .ok (.enter f args) w) ⟨Try.func48, Try.call48⟩ ?_
  refine lk_all (p := fun f fn => Try.prog.funcs[f]? = some fn ∧ ∀ (args : Array Value) (w : World), (callFunc f args).run Try.prog w = .ok (.enter f args) w) ⟨Try.func49, Try.call49⟩ ?_
  refine lk_all (p := fun f fn => Try.prog.funcs[f]? = some fn ∧ ∀ (args : Array Value) (w : World), (callFunc f args).run Try.prog w = .ok (.enter f args) w) ⟨Try.func50, Try.call50⟩ ?_
  refine lk_all (p := fun f fn => Try.prog.funcs[f]? = some fn ∧ ∀ (args : Array Value) (w : World), (callFunc f args).run Try.prog w = .ok (.enter f args) w) ⟨Try.func51, Try.call51⟩ ?_
  refine lk_all (p := fun f fn => Try.prog.funcs[f]? = some fn ∧ ∀ (args : Array Value) (w : World), (callFunc f args).run Try.prog w = .ok (.enter f args) w) ⟨Try.func52, Try.call52⟩ ?_
  refine lk_all (p := fun f fn => Try.prog.funcs[f]? = some fn ∧ ∀ (args : Array Value) (w : World), (callFunc f args).run Try.prog w = .ok (.enter f args) w) ⟨Try.func53, Try.call53⟩ ?_
  refine lk_all (p := fun f fn => Try.prog.funcs[f]? = some fn ∧ ∀ (args : Array Value) (w : World), (callFunc f args).run Try.prog w = .ok (.enter f args) w) ⟨Try.func54, Try.call54⟩ ?_
  refine lk_all (p := fun f fn => Try.prog.funcs[f]? = some fn ∧ ∀ (args : Array Value) (w : World), (callFunc f args).run Try.prog w = .ok (.enter f args) w) ⟨Try.func55, Try.call55⟩ ?_
  refine lk_all (p := fun f fn => Try.prog.funcs[f]? = some fn ∧ ∀ (args : Array Value) (w : World), (callFunc f args).run Try.prog w = .ok (.enter f args) w) ⟨Try.func56, Try.call56⟩ ?_
  refine lk_all (p := fun f fn => Try.prog.funcs[f]? = some fn ∧ ∀ (args : Array Value) (w : World), (callFunc f args).run Try.prog w = .ok (.enter f args) w) ⟨Try.func57, Try.call57⟩ ?_
  refine lk_all (p := fun f fn => Try.prog.funcs[f]? = some fn ∧ ∀ (args : Array Value) (w : World), (callFunc f args).run Try.prog w = .ok (.enter f args) w) ⟨Try.func58, Try.call58⟩ ?_
  refine lk_all (p := fun f fn => Try.prog.funcs[f]? = some fn ∧ ∀ (args : Array Value) (w : World), (callFunc f args).run Try.prog w = .ok (.enter f args) w) ⟨Try.func59, Try.call59⟩ ?_
  refine lk_all (p := fun f fn => Try.prog.funcs[f]? = some fn ∧ ∀ (args : Array Value) (w : World), (callFunc f args).run Try.prog w = .ok (.enter f args) w) ⟨Try.func60, Try.call60⟩ ?_
  refine lk_all (p := fun f fn => Try.prog.funcs[f]? = some fn ∧ ∀ (args : Array Value) (w : World), (callFunc f args).run Try.prog w = .ok (.enter f args) w) ⟨Try.func61, Try.call61⟩ ?_
  refine lk_all (p := fun f fn => Try.prog.funcs[f]? = some fn ∧ ∀ (args : Array Value) (w : World), (callFunc f args).run Try.prog w = .ok (.enter f args) w) ⟨Try.func62, Try.call62⟩ ?_
  refine lk_all (p := fun f fn => Try.prog.funcs[f]? = some fn ∧ ∀ (args : Array Value) (w : World), (callFunc f args).run Try.prog w = .ok (.enter f args) w) ⟨Try.func63, Try.call63⟩ ?_
  refine lk_all (p := fun f fn => Try.prog.funcs[f]? = some fn ∧ ∀ (args : Array Value) (w : World), (callFunc f args).run Try.prog w = .ok (.enter f args) w) ⟨Try.func64, Try.call64⟩ ?_
  refine lk_all (p := fun f fn => Try.prog.funcs[f]? = some fn ∧ ∀ (args : Array Value) (w : World), (callFunc f args).run Try.prog w = .ok (.enter f args) w) ⟨Try.func65, Try.call65⟩ ?_
  exact lk_none
noncomputable def tabs : Tabs := ⟨tyTab, fnTab, [], []⟩
theorem tabsOK : TabOK Try.prog tabs := ⟨tyOK, fnOK, (fun _ _ h => by cases h), (fun _ _ h => by cases h), by kernel_rfl⟩
end Go.Proofs.Ytadcohacnmicjaa
/-
  Models of the functions of this seat, and that the functions compute them (printed by gen_models.py). No conditions.
-/
namespace Go.Proofs.Ytadcohacnmicjaa
open Go Go.Abs Go.PE Go.Proofs
set_option linter.unusedVariables false
set_option maxRecDepth 100000

/-! putlog/putloglaw09.example -/
def as37 : List Ty := [tI]
def rs37 : List Ty := [(.pair tI (.list (.pair tI (.pair tI tI))))]
noncomputable def an37 : Ann := .a
noncomputable def m37 : Int → Option (Int × List (Int × Int × Int)) :=
  fun (x : Int) =>
    some ((3 : Int), [((0 : Int), (1 : Int), (5 : Int)), ((1 : Int), (2 : Int), (-2 : Int)), ((2 : Int), (0 : Int), x)])
theorem c37 : SpecOK Try.prog 37 ⟨as37, rs37, m37⟩ :=
  fnM_ok (own := []) (an := an37) (n := 400) tabsOK (F := OPS) OPS_sound OPS_nice (f := 37) (fn := Try.f37) (code := Try.f37.body.getD .skip) (by kernel_rfl) (by kernel_rfl) (by kernel_rfl) fun x => by kernel_rfl
noncomputable def tabs37 : Tabs := Tabs.add tabs 37 ⟨as37, rs37, m37⟩
theorem tabs37OK : TabOK Try.prog tabs37 := TabOK.add tabsOK c37 Try.call37

/-! putlog/between.isIn -/
def as47 : List Ty := [tI, tI, tI]
def rs47 : List Ty := [.bool]
noncomputable def an47 : Ann := .a
noncomputable def m47 : (Int × Int × Int) → Option (Bool) :=
  fun (x : Int × Int × Int) => some (PE.andM (leM x.2.1 x.1) (leM x.1 x.2.2))
theorem c47 : SpecOK Try.prog 47 ⟨as47, rs47, m47⟩ :=
  fnM_ok (own := []) (an := an47) (n := 400) tabs37OK (F := OPS) OPS_sound OPS_nice (f := 47) (fn := Try.f47) (code := Try.f47.body.getD .skip) (by kernel_rfl) (by kernel_rfl) (by kernel_rfl) fun x => by kernel_rfl
noncomputable def tabs47 : Tabs := Tabs.add tabs37 47 ⟨as47, rs47, m47⟩
theorem tabs47OK : TabOK Try.prog tabs47 := TabOK.add tabs37OK c47 Try.call47

/-! putlog/between.isBound -/
def as50 : List Ty := [tI, (.pair tI (.pair tI tI))]
def rs50 : List Ty := [.bool]
noncomputable def an50 : Ann := .a
noncomputable def m50 : (Int × Int × Int × Int) → Option (Bool) :=
  fun (x : Int × Int × Int × Int) =>
    Option.bind (m47 (x.2.1, (0 : Int), IntKind.wrap IntKind.i64 (x.1 - (1 : Int)))) fun (r : Bool) =>
      Option.bind (bif r then m47 (x.2.2.1, (0 : Int), IntKind.wrap IntKind.i64 (x.1 - (1 : Int))) else some false)
        fun (r_1 : Bool) =>
        Option.bind (bif PE.andM r r_1 then m47 (x.2.2.2, (-1000000000 : Int), (1000000000 : Int)) else some false)
          fun (r_2 : Bool) => some (PE.andM (PE.andM r r_1) r_2)
theorem c50 : SpecOK Try.prog 50 ⟨as50, rs50, m50⟩ :=
  fnM_ok (own := []) (an := an50) (n := 400) tabs47OK (F := OPS) OPS_sound OPS_nice (f := 50) (fn := Try.f50) (code := Try.f50.body.getD .skip) (by kernel_rfl) (by kernel_rfl) (by kernel_rfl) fun x => by kernel_rfl
noncomputable def tabs50 : Tabs := Tabs.add tabs47 50 ⟨as50, rs50, m50⟩
theorem tabs50OK : TabOK Try.prog tabs50 := TabOK.add tabs47OK c50 Try.call50

/-! putlog/between.Valid -/
def as22 : List Ty := [(.pair tI (.list (.pair tI (.pair tI tI))))]
def rs22 : List Ty := [.bool]
noncomputable def an22 : Ann := .seq (.a) (.seq (.reg [] [] [.s [] [], .s [0] [], .s [] [], .s [] [], .s [] [], .s [0] [], .s [] [], .s [] [], .s [] [], .s [] [], .s [] [], .s [0] [], .s [] [], .r, .s [] [], .s [] [], .s [] []] (.call [] [(.norm, ⟨[(16, .r (.c (.d (.d .bool))))], [], [], []⟩)] (.seq (.a) (.seq (.reg [] [] [.s [] [], .s [] [], .r, .s [] [], .s [] []] (.call [] [(.norm, ⟨[(7, .r (.c (.d (.d tI))))], [], [], []⟩)] (.seq (.a) (.seq (.seq (.a) (.block (.loop ⟨[(8, .r (.c (.d (.d tI))))], [5, 9, 10, 11, 12, 13, 14, 15, 16, 18], [], []⟩ [(.exit 0, ⟨[], [5, 8, 9, 10, 11, 12, 13, 14, 15, 16, 18], [], []⟩), (.ret, ⟨[(4, .r (.c (.d (.d tI))))], [5, 8, 9, 10, 11, 12, 13, 14, 15, 16, 17, 18], [], []⟩)] (.seq (.a) (.seq (.a) (.seq (.block (.seq (.a) (.seq (.reg [] [] [.s [] [], .s [] [], .s [] [], .s [] [], .s [] [], .r] (.call [] [] (.a) (.a))) (.a)))) (.a))))))) (.a))) (.a))) (.a))) (.a))) (.a))
noncomputable def m22 : (Int × List (Int × Int × Int)) → Option (Bool) :=
  fun (x : Int × List (Int × Int × Int)) =>
    Option.bind (m47 (x.1, (0 : Int), (16 : Int))) fun (r : Bool) =>
      Option.bind
        (bif PE.andM r (leM (lenM x.2) (60 : Int)) then
          Option.bind
            (Option.bind
              (loopM
                (fun (s : Int) =>
                  bif ltM s (lenM x.2) then
                    Option.bind (idxM x.2 s) fun (r_1 : Int × Int × Int) =>
                      Option.bind (m50 (x.1, r_1.1, r_1.2.1, r_1.2.2)) fun (r : Bool) =>
                        bif PE.notM r then some (Sum.inr (Sum.inr s))
                        else some (Sum.inl (IntKind.wrap IntKind.i64 (s + (1 : Int))))
                  else some (Sum.inr (Sum.inl ())))
                (0 : Int))
              fun (o : Unit ⊕ Int) => Sum.elim (fun (t : Unit) => some (-1 : Int)) (fun (t : Int) => some t) o)
            fun (ov : Int) => some (leM (0 : Int) ov)
        else some false)
        fun (ov : Bool) => some (PE.andM (PE.andM r (leM (lenM x.2) (60 : Int))) (PE.notM ov))
theorem c22 : SpecOK Try.prog 22 ⟨as22, rs22, m22⟩ :=
  fnM_ok (own := []) (an := an22) (n := 400) tabs50OK (F := OPS) OPS_sound OPS_nice (f := 22) (fn := Try.f22) (code := Try.f22.body.getD .skip) (by kernel_rfl) (by kernel_rfl) (by kernel_rfl) fun x => by kernel_rfl
noncomputable def tabs22 : Tabs := Tabs.add tabs50 22 ⟨as22, rs22, m22⟩
theorem tabs22OK : TabOK Try.prog tabs22 := TabOK.add tabs50OK c22 Try.call22

/-! putlog/between.none$1 -/
def as65 : List Ty := [tI, tI]
def rs65 : List Ty := [tI]
noncomputable def an65 : Ann := .a
noncomputable def m65 : (Int × Int) → Option (Int) :=
  fun (x : Int × Int) => bif eqM x.1 x.2 then some (0 : Int) else some (1152921504606846976 : Int)
theorem c65 : SpecOK Try.prog 65 ⟨as65, rs65, m65⟩ :=
  fnM_ok (own := []) (an := an65) (n := 400) tabs22OK (F := OPS) OPS_sound OPS_nice (f := 65) (fn := Try.f65) (code := Try.f65.body.getD .skip) (by kernel_rfl) (by kernel_rfl) (by kernel_rfl) fun x => by kernel_rfl
noncomputable def tabs65 : Tabs := Tabs.add tabs22 65 ⟨as65, rs65, m65⟩
theorem tabs65OK : TabOK Try.prog tabs65 := TabOK.add tabs22OK c65 Try.call65

/-! putlog/between.none -/
def as58 : List Ty := [tI]
def rs58 : List Ty := [(.list (.list tI))]
noncomputable def an58 : Ann := .seq (.a) (.seq (.reg [] [] [.s [] [], .r, .s [] []] (.call [9] [] (.seq (.a) (.seq (.a) (.seq (.seq (.a) (.block (.loop ⟨[(11, .r (.c (.d (.d tI))))], [6, 7, 12, 13, 14, 15, 16, 17, 18, 19, 20, 21, 22, 23, 24, 25, 26, 27, 28, 29, 30, 31, 32], [(0, .tab tI 2), (1, .gone)], [.us]⟩ [(.exit 0, ⟨[], [6, 7, 11, 12, 13, 14, 15, 16, 17, 18, 19, 20, 21, 22, 23, 24, 25, 26, 27, 28, 29, 30, 31, 32], [(0, .tab tI 2), (1, .gone)], [.us]⟩)] (.seq (.a) (.seq (.a) (.seq (.block (.seq (.a) (.seq (.a) (.block (.loop ⟨[(15, .r (.c (.d (.d tI))))], [7, 16, 17, 18, 19, 20, 21, 22, 23, 24, 25, 26, 27, 28, 29, 30, 31], [(0, .tab tI 3), (2, .gone)], [.us]⟩ [(.exit 2, ⟨[], [7, 15, 16, 17, 18, 19, 20, 21, 22, 23, 24, 25, 26, 27, 28, 29, 30, 31], [(0, .tab tI 3), (2, .gone)], [.us]⟩)] (.seq (.a) (.seq (.a) (.seq (.block (.seq (.a) (.reg [0, 0, 0, 0, 12, 28, 0, 0, 0, 448, 960, 2044, 4095, 8191] [0, 1, 2, 3, 4, 5, 6, 7, 8, 9, 10, 11, 12, 13] [.s [] [], .s [] [], .s [] [], .s [] [], .s [0] [], .s [0] [], .s [] [], .s [] [], .s [] [], .s [] [], .s [] [], .s [0] [0], .s [0] [], .s [0, 0] [0]] (.a)))) (.a))))))))) (.a))))))) (.a)))) (.a))) (.a))
noncomputable def m58 : Int → Option (List (List Int)) :=
  fun (x : Int) =>
    Option.bind (mkM x x (nat_lit 24) []) fun (r : List (List Int)) =>
      Option.bind
        (loopM
          (fun (s : Int × List (List Int)) =>
            bif ltM s.1 x then
              Option.bind
                (loopM
                  (fun (s_1 : Int × List (List Int)) =>
                    bif ltM s_1.1 x then
                      Option.bind (chkM s.1 (lenM s_1.2)) fun (r_1 : Unit) =>
                        Option.bind (chkM s.1 (lenM s_1.2)) fun (r_2 : Unit) =>
                          Option.bind (m65 (s.1, s_1.1)) fun (r_3 : Int) =>
                            Option.bind (app2M (nat_lit 8) s_1.2 s.1 [r_3]) fun (r_4 : List (List Int)) =>
                              Option.bind (chkM s.1 (lenM r_4)) fun (r_5 : Unit) =>
                                Option.bind
                                  (Option.bind (sameM s.1 s.1) fun (x : Unit) =>
                                    Option.bind (sameM s.1 s.1) fun (x : Unit) => chkM s.1 (lenM r_4))
                                  fun (r : Unit) => some (Sum.inl (IntKind.wrap IntKind.i64 (s_1.1 + (1 : Int)), r_4))
                    else some (Sum.inr s_1.2))
                  ((0 : Int), s.2))
                fun (o : List (List Int)) => some (Sum.inl (IntKind.wrap IntKind.i64 (s.1 + (1 : Int)), o))
            else some (Sum.inr s.2))
          ((0 : Int), r))
        fun (o : List (List Int)) => some o
theorem c58 : SpecOK Try.prog 58 ⟨as58, rs58, m58⟩ :=
  fnM_ok (own := []) (an := an58) (n := 400) tabs65OK (F := OPS) OPS_sound OPS_nice (f := 58) (fn := Try.f58) (code := Try.f58.body.getD .skip) (by kernel_rfl) (by kernel_rfl) (by kernel_rfl) fun x => by kernel_rfl
noncomputable def tabs58 : Tabs := Tabs.add tabs65 58 ⟨as58, rs58, m58⟩
theorem tabs58OK : TabOK Try.prog tabs58 := TabOK.add tabs65OK c58 Try.call58

/-! putlog/between.plus -/
def as43 : List Ty := [tI, tI]
def rs43 : List Ty := [tI]
noncomputable def an43 : Ann := .a
noncomputable def m43 : (Int × Int) → Option (Int) :=
  fun (x : Int × Int) =>
    bif PE.orM (eqM x.1 (1152921504606846976 : Int)) (eqM x.2 (1152921504606846976 : Int)) then
      some (1152921504606846976 : Int)
    else some (IntKind.wrap IntKind.i64 (x.1 + x.2))
theorem c43 : SpecOK Try.prog 43 ⟨as43, rs43, m43⟩ :=
  fnM_ok (own := []) (an := an43) (n := 400) tabs58OK (F := OPS) OPS_sound OPS_nice (f := 43) (fn := Try.f43) (code := Try.f43.body.getD .skip) (by kernel_rfl) (by kernel_rfl) (by kernel_rfl) fun x => by kernel_rfl
noncomputable def tabs43 : Tabs := Tabs.add tabs58 43 ⟨as43, rs43, m43⟩
theorem tabs43OK : TabOK Try.prog tabs43 := TabOK.add tabs58OK c43 Try.call43

/-! putlog/between.distances -/
def as39 : List Ty := [(.pair tI (.list (.pair tI (.pair tI tI))))]
def rs39 : List Ty := [(.list (.list tI)), .bool]
noncomputable def an39 : Ann := .seq (.a) (.seq (.reg [] [] [.s [] [], .s [0] [], .r, .s [] []] (.call [] [] (.seq (.a) (.seq (.reg [] [] [.s [] [], .r, .s [] []] (.call [9] [] (.seq (.a) (.seq (.a) (.seq (.seq (.a) (.block (.loop ⟨[(11, .r (.c (.d (.d tI))))], [6, 7, 12, 13, 14, 15, 16, 17, 18, 19, 20, 21, 22, 23, 24, 25, 26, 27, 28, 29, 30, 31, 32], [(1, .tab tI 3), (2, .gone)], [.us]⟩ [(.exit 0, ⟨[], [6, 7, 11, 12, 13, 14, 15, 16, 17, 18, 19, 20, 21, 22, 23, 24, 25, 26, 27, 28, 29, 30, 31, 32], [(1, .tab tI 3), (2, .gone)], [.us]⟩)] (.seq (.a) (.seq (.a) (.seq (.block (.seq (.a) (.seq (.a) (.block (.loop ⟨[(15, .r (.c (.d (.d tI))))], [7, 16, 17, 18, 19, 20, 21, 22, 23, 24, 25, 26, 27, 28, 29, 30, 31], [(1, .tab tI 4), (3, .gone)], [.us]⟩ [(.exit 2, ⟨[], [7, 15, 16, 17, 18, 19, 20, 21, 22, 23, 24, 25, 26, 27, 28, 29, 30, 31], [(1, .tab tI 4), (3, .gone)], [.us]⟩)] (.seq (.a) (.seq (.a) (.seq (.block (.seq (.a) (.reg [0, 0, 0, 0, 12, 28, 0, 0, 0, 448, 960, 2044, 4095, 8191] [0, 1, 2, 3, 4, 5, 6, 7, 8, 9, 10, 11, 12, 13] [.s [] [], .s [] [], .s [] [], .s [] [], .s [1] [], .s [1] [], .s [] [], .s [] [], .s [] [], .s [] [], .s [] [], .s [1] [1], .s [1] [], .s [1, 1] [1]] (.a)))) (.a))))))))) (.a))))))) (.a)))) (.a))) (.a))) (.a))) (.seq (.seq (.a) (.block (.loop ⟨[(18, .r (.c (.d (.d tI))))], [6, 19, 20, 21, 22, 23, 24, 25, 26, 27, 28, 29, 30, 31, 32, 33, 34, 35, 36, 37, 38, 39, 40, 41, 42], [(1, .tab tI 3)], []⟩ [(.exit 0, ⟨[], [6, 18, 19, 20, 21, 22, 23, 24, 25, 26, 27, 28, 29, 30, 31, 32, 33, 34, 35, 36, 37, 38, 39, 40, 41, 42], [(1, .tab tI 3)], []⟩)] (.seq (.a) (.seq (.a) (.seq (.block (.seq (.a) (.reg [0, 0, 2, 7, 15, 0, 32, 0, 0, 256, 896, 1920, 0, 4096, 16256, 32640, 0, 65536, 262016, 524287, 1048575] [0, 1, 2, 3, 4, 5, 6, 7, 8, 9, 10, 11, 12, 13, 14, 15, 16, 17, 18, 19, 20] [.s [] [], .s [] [], .s [4] [], .s [1] [], .s [1] [], .s [] [], .s [4] [], .s [] [], .s [] [], .s [4] [], .s [1] [], .s [1] [], .s [] [], .s [4] [], .s [1] [], .s [1] [], .s [] [], .s [4] [], .s [] [], .s [1] [], .s [1] [1]] (.a)))) (.a))))))) (.seq (.seq (.a) (.block (.loop ⟨[(45, .r (.c (.d (.d tI))))], [7, 8, 9, 10, 46, 47, 48, 49, 50, 51, 52, 53, 54, 55, 56, 57, 58, 59, 60, 61, 62, 63, 64, 65, 66, 67, 68, 69, 70, 71, 72, 73, 74, 75, 76, 77, 78, 79, 80, 81, 82, 83, 84, 85, 86, 87, 88, 89, 90, 91, 92, 93, 94, 95], [(1, .tab tI 3)], []⟩ [(.exit 2, ⟨[], [7, 8, 9, 10, 45, 46, 47, 48, 49, 50, 51, 52, 53, 54, 55, 56, 57, 58, 59, 60, 61, 62, 63, 64, 65, 66, 67, 68, 69, 70, 71, 72, 73, 74, 75, 76, 77, 78, 79, 80, 81, 82, 83, 84, 85, 86, 87, 88, 89, 90, 91, 92, 93, 94, 95], [(1, .tab tI 3)], []⟩)] (.seq (.a) (.seq (.a) (.seq (.block (.seq (.a) (.seq (.a) (.seq (.a) (.seq (.a) (.block (.loop ⟨[(59, .r (.c (.d (.d tI))))], [9, 10, 60, 61, 62, 63, 64, 65, 66, 67, 68, 69, 70, 71, 72, 73, 74, 75, 76, 77, 78, 79, 80, 81, 82, 83, 84, 85, 86, 87, 88, 89, 90, 91, 92, 93, 94], [(1, .tab tI 3)], []⟩ [(.exit 4, ⟨[], [9, 10, 59, 60, 61, 62, 63, 64, 65, 66, 67, 68, 69, 70, 71, 72, 73, 74, 75, 76, 77, 78, 79, 80, 81, 82, 83, 84, 85, 86, 87, 88, 89, 90, 91, 92, 93, 94], [(1, .tab tI 3)], []⟩)] (.seq (.a) (.seq (.a) (.seq (.block (.seq (.a) (.seq (.a) (.block (.loop ⟨[(64, .r (.c (.d (.d tI))))], [10, 65, 66, 67, 68, 69, 70, 71, 72, 73, 74, 75, 76, 77, 78, 79, 80, 81, 82, 83, 84, 85, 86, 87, 88, 89, 90, 91, 92, 93], [(1, .tab tI 3)], []⟩ [(.exit 6, ⟨[], [10, 64, 65, 66, 67, 68, 69, 70, 71, 72, 73, 74, 75, 76, 77, 78, 79, 80, 81, 82, 83, 84, 85, 86, 87, 88, 89, 90, 91, 92, 93], [(1, .tab tI 3)], []⟩)] (.seq (.a) (.seq (.a) (.seq (.block (.seq (.a) (.reg [0, 0, 3, 7, 0, 0, 0, 96, 224, 0, 992, 2016, 0, 0, 12288, 28672, 0, 126976, 258048, 0, 0, 1572864, 3670016, 8384512, 16777184, 33554431, 67108863] [0, 1, 2, 3, 4, 5, 6, 7, 8, 9, 10, 11, 12, 13, 14, 15, 16, 17, 18, 19, 20, 21, 22, 23, 24, 25, 26] [.s [] [], .s [] [], .s [1] [], .s [1] [], .s [] [], .s [] [], .s [] [], .s [1] [], .s [1] [], .s [] [], .s [1] [], .s [1] [], .s [] [], .s [] [], .s [1] [], .s [1] [], .s [] [], .s [1] [], .s [1] [], .s [] [], .s [] [], .s [4] [], .s [4] [], .s [] [], .s [] [], .s [1] [], .s [1] [1]] (.a)))) (.a))))))))) (.a))))))))))) (.a))))))) (.seq (.seq (.a) (.block (.loop ⟨[(98, .r (.c (.d (.d tI))))], [11, 99, 100, 101, 102, 103, 104, 105, 106, 107, 108, 109], [], []⟩ [(.exit 8, ⟨[], [11, 98, 99, 100, 101, 102, 103, 104, 105, 106, 107, 108, 109], [], []⟩), (.ret, ⟨[(2, .r (.c (.l .nilS))), (3, .r (.c (.d (.d .bool))))], [11, 98, 99, 100, 101, 102, 103, 104, 105, 106, 107, 108, 109], [], []⟩)] (.a)))) (.a)))))
noncomputable def m39 : (Int × List (Int × Int × Int)) → Option (List (List Int) × Bool) :=
  fun (x : Int × List (Int × Int × Int)) =>
    Option.bind (mkM x.1 x.1 (nat_lit 24) []) fun (r : List (List Int)) =>
      Option.bind
        (loopM
          (fun (s : Int × List (List Int)) =>
            bif ltM s.1 x.1 then
              Option.bind
                (loopM
                  (fun (s_1 : Int × List (List Int)) =>
                    bif ltM s_1.1 x.1 then
                      Option.bind (chkM s.1 (lenM s_1.2)) fun (r_1 : Unit) =>
                        Option.bind (chkM s.1 (lenM s_1.2)) fun (r_2 : Unit) =>
                          Option.bind (m65 (s.1, s_1.1)) fun (r_3 : Int) =>
                            Option.bind (app2M (nat_lit 8) s_1.2 s.1 [r_3]) fun (r_4 : List (List Int)) =>
                              Option.bind (chkM s.1 (lenM r_4)) fun (r_5 : Unit) =>
                                Option.bind
                                  (Option.bind (sameM s.1 s.1) fun (x : Unit) =>
                                    Option.bind (sameM s.1 s.1) fun (x : Unit) => chkM s.1 (lenM r_4))
                                  fun (r : Unit) => some (Sum.inl (IntKind.wrap IntKind.i64 (s_1.1 + (1 : Int)), r_4))
                    else some (Sum.inr s_1.2))
                  ((0 : Int), s.2))
                fun (o : List (List Int)) => some (Sum.inl (IntKind.wrap IntKind.i64 (s.1 + (1 : Int)), o))
            else some (Sum.inr s.2))
          ((0 : Int), r))
        fun (o : List (List Int)) =>
        Option.bind
          (loopM
            (fun (s : Int × List (List Int)) =>
              bif ltM s.1 (lenM x.2) then
                Option.bind (idxM x.2 s.1) fun (r_1 : Int × Int × Int) =>
                  Option.bind (chkM r_1.1 (lenM s.2)) fun (r_2 : Unit) =>
                    Option.bind (chkM r_1.1 (lenM s.2)) fun (r_3 : Unit) =>
                      Option.bind (chkM r_1.1 (lenM s.2)) fun (r_4 : Unit) =>
                        Option.bind (chkM r_1.1 (lenM s.2)) fun (r_5 : Unit) =>
                          Option.bind (Option.bind (idxM s.2 r_1.1) fun (xs : List Int) => chkM r_1.2.1 (lenM xs))
                            fun (r_6 : Unit) =>
                            Option.bind
                              (Option.bind (idxM s.2 r_1.1) fun (xs : List Int) =>
                                Option.bind (idxM xs r_1.2.1) fun (x : Int) => some x)
                              fun (r_7 : Int) =>
                              Option.bind (Option.bind (idxM s.2 r_1.1) fun (xs : List Int) => chkM r_1.2.1 (lenM xs))
                                fun (r_8 : Unit) =>
                                Option.bind (set2M s.2 r_1.1 r_1.2.1 fun (x : Int) => some (min r_7 r_1.2.2))
                                  fun (r : List (List Int)) =>
                                  some (Sum.inl (IntKind.wrap IntKind.i64 (s.1 + (1 : Int)), r))
              else some (Sum.inr s.2))
            ((0 : Int), o))
          fun (o_1 : List (List Int)) =>
          Option.bind
            (loopM
              (fun (s : Int × List (List Int)) =>
                bif ltM s.1 x.1 then
                  Option.bind (mkM x.1 x.1 (nat_lit 8) (0 : Int)) fun (r_1 : List Int) =>
                    Option.bind (chkM s.1 (lenM s.2)) fun (r_2 : Unit) =>
                      Option.bind (chkM s.1 (lenM s.2)) fun (r_3 : Unit) =>
                        Option.bind (idxM s.2 s.1) fun (r_4 : List Int) =>
                          Option.bind
                            (loopM
                              (fun (s_1 : Int × List (List Int)) =>
                                bif ltM s_1.1 x.1 then
                                  Option.bind
                                    (loopM
                                      (fun (s_2 : Int × List (List Int)) =>
                                        bif ltM s_2.1 x.1 then
                                          Option.bind (chkM s_1.1 (lenM s_2.2)) fun (r_5 : Unit) =>
                                            Option.bind (chkM s_1.1 (lenM s_2.2)) fun (r_6 : Unit) =>
                                              Option.bind (chkM s_1.1 (lenM s_2.2)) fun (r_7 : Unit) =>
                                                Option.bind (chkM s_1.1 (lenM s_2.2)) fun (r_8 : Unit) =>
                                                  Option.bind
                                                    (Option.bind (idxM s_2.2 s_1.1) fun (xs : List Int) =>
                                                      chkM s_2.1 (lenM xs))
                                                    fun (r_9 : Unit) =>
                                                    Option.bind
                                                      (Option.bind (idxM s_2.2 s_1.1) fun (xs : List Int) =>
                                                        Option.bind (idxM xs s_2.1) fun (x : Int) => some x)
                                                      fun (r_10 : Int) =>
                                                      Option.bind (chkM s_1.1 (lenM s_2.2)) fun (r_11 : Unit) =>
                                                        Option.bind (chkM s_1.1 (lenM s_2.2)) fun (r_12 : Unit) =>
                                                          Option.bind
                                                            (Option.bind (idxM s_2.2 s_1.1) fun (xs : List Int) =>
                                                              chkM s.1 (lenM xs))
                                                            fun (r_13 : Unit) =>
                                                            Option.bind
                                                              (Option.bind (idxM s_2.2 s_1.1) fun (xs : List Int) =>
                                                                Option.bind (idxM xs s.1) fun (x : Int) => some x)
                                                              fun (r_14 : Int) =>
                                                              Option.bind (chkM s_2.1 (lenM (copyM r_1 r_4)))
                                                                fun (r_15 : Unit) =>
                                                                Option.bind (idxM (copyM r_1 r_4) s_2.1)
                                                                  fun (r_16 : Int) =>
                                                                  Option.bind (m43 (r_14, r_16)) fun (r_17 : Int) =>
                                                                    Option.bind
                                                                      (Option.bind (idxM s_2.2 s_1.1)
                                                                        fun (xs : List Int) => chkM s_2.1 (lenM xs))
                                                                      fun (r_18 : Unit) =>
                                                                      Option.bind
                                                                        (set2M s_2.2 s_1.1 s_2.1 fun (x : Int) =>
                                                                          some (min r_10 r_17))
                                                                        fun (r : List (List Int)) =>
                                                                        some
                                                                          (Sum.inl
                                                                            (IntKind.wrap IntKind.i64 (s_2.1 + (1 : Int)),
                                                                              r))
                                        else some (Sum.inr s_2.2))
                                      ((0 : Int), s_1.2))
                                    fun (o : List (List Int)) =>
                                    some (Sum.inl (IntKind.wrap IntKind.i64 (s_1.1 + (1 : Int)), o))
                                else some (Sum.inr s_1.2))
                              ((0 : Int), s.2))
                            fun (o : List (List Int)) => some (Sum.inl (IntKind.wrap IntKind.i64 (s.1 + (1 : Int)), o))
                else some (Sum.inr s.2))
              ((0 : Int), o_1))
            fun (o_2 : List (List Int)) =>
            Option.bind
              (loopM
                (fun (s : Int) =>
                  bif ltM s x.1 then
                    Option.bind (chkM s (lenM o_2)) fun (r_1 : Unit) =>
                      Option.bind (chkM s (lenM o_2)) fun (r_2 : Unit) =>
                        Option.bind (Option.bind (idxM o_2 s) fun (xs : List Int) => chkM s (lenM xs))
                          fun (r_3 : Unit) =>
                          Option.bind
                            (Option.bind (idxM o_2 s) fun (xs : List Int) =>
                              Option.bind (idxM xs s) fun (x : Int) => some x)
                            fun (r : Int) =>
                            bif ltM r (0 : Int) then some (Sum.inr (Sum.inr false))
                            else some (Sum.inl (IntKind.wrap IntKind.i64 (s + (1 : Int))))
                  else some (Sum.inr (Sum.inl ())))
                (0 : Int))
              fun (o : Unit ⊕ Bool) => Sum.elim (fun (t : Unit) => some (o_2, true)) (fun (t : Bool) => some ([], t)) o
theorem c39 : SpecOK Try.prog 39 ⟨as39, rs39, m39⟩ :=
  fnM_ok (own := []) (an := an39) (n := 400) (TabOK.drop tabs43OK [58]) (F := OPS) OPS_sound OPS_nice (f := 39) (fn := Try.f39) (code := Try.f39.body.getD .skip) (by kernel_rfl) (by kernel_rfl) (by kernel_rfl) fun x => by kernel_rfl
noncomputable def tabs39 : Tabs := Tabs.add tabs43 39 ⟨as39, rs39, m39⟩
theorem tabs39OK : TabOK Try.prog tabs39 := TabOK.add tabs43OK c39 Try.call39

/-! putlog/between.Close -/
def as16 : List Ty := [(.pair tI (.list (.pair tI (.pair tI tI))))]
def rs16 : List Ty := [(.list (.list tI)), tI]
noncomputable def an16 : Ann := .a
noncomputable def m16 : (Int × List (Int × Int × Int)) → Option (List (List Int) × Int) :=
  fun (x : Int × List (Int × Int × Int)) =>
    Option.bind (m22 (x.1, x.2)) fun (r : Bool) =>
      bif PE.notM r then some ([], (90 : Int))
      else
        Option.bind (m39 (x.1, x.2)) fun (r : List (List Int) × Bool) =>
          bif PE.notM r.2 then some ([], (90 : Int)) else some (r.1, (0 : Int))
theorem c16 : SpecOK Try.prog 16 ⟨as16, rs16, m16⟩ :=
  fnM_ok (own := []) (an := an16) (n := 400) tabs39OK (F := OPS) OPS_sound OPS_nice (f := 16) (fn := Try.f16) (code := Try.f16.body.getD .skip) (by kernel_rfl) (by kernel_rfl) (by kernel_rfl) fun x => by kernel_rfl
noncomputable def tabs16 : Tabs := Tabs.add tabs39 16 ⟨as16, rs16, m16⟩
theorem tabs16OK : TabOK Try.prog tabs16 := TabOK.add tabs39OK c16 Try.call16

/-! putlog/between.Solve -/
def as18 : List Ty := [(.pair tI (.list (.pair tI (.pair tI tI))))]
def rs18 : List Ty := [(.list tI), tI]
noncomputable def an18 : Ann := .seq (.a) (.seq (.a) (.seq (.a) (.seq (.a) (.seq (.seq (.a) (.block (.loop ⟨[(24, .r (.c (.d (.d tI))))], [8, 9, 10, 25, 26, 27, 28, 29, 30, 31, 32, 33, 34, 35, 36, 37, 38, 39, 40, 41, 42, 43, 44, 45], [(1, .arr tI)], []⟩ [(.exit 0, ⟨[], [8, 9, 10, 24, 25, 26, 27, 28, 29, 30, 31, 32, 33, 34, 35, 36, 37, 38, 39, 40, 41, 42, 43, 44, 45], [(1, .arr tI)], []⟩)] (.seq (.a) (.seq (.a) (.seq (.block (.seq (.a) (.seq (.a) (.block (.loop ⟨[(30, .r (.c (.d (.d tI))))], [9, 10, 31, 32, 33, 34, 35, 36, 37, 38, 39, 40, 41, 42, 43, 44], [(1, .arr tI)], []⟩ [(.exit 2, ⟨[], [9, 10, 30, 31, 32, 33, 34, 35, 36, 37, 38, 39, 40, 41, 42, 43, 44], [(1, .arr tI)], []⟩)] (.a)))))) (.a))))))) (.a)))))
noncomputable def m18 : (Int × List (Int × Int × Int)) → Option (List Int × Int) :=
  fun (x : Int × List (Int × Int × Int)) =>
    Option.bind (m16 (x.1, x.2)) fun (r : List (List Int) × Int) =>
      bif PE.notM (eqM r.2 (0 : Int)) then some ([], r.2)
      else
        Option.bind (mkM x.1 x.1 (nat_lit 8) (0 : Int)) fun (r_1 : List Int) =>
          Option.bind
            (loopM
              (fun (s : Int × List Int) =>
                bif ltM s.1 (lenM r.1) then
                  Option.bind (idxM r.1 s.1) fun (r_2 : List Int) =>
                    Option.bind
                      (loopM
                        (fun (s_1 : Int × List Int) =>
                          bif ltM s_1.1 (lenM r_2) then
                            Option.bind (idxM r_2 s_1.1) fun (r_3 : Int) =>
                              Option.bind (chkM s_1.1 (lenM s_1.2)) fun (r_4 : Unit) =>
                                Option.bind (idxM s_1.2 s_1.1) fun (r_5 : Int) =>
                                  Option.bind (chkM s_1.1 (lenM s_1.2)) fun (r_6 : Unit) =>
                                    Option.bind (setM s_1.2 s_1.1 fun (x : Int) => some (min r_5 r_3))
                                      fun (r : List Int) =>
                                      some (Sum.inl (IntKind.wrap IntKind.i64 (s_1.1 + (1 : Int)), r))
                          else some (Sum.inr s_1.2))
                        ((0 : Int), s.2))
                      fun (o : List Int) => some (Sum.inl (IntKind.wrap IntKind.i64 (s.1 + (1 : Int)), o))
                else some (Sum.inr s.2))
              ((0 : Int), r_1))
            fun (o : List Int) => some (o, (0 : Int))
theorem c18 : SpecOK Try.prog 18 ⟨as18, rs18, m18⟩ :=
  fnM_ok (own := []) (an := an18) (n := 400) tabs16OK (F := OPS) OPS_sound OPS_nice (f := 18) (fn := Try.f18) (code := Try.f18.body.getD .skip) (by kernel_rfl) (by kernel_rfl) (by kernel_rfl) fun x => by kernel_rfl
noncomputable def tabs18 : Tabs := Tabs.add tabs16 18 ⟨as18, rs18, m18⟩
theorem tabs18OK : TabOK Try.prog tabs18 := TabOK.add tabs16OK c18 Try.call18

/-! putlog/between.walks$1$1 -/
def as61 : List Ty := [tI, tI]
def rs61 : List Ty := [tI]
noncomputable def an61 : Ann := .a
noncomputable def m61 : (Int × Int) → Option (Int) :=
  fun (x : Int × Int) => some (1152921504606846976 : Int)
theorem c61 : SpecOK Try.prog 61 ⟨as61, rs61, m61⟩ :=
  fnM_ok (own := []) (an := an61) (n := 400) tabs18OK (F := OPS) OPS_sound OPS_nice (f := 61) (fn := Try.f61) (code := Try.f61.body.getD .skip) (by kernel_rfl) (by kernel_rfl) (by kernel_rfl) fun x => by kernel_rfl
noncomputable def tabs61 : Tabs := Tabs.add tabs18 61 ⟨as61, rs61, m61⟩
theorem tabs61OK : TabOK Try.prog tabs61 := TabOK.add tabs18OK c61 Try.call61

/-! putlog/between.chain -/
def as44 : List Ty := [(.pair tI (.list (.pair tI (.pair tI tI)))), (.list (.list (.list tI))), tI, tI, tI, tI]
def rs44 : List Ty := [(.list tI)]
noncomputable def an44 : Ann := .seq (.a) (.seq (.a) (.seq (.block (.loop ⟨[(13, .r (.c (.h 6)))], [14, 15, 16, 17, 18, 19, 20, 21, 22, 23, 24, 25, 26, 27, 28, 29, 30, 31, 32, 33, 34, 35, 36, 37, 38, 39, 40], [(2, .box [.d (.d tI)]), (4, .box [.d (.d tI)]), (5, .box [.d (.d tI)])], [.arr tI]⟩ [(.exit 0, ⟨[(13, .r (.c (.h 6)))], [14, 15, 16, 17, 18, 19, 20, 21, 22, 23, 24, 25, 26, 27, 28, 29, 30, 31, 32, 33, 34, 35, 36, 37, 38, 39, 40], [(2, .box [.d (.d tI)]), (4, .box [.d (.d tI)]), (5, .box [.d (.d tI)])], [.arr tI]⟩)] (.seq (.a) (.seq (.block (.seq (.reg [] [] [.s [] [], .s [0] [], .s [] [], .r, .s [] []] (.call [] [(.norm, ⟨[(22, .r (.c (.d (.d tI))))], [], [], []⟩)] (.seq (.a) (.seq (.seq (.a) (.block (.loop ⟨[(8, .r (.c (.d (.d tI))))], [5, 9, 10, 11, 12, 13, 14, 15, 16, 18], [], []⟩ [(.exit 0, ⟨[], [5, 8, 9, 10, 11, 12, 13, 14, 15, 16, 18], [], []⟩), (.ret, ⟨[(4, .r (.c (.d (.d tI))))], [5, 8, 9, 10, 11, 12, 13, 14, 15, 16, 17, 18], [], []⟩)] (.seq (.a) (.seq (.a) (.seq (.block (.seq (.a) (.seq (.reg [] [] [.s [] [], .s [] [], .s [] [], .s [] [], .s [] [], .r] (.call [] [] (.seq (.a) (.seq (.reg [0, 1, 0, 7, 15, 31, 63, 31, 31, 287, 927, 1951, 31, 4127, 16287, 32671, 31, 130975, 262047, 524287, 31, 2097151, 4194303, 8388607] [0, 1, 2, 3, 4, 5, 6, 7, 8, 9, 10, 11, 12, 13, 14, 15, 16, 17, 18, 19, 20, 21, 22, 23] [.s [] [], .s [7] [], .s [2] [], .s [] [], .s [] [], .s [] [], .s [7] [], .s [1] [], .s [4] [], .s [] [], .s [] [], .s [] [], .s [] [], .s [7] [], .s [] [], .s [] [], .s [3] [], .s [] [], .s [] [], .s [] [], .s [5] [], .s [] [], .s [] [], .s [] []] (.a)) (.a))) (.a))) (.a)))) (.a))))))) (.a))) (.a))) (.seq (.reg [0, 1, 0, 7, 15, 31, 0, 0, 128, 0, 896, 1920, 3968, 8128, 63, 32767] [0, 1, 2, 3, 4, 5, 6, 7, 8, 9, 10, 11, 12, 13, 14, 15] [.s [] [], .s [0] [], .s [] [], .s [] [], .s [] [], .s [] [], .s [5] [], .s [] [], .s [0] [], .s [] [], .s [] [], .s [] [], .s [] [], .s [] [], .s [2] [2], .s [5] [5]] (.a)) (.a)))) (.a))))) (.a)))
noncomputable def m44 : ((Int × List (Int × Int × Int)) × List (List (List Int)) × Int × Int × Int × Int) → Option (List Int) :=
  fun (x : (Int × List (Int × Int × Int)) × List (List (List Int)) × Int × Int × Int × Int) =>
    Option.bind
      (loopM
        (fun (s : Int × Int × Int × List Int) =>
          bif ltM (0 : Int) s.2.1 then
            Option.bind
              (Option.bind
                (loopM
                  (fun (s_1 : Int) =>
                    bif ltM s_1 (lenM x.1.2) then
                      Option.bind (idxM x.1.2 s_1) fun (r : Int × Int × Int) =>
                        Option.bind
                          (bif eqM r.1 s.1 then idxM x.2.1 (IntKind.wrap IntKind.i64 (s.2.1 - (1 : Int))) else some [])
                          fun (r_1 : List (List Int)) =>
                          Option.bind (bif eqM r.1 s.1 then idxM r_1 r.2.1 else some []) fun (r_2 : List Int) =>
                            Option.bind (bif eqM r.1 s.1 then idxM r_2 x.2.2.2.1 else some (0 : Int)) fun (r_3 : Int) =>
                              Option.bind (bif eqM r.1 s.1 then m43 (r.2.2, r_3) else some (0 : Int)) fun (r_4 : Int) =>
                                bif PE.andM (eqM r.1 s.1) (leM r_4 s.2.2.1) then some (Sum.inr (Sum.inr s_1))
                                else some (Sum.inl (IntKind.wrap IntKind.i64 (s_1 + (1 : Int))))
                    else some (Sum.inr (Sum.inl ())))
                  (0 : Int))
                fun (o : Unit ⊕ Int) => Sum.elim (fun (t : Unit) => some (-1 : Int)) (fun (t : Int) => some t) o)
              fun (ov : Int) =>
              Option.bind (idxM x.1.2 ov) fun (r : Int × Int × Int) =>
                Option.bind (idxM x.1.2 ov) fun (r_1 : Int × Int × Int) =>
                  Option.bind (appM (nat_lit 8) s.2.2.2 [ov]) fun (r_2 : List Int) =>
                    some
                      (Sum.inl
                        (r.2.1, IntKind.wrap IntKind.i64 (s.2.1 - (1 : Int)),
                          IntKind.wrap IntKind.i64 (s.2.2.1 - r_1.2.2), r_2))
          else some (Sum.inr (s.1, s.2.1, s.2.2.1, s.2.2.2)))
        (x.2.2.1, x.2.2.2.2.1, x.2.2.2.2.2, []))
      fun (o : Int × Int × Int × List Int) => some o.2.2.2
theorem c44 : SpecOK Try.prog 44 ⟨as44, rs44, m44⟩ :=
  fnM_ok (own := []) (an := an44) (n := 400) tabs61OK (F := OPS) OPS_sound OPS_nice (f := 44) (fn := Try.f44) (code := Try.f44.body.getD .skip) (by kernel_rfl) (by kernel_rfl) (by kernel_rfl) fun x => by kernel_rfl
noncomputable def tabs44 : Tabs := Tabs.add tabs61 44 ⟨as44, rs44, m44⟩
theorem tabs44OK : TabOK Try.prog tabs44 := TabOK.add tabs61OK c44 Try.call44

/-! putlog/between.Implied -/
def as33 : List Ty := [(.pair tI (.list (.pair tI (.pair tI tI)))), (.pair tI (.pair tI tI))]
def rs33 : List Ty := [(.list tI), .bool]
noncomputable def an33 : Ann := .seq (.a) (.seq (.a) (.seq (.a) (.seq (.seq (.reg [0, 1, 3, 7, 7, 23, 63, 127, 7, 263, 1023, 2047, 7, 4103, 16383, 32767] [0, 1, 2, 3, 4, 5, 6, 7, 8, 9, 10, 11, 12, 13, 14, 15] [.s [] [], .s [] [], .s [] [], .s [] [], .s [] [], .s [1] [], .s [] [], .s [] [], .s [] [], .s [1] [], .s [] [], .s [] [], .s [] [], .s [1] [], .s [] [], .s [] []] (.a)) (.a)) (.seq (.a) (.seq (.seq (.reg [] [] [.s [0] [], .r] (.call [] [] (.a) (.a))) (.block (.call [] [] (.seq (.a) (.block (.loop ⟨[(3, .r (.c (.d (.d (.list (.list tI))))))], [4, 6, 7, 11, 12, 13, 14, 15, 16, 17, 18, 19, 20, 21, 22, 23, 24, 25, 26, 27, 28, 29, 30, 31, 32, 33, 34, 35, 36, 37, 38, 39, 40, 41, 42, 43, 44, 45, 46, 47, 48, 49, 50, 51, 52, 53, 54, 55, 56, 57, 58], [(2, .box [.h 5]), (4, .lp .ready)], [.arr (.list (.list tI))]⟩ [(.exit 0, ⟨[], [3, 4, 6, 7, 11, 12, 13, 14, 15, 16, 17, 18, 19, 20, 21, 22, 23, 24, 25, 26, 27, 28, 29, 30, 31, 32, 33, 34, 35, 36, 37, 38, 39, 40, 41, 42, 43, 44, 45, 46, 47, 48, 49, 50, 51, 52, 53, 54, 55, 56, 57, 58], [(2, .box [.h 5]), (4, .lp (.done (.exit 0)))], [.arr (.list (.list tI))]⟩)] (.seq (.seq (.reg [] [] [.s [] [], .s [] [], .r] (.call [] [] (.seq (.a) (.block (.seq (.a) (.seq (.reg [0, 0, 2, 7, 15, 0, 32, 127, 255, 0, 512, 2047] [0, 1, 2, 3, 4, 5, 6, 7, 8, 9, 10, 11] [.s [] [], .s [] [], .s [1] [], .s [] [], .s [] [], .s [] [], .s [1] [], .s [] [], .s [] [], .s [] [], .s [1] [], .s [] []] (.a)) (.a))))) (.a))) (.a)) (.block (.seq (.reg [] [] [.s [] [], .s [3] [], .r, .s [] []] (.call [9] [] (.seq (.a) (.seq (.a) (.seq (.seq (.a) (.block (.loop ⟨[(11, .r (.c (.d (.d tI))))], [6, 7, 12, 13, 14, 15, 16, 17, 18, 19, 20, 21, 22, 23, 24, 25, 26, 27, 28, 29, 30, 31, 32], [(7, .tab tI 9), (8, .gone)], [.us]⟩ [(.exit 0, ⟨[], [6, 7, 11, 12, 13, 14, 15, 16, 17, 18, 19, 20, 21, 22, 23, 24, 25, 26, 27, 28, 29, 30, 31, 32], [(7, .tab tI 9), (8, .gone)], [.us]⟩)] (.seq (.a) (.seq (.a) (.seq (.block (.seq (.a) (.seq (.a) (.block (.loop ⟨[(15, .r (.c (.d (.d tI))))], [7, 16, 17, 18, 19, 20, 21, 22, 23, 24, 25, 26, 27, 28, 29, 30, 31], [(7, .tab tI 10), (9, .gone)], [.us]⟩ [(.exit 2, ⟨[], [7, 15, 16, 17, 18, 19, 20, 21, 22, 23, 24, 25, 26, 27, 28, 29, 30, 31], [(7, .tab tI 10), (9, .gone)], [.us]⟩)] (.seq (.a) (.seq (.a) (.seq (.block (.seq (.a) (.reg [0, 0, 0, 0, 12, 28, 0, 0, 0, 448, 960, 2044, 4095, 8191] [0, 1, 2, 3, 4, 5, 6, 7, 8, 9, 10, 11, 12, 13] [.s [] [], .s [] [], .s [] [], .s [] [], .s [7] [], .s [7] [], .s [] [], .s [] [], .s [] [], .s [] [], .s [] [], .s [7] [7], .s [7] [], .s [7, 7] [7]] (.a)))) (.a))))))))) (.a))))))) (.a)))) (.a))) (.seq (.seq (.a) (.block (.loop ⟨[(20, .r (.c (.d (.d tI))))], [6, 7, 21, 22, 23, 24, 25, 26, 27, 28, 29, 30, 31, 32, 33, 34, 35, 36, 37, 38, 39, 40, 41, 42, 43, 44, 45, 46, 47, 48, 49, 50, 51, 52, 53, 54, 55, 56, 57], [(7, .tab tI 9)], []⟩ [(.exit 2, ⟨[], [6, 7, 20, 21, 22, 23, 24, 25, 26, 27, 28, 29, 30, 31, 32, 33, 34, 35, 36, 37, 38, 39, 40, 41, 42, 43, 44, 45, 46, 47, 48, 49, 50, 51, 52, 53, 54, 55, 56, 57], [(7, .tab tI 9)], []⟩)] (.seq (.a) (.seq (.a) (.seq (.block (.seq (.a) (.seq (.a) (.block (.loop ⟨[(26, .r (.c (.d (.d tI))))], [7, 27, 28, 29, 30, 31, 32, 33, 34, 35, 36, 37, 38, 39, 40, 41, 42, 43, 44, 45, 46, 47, 48, 49, 50, 51, 52, 53, 54, 55, 56], [(7, .tab tI 9)], []⟩ [(.exit 4, ⟨[], [7, 26, 27, 28, 29, 30, 31, 32, 33, 34, 35, 36, 37, 38, 39, 40, 41, 42, 43, 44, 45, 46, 47, 48, 49, 50, 51, 52, 53, 54, 55, 56], [(7, .tab tI 9)], []⟩)] (.seq (.a) (.seq (.a) (.seq (.block (.seq (.a) (.reg [0, 0, 3, 7, 0, 16, 0, 0, 192, 448, 0, 1024, 4032, 8128, 0, 0, 49152, 114688, 0, 262144, 1032192, 2080768, 0, 4194304, 16760832, 33554368, 67108863, 134217727] [0, 1, 2, 3, 4, 5, 6, 7, 8, 9, 10, 11, 12, 13, 14, 15, 16, 17, 18, 19, 20, 21, 22, 23, 24, 25, 26, 27] [.s [] [], .s [] [], .s [7] [], .s [7] [], .s [] [], .s [10] [], .s [] [], .s [] [], .s [7] [], .s [7] [], .s [] [], .s [10] [], .s [7] [], .s [7] [], .s [] [], .s [] [], .s [] [], .s [] [], .s [] [], .s [10] [], .s [] [], .s [] [], .s [] [], .s [10] [], .s [] [], .s [] [], .s [7] [], .s [7] [7]] (.a)))) (.a))))))))) (.a))))))) (.a)))))))) (.a)))) (.a))))))
noncomputable def m33 : ((Int × List (Int × Int × Int)) × Int × Int × Int) → Option (List Int × Bool) :=
  fun (x : (Int × List (Int × Int × Int)) × Int × Int × Int) =>
    Option.bind (m22 (x.1.1, x.1.2)) fun (r : Bool) =>
      Option.bind (bif PE.notM (PE.notM r) then m50 (x.1.1, x.2.1, x.2.2.1, x.2.2.2) else some false) fun (r_1 : Bool) =>
        bif PE.orM (PE.notM r) (PE.notM r_1) then some ([], false)
        else
          Option.bind (m39 (x.1.1, x.1.2)) fun (r_2 : List (List Int) × Bool) =>
            Option.bind (bif PE.notM (PE.notM r_2.2) then idxM r_2.1 x.2.1 else some []) fun (r_3 : List Int) =>
              Option.bind (bif PE.notM (PE.notM r_2.2) then idxM r_3 x.2.2.1 else some (0 : Int)) fun (r_4 : Int) =>
                bif PE.orM (PE.notM r_2.2) (ltM x.2.2.2 r_4) then some ([], false)
                else
                  Option.bind (m58 x.1.1) fun (r_5 : List (List Int)) =>
                    Option.bind
                      (loopM
                        (fun (s : List (List Int) × List (List (List Int))) =>
                          Option.bind (appM (nat_lit 24) s.2 [s.1]) fun (r_6 : List (List (List Int))) =>
                            Option.bind (idxM s.1 x.2.1) fun (r_7 : List Int) =>
                              Option.bind (idxM r_7 x.2.2.1) fun (r_8 : Int) =>
                                bif leM r_8 x.2.2.2 then some (Sum.inr r_6)
                                else
                                  Option.bind (mkM x.1.1 x.1.1 (nat_lit 24) []) fun (r_9 : List (List Int)) =>
                                    Option.bind
                                      (loopM
                                        (fun (s_1 : Int × List (List Int)) =>
                                          bif ltM s_1.1 x.1.1 then
                                            Option.bind
                                              (loopM
                                                (fun (s_2 : Int × List (List Int)) =>
                                                  bif ltM s_2.1 x.1.1 then
                                                    Option.bind (chkM s_1.1 (lenM s_2.2)) fun (r_10 : Unit) =>
                                                      Option.bind (chkM s_1.1 (lenM s_2.2)) fun (r_11 : Unit) =>
                                                        Option.bind (m61 (s_1.1, s_2.1)) fun (r_12 : Int) =>
                                                          Option.bind (app2M (nat_lit 8) s_2.2 s_1.1 [r_12])
                                                            fun (r_13 : List (List Int)) =>
                                                            Option.bind (chkM s_1.1 (lenM r_13)) fun (r_14 : Unit) =>
                                                              Option.bind
                                                                (Option.bind (sameM s_1.1 s_1.1) fun (x : Unit) =>
                                                                  Option.bind (sameM s_1.1 s_1.1) fun (x : Unit) =>
                                                                    chkM s_1.1 (lenM r_13))
                                                                fun (r : Unit) =>
                                                                some
                                                                  (Sum.inl
                                                                    (IntKind.wrap IntKind.i64 (s_2.1 + (1 : Int)), r_13))
                                                  else some (Sum.inr s_2.2))
                                                ((0 : Int), s_1.2))
                                              fun (o : List (List Int)) =>
                                              some (Sum.inl (IntKind.wrap IntKind.i64 (s_1.1 + (1 : Int)), o))
                                          else some (Sum.inr s_1.2))
                                        ((0 : Int), r_9))
                                      fun (o : List (List Int)) =>
                                      Option.bind
                                        (loopM
                                          (fun (s_1 : Int × List (List Int)) =>
                                            bif ltM s_1.1 (lenM x.1.2) then
                                              Option.bind (idxM x.1.2 s_1.1) fun (r_10 : Int × Int × Int) =>
                                                Option.bind
                                                  (loopM
                                                    (fun (s_2 : Int × List (List Int)) =>
                                                      bif ltM s_2.1 x.1.1 then
                                                        Option.bind (chkM s_2.1 (lenM s_2.2)) fun (r_11 : Unit) =>
                                                          Option.bind (chkM s_2.1 (lenM s_2.2)) fun (r_12 : Unit) =>
                                                            Option.bind (chkM s_2.1 (lenM s_2.2)) fun (r_13 : Unit) =>
                                                              Option.bind (chkM s_2.1 (lenM s_2.2)) fun (r_14 : Unit) =>
                                                                Option.bind
                                                                  (Option.bind (idxM s_2.2 s_2.1) fun (xs : List Int) =>
                                                                    chkM r_10.2.1 (lenM xs))
                                                                  fun (r_15 : Unit) =>
                                                                  Option.bind
                                                                    (Option.bind (idxM s_2.2 s_2.1) fun (xs : List Int) =>
                                                                      Option.bind (idxM xs r_10.2.1) fun (x : Int) =>
                                                                        some x)
                                                                    fun (r_16 : Int) =>
                                                                    Option.bind (idxM s.1 s_2.1) fun (r_17 : List Int) =>
                                                                      Option.bind (idxM r_17 r_10.1) fun (r_18 : Int) =>
                                                                        Option.bind (m43 (r_18, r_10.2.2))
                                                                          fun (r_19 : Int) =>
                                                                          Option.bind
                                                                            (Option.bind (idxM s_2.2 s_2.1)
                                                                              fun (xs : List Int) =>
                                                                              chkM r_10.2.1 (lenM xs))
                                                                            fun (r_20 : Unit) =>
                                                                            Option.bind
                                                                              (set2M s_2.2 s_2.1 r_10.2.1 fun (x : Int) =>
                                                                                some (min r_16 r_19))
                                                                              fun (r : List (List Int)) =>
                                                                              some
                                                                                (Sum.inl
                                                                                  (IntKind.wrap IntKind.i64
                                                                                      (s_2.1 + (1 : Int)),
                                                                                    r))
                                                      else some (Sum.inr s_2.2))
                                                    ((0 : Int), s_1.2))
                                                  fun (o : List (List Int)) =>
                                                  some (Sum.inl (IntKind.wrap IntKind.i64 (s_1.1 + (1 : Int)), o))
                                            else some (Sum.inr s_1.2))
                                          ((0 : Int), o))
                                        fun (o : List (List Int)) => some (Sum.inl (o, r_6)))
                        (r_5, []))
                      fun (o : List (List (List Int))) =>
                      Option.bind
                        (m44 ((x.1.1, x.1.2), o, x.2.1, x.2.2.1, IntKind.wrap IntKind.i64 (lenM o - (1 : Int)), x.2.2.2))
                        fun (r : List Int) => some (r, true)
theorem c33 : SpecOK Try.prog 33 ⟨as33, rs33, m33⟩ :=
  fnM_ok (own := []) (an := an33) (n := 400) tabs44OK (F := OPS) OPS_sound OPS_nice (f := 33) (fn := Try.f33) (code := Try.f33.body.getD .skip) (by kernel_rfl) (by kernel_rfl) (by kernel_rfl) fun x => by kernel_rfl
noncomputable def tabs33 : Tabs := Tabs.add tabs44 33 ⟨as33, rs33, m33⟩
theorem tabs33OK : TabOK Try.prog tabs33 := TabOK.add tabs44OK c33 Try.call33

/-! putlog/between.Cycle -/
def as20 : List Ty := [(.pair tI (.list (.pair tI (.pair tI tI))))]
def rs20 : List Ty := [(.list tI), .bool]
noncomputable def an20 : Ann := .seq (.a) (.seq (.a) (.seq (.a) (.seq (.a) (.seq (.seq (.reg [] [] [.s [0] [], .r] (.call [] [] (.a) (.a))) (.block (.call [] [] (.seq (.a) (.block (.loop ⟨[(3, .r (.c (.d (.d (.list (.list tI))))))], [4, 6, 7, 11, 12, 13, 14, 15, 16, 17, 18, 19, 20, 21, 22, 23, 24, 25, 26, 27, 28, 29, 30, 31, 32, 33, 34, 35, 36, 37, 38, 39, 40, 41, 42, 43, 44, 45, 46, 47, 48, 49, 50, 51, 52, 53, 54, 55, 56, 57, 58], [(3, .box [.h 6]), (5, .lp .ready)], [.arr (.list (.list tI))]⟩ [(.exit 0, ⟨[], [3, 4, 6, 7, 11, 12, 13, 14, 15, 16, 17, 18, 19, 20, 21, 22, 23, 24, 25, 26, 27, 28, 29, 30, 31, 32, 33, 34, 35, 36, 37, 38, 39, 40, 41, 42, 43, 44, 45, 46, 47, 48, 49, 50, 51, 52, 53, 54, 55, 56, 57, 58], [(1, .box [.d (.d (.list tI))]), (2, .box [.d (.d .bool)]), (3, .box [.d (.d (.list (.list (.list tI))))]), (5, .lp (.done .ret))], []⟩)] (.seq (.seq (.reg [] [] [.s [] [], .s [] [], .r] (.call [] [] (.seq (.a) (.block (.seq (.a) (.seq (.a) (.seq (.a) (.block (.loop ⟨[(33, .r (.c (.d (.d tI))))], [9, 10, 34, 35, 36, 37, 38, 39, 40, 41, 42, 43, 44, 45, 46, 47, 48, 49, 50, 51, 52, 53, 54, 55, 56, 57, 58, 74], [], []⟩ [(.exit 2, ⟨[], [9, 10, 33, 34, 35, 36, 37, 38, 39, 40, 41, 42, 43, 44, 45, 46, 47, 48, 49, 50, 51, 52, 53, 54, 55, 56, 57, 58, 74], [], []⟩), (.ret, ⟨[], [9, 10, 33, 34, 35, 36, 37, 38, 39, 40, 41, 42, 43, 44, 45, 46, 47, 48, 49, 50, 51, 52, 53, 54, 55, 56, 57, 58, 59, 60, 61, 62, 63, 64, 65, 66, 67, 68, 69, 70, 71, 72, 73, 74], [(1, .box [.d (.d (.list tI))]), (2, .box [.d (.d .bool)]), (7, .frz (.list (.list tI)))], []⟩)] (.seq (.a) (.seq (.a) (.seq (.block (.seq (.a) (.seq (.reg [0, 1, 3, 7, 15, 7, 7, 71, 231, 487, 7, 1031, 4071, 8167, 7, 16391, 65511, 131047, 262143, 524287, 1048575] [0, 1, 2, 3, 4, 5, 6, 7, 8, 9, 10, 11, 12, 13, 14, 15, 16, 17, 18, 19, 20] [.s [] [], .s [] [], .s [] [], .s [] [], .s [8] [], .s [3] [], .s [] [], .s [] [], .s [7] [], .s [7] [], .s [] [], .s [8] [], .s [] [], .s [] [], .s [] [], .s [8] [], .s [] [], .s [] [], .s [] [], .s [] [], .s [] []] (.a)) (.a)))) (.a))))))))))) (.a))) (.a)) (.block (.seq (.reg [] [] [.s [] [], .s [4] [], .r, .s [] []] (.call [9] [] (.seq (.a) (.seq (.a) (.seq (.seq (.a) (.block (.loop ⟨[(11, .r (.c (.d (.d tI))))], [6, 7, 12, 13, 14, 15, 16, 17, 18, 19, 20, 21, 22, 23, 24, 25, 26, 27, 28, 29, 30, 31, 32], [(8, .tab tI 10), (9, .gone)], [.us]⟩ [(.exit 0, ⟨[], [6, 7, 11, 12, 13, 14, 15, 16, 17, 18, 19, 20, 21, 22, 23, 24, 25, 26, 27, 28, 29, 30, 31, 32], [(8, .tab tI 10), (9, .gone)], [.us]⟩)] (.seq (.a) (.seq (.a) (.seq (.block (.seq (.a) (.seq (.a) (.block (.loop ⟨[(15, .r (.c (.d (.d tI))))], [7, 16, 17, 18, 19, 20, 21, 22, 23, 24, 25, 26, 27, 28, 29, 30, 31], [(8, .tab tI 11), (10, .gone)], [.us]⟩ [(.exit 2, ⟨[], [7, 15, 16, 17, 18, 19, 20, 21, 22, 23, 24, 25, 26, 27, 28, 29, 30, 31], [(8, .tab tI 11), (10, .gone)], [.us]⟩)] (.seq (.a) (.seq (.a) (.seq (.block (.seq (.a) (.reg [0, 0, 0, 0, 12, 28, 0, 0, 0, 448, 960, 2044, 4095, 8191] [0, 1, 2, 3, 4, 5, 6, 7, 8, 9, 10, 11, 12, 13] [.s [] [], .s [] [], .s [] [], .s [] [], .s [8] [], .s [8] [], .s [] [], .s [] [], .s [] [], .s [] [], .s [] [], .s [8] [8], .s [8] [], .s [8, 8] [8]] (.a)))) (.a))))))))) (.a))))))) (.a)))) (.a))) (.seq (.seq (.a) (.block (.loop ⟨[(20, .r (.c (.d (.d tI))))], [6, 7, 21, 22, 23, 24, 25, 26, 27, 28, 29, 30, 31, 32, 33, 34, 35, 36, 37, 38, 39, 40, 41, 42, 43, 44, 45, 46, 47, 48, 49, 50, 51, 52, 53, 54, 55, 56, 57], [(8, .tab tI 10)], []⟩ [(.exit 2, ⟨[], [6, 7, 20, 21, 22, 23, 24, 25, 26, 27, 28, 29, 30, 31, 32, 33, 34, 35, 36, 37, 38, 39, 40, 41, 42, 43, 44, 45, 46, 47, 48, 49, 50, 51, 52, 53, 54, 55, 56, 57], [(8, .tab tI 10)], []⟩)] (.seq (.a) (.seq (.a) (.seq (.block (.seq (.a) (.seq (.a) (.block (.loop ⟨[(26, .r (.c (.d (.d tI))))], [7, 27, 28, 29, 30, 31, 32, 33, 34, 35, 36, 37, 38, 39, 40, 41, 42, 43, 44, 45, 46, 47, 48, 49, 50, 51, 52, 53, 54, 55, 56], [(8, .tab tI 10)], []⟩ [(.exit 4, ⟨[], [7, 26, 27, 28, 29, 30, 31, 32, 33, 34, 35, 36, 37, 38, 39, 40, 41, 42, 43, 44, 45, 46, 47, 48, 49, 50, 51, 52, 53, 54, 55, 56], [(8, .tab tI 10)], []⟩)] (.seq (.a) (.seq (.a) (.seq (.block (.seq (.a) (.reg [0, 0, 3, 7, 0, 16, 0, 0, 192, 448, 0, 1024, 4032, 8128, 0, 0, 49152, 114688, 0, 262144, 1032192, 2080768, 0, 4194304, 16760832, 33554368, 67108863, 134217727] [0, 1, 2, 3, 4, 5, 6, 7, 8, 9, 10, 11, 12, 13, 14, 15, 16, 17, 18, 19, 20, 21, 22, 23, 24, 25, 26, 27] [.s [] [], .s [] [], .s [8] [], .s [8] [], .s [] [], .s [11] [], .s [] [], .s [] [], .s [8] [], .s [8] [], .s [] [], .s [11] [], .s [8] [], .s [8] [], .s [] [], .s [] [], .s [] [], .s [] [], .s [] [], .s [11] [], .s [] [], .s [] [], .s [] [], .s [11] [], .s [] [], .s [] [], .s [8] [], .s [8] [8]] (.a)))) (.a))))))))) (.a))))))) (.a)))))))) (.a)))) (.a)))))
noncomputable def m20 : (Int × List (Int × Int × Int)) → Option (List Int × Bool) :=
  fun (x : Int × List (Int × Int × Int)) =>
    Option.bind (m22 (x.1, x.2)) fun (r : Bool) =>
      bif PE.notM r then some ([], false)
      else
        Option.bind (m39 (x.1, x.2)) fun (r_1 : List (List Int) × Bool) =>
          bif r_1.2 then some ([], false)
          else
            Option.bind (m58 x.1) fun (r_2 : List (List Int)) =>
              Option.bind
                (loopM
                  (fun (s : List (List Int) × List (List (List Int))) =>
                    Option.bind (appM (nat_lit 24) s.2 [s.1]) fun (r_3 : List (List (List Int))) =>
                      Option.bind
                        (loopM
                          (fun (s_1 : Int) =>
                            bif ltM s_1 (lenM x.2) then
                              Option.bind (idxM x.2 s_1) fun (r_4 : Int × Int × Int) =>
                                Option.bind
                                  (bif ltM (0 : Int) (IntKind.wrap IntKind.i64 (lenM r_3 - (1 : Int))) then
                                    chkM
                                      (IntKind.wrap IntKind.i64
                                        (IntKind.wrap IntKind.i64 (lenM r_3 - (1 : Int)) - (1 : Int)))
                                      (lenM r_3)
                                  else some ())
                                  fun (r_5 : Unit) =>
                                  Option.bind
                                    (bif ltM (0 : Int) (IntKind.wrap IntKind.i64 (lenM r_3 - (1 : Int))) then
                                      idxM r_3
                                        (IntKind.wrap IntKind.i64
                                          (IntKind.wrap IntKind.i64 (lenM r_3 - (1 : Int)) - (1 : Int)))
                                    else some [])
                                    fun (r_6 : List (List Int)) =>
                                    Option.bind
                                      (bif ltM (0 : Int) (IntKind.wrap IntKind.i64 (lenM r_3 - (1 : Int))) then
                                        idxM r_6 r_4.2.1
                                      else some [])
                                      fun (r_7 : List Int) =>
                                      Option.bind
                                        (bif ltM (0 : Int) (IntKind.wrap IntKind.i64 (lenM r_3 - (1 : Int))) then
                                          idxM r_7 r_4.1
                                        else some (0 : Int))
                                        fun (r_8 : Int) =>
                                        Option.bind
                                          (bif ltM (0 : Int) (IntKind.wrap IntKind.i64 (lenM r_3 - (1 : Int))) then
                                            m43 (r_4.2.2, r_8)
                                          else some (0 : Int))
                                          fun (r_9 : Int) =>
                                          bif
                                              PE.andM (ltM (0 : Int) (IntKind.wrap IntKind.i64 (lenM r_3 - (1 : Int))))
                                                (ltM r_9 (0 : Int)) then
                                            Option.bind
                                              (m44
                                                ((x.1, x.2), r_3, r_4.2.1, r_4.1,
                                                  IntKind.wrap IntKind.i64
                                                    (IntKind.wrap IntKind.i64 (lenM r_3 - (1 : Int)) - (1 : Int)),
                                                  IntKind.wrap IntKind.i64 ((-1 : Int) - r_4.2.2)))
                                              fun (r_10 : List Int) =>
                                              Option.bind (appM (nat_lit 8) [s_1] r_10) fun (r : List Int) =>
                                                some (Sum.inr (Sum.inr (r, true, r_3)))
                                          else some (Sum.inl (IntKind.wrap IntKind.i64 (s_1 + (1 : Int))))
                            else some (Sum.inr (Sum.inl ())))
                          (0 : Int))
                        fun (o : Unit ⊕ List Int × Bool × List (List (List Int))) =>
                        Sum.elim
                          (fun (t : Unit) =>
                            Option.bind (mkM x.1 x.1 (nat_lit 24) []) fun (r_4 : List (List Int)) =>
                              Option.bind
                                (loopM
                                  (fun (s_1 : Int × List (List Int)) =>
                                    bif ltM s_1.1 x.1 then
                                      Option.bind
                                        (loopM
                                          (fun (s_2 : Int × List (List Int)) =>
                                            bif ltM s_2.1 x.1 then
                                              Option.bind (chkM s_1.1 (lenM s_2.2)) fun (r_5 : Unit) =>
                                                Option.bind (chkM s_1.1 (lenM s_2.2)) fun (r_6 : Unit) =>
                                                  Option.bind (m61 (s_1.1, s_2.1)) fun (r_7 : Int) =>
                                                    Option.bind (app2M (nat_lit 8) s_2.2 s_1.1 [r_7])
                                                      fun (r_8 : List (List Int)) =>
                                                      Option.bind (chkM s_1.1 (lenM r_8)) fun (r_9 : Unit) =>
                                                        Option.bind
                                                          (Option.bind (sameM s_1.1 s_1.1) fun (x : Unit) =>
                                                            Option.bind (sameM s_1.1 s_1.1) fun (x : Unit) =>
                                                              chkM s_1.1 (lenM r_8))
                                                          fun (r : Unit) =>
                                                          some
                                                            (Sum.inl (IntKind.wrap IntKind.i64 (s_2.1 + (1 : Int)), r_8))
                                            else some (Sum.inr s_2.2))
                                          ((0 : Int), s_1.2))
                                        fun (o : List (List Int)) =>
                                        some (Sum.inl (IntKind.wrap IntKind.i64 (s_1.1 + (1 : Int)), o))
                                    else some (Sum.inr s_1.2))
                                  ((0 : Int), r_4))
                                fun (o : List (List Int)) =>
                                Option.bind
                                  (loopM
                                    (fun (s_1 : Int × List (List Int)) =>
                                      bif ltM s_1.1 (lenM x.2) then
                                        Option.bind (idxM x.2 s_1.1) fun (r_5 : Int × Int × Int) =>
                                          Option.bind
                                            (loopM
                                              (fun (s_2 : Int × List (List Int)) =>
                                                bif ltM s_2.1 x.1 then
                                                  Option.bind (chkM s_2.1 (lenM s_2.2)) fun (r_6 : Unit) =>
                                                    Option.bind (chkM s_2.1 (lenM s_2.2)) fun (r_7 : Unit) =>
                                                      Option.bind (chkM s_2.1 (lenM s_2.2)) fun (r_8 : Unit) =>
                                                        Option.bind (chkM s_2.1 (lenM s_2.2)) fun (r_9 : Unit) =>
                                                          Option.bind
                                                            (Option.bind (idxM s_2.2 s_2.1) fun (xs : List Int) =>
                                                              chkM r_5.2.1 (lenM xs))
                                                            fun (r_10 : Unit) =>
                                                            Option.bind
                                                              (Option.bind (idxM s_2.2 s_2.1) fun (xs : List Int) =>
                                                                Option.bind (idxM xs r_5.2.1) fun (x : Int) => some x)
                                                              fun (r_11 : Int) =>
                                                              Option.bind (idxM s.1 s_2.1) fun (r_12 : List Int) =>
                                                                Option.bind (idxM r_12 r_5.1) fun (r_13 : Int) =>
                                                                  Option.bind (m43 (r_13, r_5.2.2)) fun (r_14 : Int) =>
                                                                    Option.bind
                                                                      (Option.bind (idxM s_2.2 s_2.1)
                                                                        fun (xs : List Int) => chkM r_5.2.1 (lenM xs))
                                                                      fun (r_15 : Unit) =>
                                                                      Option.bind
                                                                        (set2M s_2.2 s_2.1 r_5.2.1 fun (x : Int) =>
                                                                          some (min r_11 r_14))
                                                                        fun (r : List (List Int)) =>
                                                                        some
                                                                          (Sum.inl
                                                                            (IntKind.wrap IntKind.i64 (s_2.1 + (1 : Int)),
                                                                              r))
                                                else some (Sum.inr s_2.2))
                                              ((0 : Int), s_1.2))
                                            fun (o : List (List Int)) =>
                                            some (Sum.inl (IntKind.wrap IntKind.i64 (s_1.1 + (1 : Int)), o))
                                      else some (Sum.inr s_1.2))
                                    ((0 : Int), o))
                                  fun (o : List (List Int)) => some (Sum.inl (o, r_3)))
                          (fun (t : List Int × Bool × List (List (List Int))) => some (Sum.inr (t.1, t.2.1, t.2.2))) o)
                  (r_2, []))
                fun (o : List Int × Bool × List (List (List Int))) => some (o.1, o.2.1)
theorem c20 : SpecOK Try.prog 20 ⟨as20, rs20, m20⟩ :=
  fnM_ok (own := []) (an := an20) (n := 400) tabs33OK (F := OPS) OPS_sound OPS_nice (f := 20) (fn := Try.f20) (code := Try.f20.body.getD .skip) (by kernel_rfl) (by kernel_rfl) (by kernel_rfl) fun x => by kernel_rfl
noncomputable def tabs20 : Tabs := Tabs.add tabs33 20 ⟨as20, rs20, m20⟩
theorem tabs20OK : TabOK Try.prog tabs20 := TabOK.add tabs33OK c20 Try.call20
end Go.Proofs.Ytadcohacnmicjaa
/-
  Models of the functions of this seat, and that the functions compute them (printed by gen_models.py). No conditions.
-/
namespace Go.Proofs.Ytadcohacnmicjaa
open Go Go.Abs Go.PE Go.Proofs
set_option linter.unusedVariables false
set_option maxRecDepth 100000

/-! putlog/putlogref09.Ints -/
def as25 : List Ty := [(.list tI), (.list tI)]
def rs25 : List Ty := [.bool]
noncomputable def an25 : Ann := .seq (.a) (.seq (.a) (.seq (.seq (.a) (.block (.loop ⟨[(5, .r (.c (.d (.d tI))))], [11, 12, 13, 14, 15, 16, 17, 18, 19, 20, 21, 22, 23, 24, 25], [], []⟩ [(.exit 0, ⟨[], [5, 11, 12, 13, 14, 15, 16, 17, 18, 19, 20, 21, 22, 23, 24, 25], [], []⟩), (.ret, ⟨[(4, .r (.c (.d (.d .bool))))], [5, 11, 12, 13, 14, 15, 16, 17, 18, 19, 20, 21, 22, 23, 24, 25], [], []⟩)] (.seq (.a) (.seq (.block (.seq (.reg [0, 0, 3, 7, 0, 0, 48, 112, 255] [0, 1, 2, 3, 4, 5, 6, 7, 8] [.s [] [], .s [] [], .s [] [], .s [] [], .s [] [], .s [] [], .s [] [], .s [] [], .s [] []] (.a)) (.a))) (.a)))))) (.a)))
noncomputable def m25 : (List Int × List Int) → Option (Bool) :=
  fun (x : List Int × List Int) =>
    bif PE.notM (eqM (lenM x.1) (lenM x.2)) then some false
    else
      Option.bind
        (loopM
          (fun (s : Int) =>
            bif ltM s (lenM x.1) then
              Option.bind (idxM x.1 s) fun (r : Int) =>
                Option.bind (idxM x.2 s) fun (r_1 : Int) =>
                  bif PE.notM (eqM r r_1) then some (Sum.inr (Sum.inr false))
                  else some (Sum.inl (IntKind.wrap IntKind.i64 (s + (1 : Int))))
            else some (Sum.inr (Sum.inl ())))
          (0 : Int))
        fun (o : Unit ⊕ Bool) => Sum.elim (fun (t : Unit) => some true) (fun (t : Bool) => some t) o
theorem c25 : SpecOK Try.prog 25 ⟨as25, rs25, m25⟩ :=
  fnM_ok (own := []) (an := an25) (n := 400) tabs20OK (F := OPS) OPS_sound OPS_nice (f := 25) (fn := Try.f25) (code := Try.f25.body.getD .skip) (by kernel_rfl) (by kernel_rfl) (by kernel_rfl) fun x => by kernel_rfl
noncomputable def tabs25 : Tabs := Tabs.add tabs20 25 ⟨as25, rs25, m25⟩
theorem tabs25OK : TabOK Try.prog tabs25 := TabOK.add tabs20OK c25 Try.call25

/-! putlog/putlogref09.Tables -/
def as24 : List Ty := [(.list (.list tI)), (.list (.list tI))]
def rs24 : List Ty := [.bool]
noncomputable def an24 : Ann := .seq (.a) (.seq (.a) (.seq (.seq (.a) (.block (.loop ⟨[(5, .r (.c (.d (.d tI))))], [11, 12, 13, 14, 15, 16, 17, 18, 19, 20, 21, 22, 23, 24, 25, 26], [], []⟩ [(.exit 0, ⟨[], [5, 11, 12, 13, 14, 15, 16, 17, 18, 19, 20, 21, 22, 23, 24, 25, 26], [], []⟩), (.ret, ⟨[(4, .r (.c (.d (.d .bool))))], [5, 11, 12, 13, 14, 15, 16, 17, 18, 19, 20, 21, 22, 23, 24, 25, 26], [], []⟩)] (.seq (.a) (.seq (.block (.seq (.reg [0, 0, 3, 7, 0, 0, 48, 112, 255, 511] [0, 1, 2, 3, 4, 5, 6, 7, 8, 9] [.s [] [], .s [] [], .s [] [], .s [] [], .s [] [], .s [] [], .s [] [], .s [] [], .s [] [], .s [] []] (.a)) (.a))) (.a)))))) (.a)))
noncomputable def m24 : (List (List Int) × List (List Int)) → Option (Bool) :=
  fun (x : List (List Int) × List (List Int)) =>
    bif PE.notM (eqM (lenM x.1) (lenM x.2)) then some false
    else
      Option.bind
        (loopM
          (fun (s : Int) =>
            bif ltM s (lenM x.1) then
              Option.bind (idxM x.1 s) fun (r : List Int) =>
                Option.bind (idxM x.2 s) fun (r_1 : List Int) =>
                  Option.bind (m25 (r, r_1)) fun (r : Bool) =>
                    bif PE.notM r then some (Sum.inr (Sum.inr false))
                    else some (Sum.inl (IntKind.wrap IntKind.i64 (s + (1 : Int))))
            else some (Sum.inr (Sum.inl ())))
          (0 : Int))
        fun (o : Unit ⊕ Bool) => Sum.elim (fun (t : Unit) => some true) (fun (t : Bool) => some t) o
theorem c24 : SpecOK Try.prog 24 ⟨as24, rs24, m24⟩ :=
  fnM_ok (own := []) (an := an24) (n := 400) tabs25OK (F := OPS) OPS_sound OPS_nice (f := 24) (fn := Try.f24) (code := Try.f24.body.getD .skip) (by kernel_rfl) (by kernel_rfl) (by kernel_rfl) fun x => by kernel_rfl
noncomputable def tabs24 : Tabs := Tabs.add tabs25 24 ⟨as24, rs24, m24⟩
theorem tabs24OK : TabOK Try.prog tabs24 := TabOK.add tabs25OK c24 Try.call24

/-! putlog/between.follow -/
def as56 : List Ty := [(.pair tI (.list (.pair tI (.pair tI tI)))), tI, (.list tI)]
def rs56 : List Ty := [tI, tI, .bool]
noncomputable def an56 : Ann := .seq (.a) (.seq (.a) (.seq (.seq (.a) (.block (.loop ⟨[(1, .r (.c (.d (.d tI)))), (9, .r (.c (.d (.d tI)))), (14, .r (.c (.d (.d tI))))], [11, 15, 16, 17, 18, 19, 20, 21, 22, 23, 24, 25, 26, 27, 28, 29, 30, 31, 32, 33, 34, 35, 36, 37, 38, 39, 40, 41, 42, 43, 44, 45, 46, 47, 48, 49], [], []⟩ [(.exit 0, ⟨[(1, .r (.c (.d (.d tI)))), (9, .r (.c (.d (.d tI))))], [11, 14, 15, 16, 17, 18, 19, 20, 21, 22, 23, 24, 25, 26, 27, 28, 29, 30, 31, 32, 33, 34, 35, 36, 37, 38, 39, 40, 41, 42, 43, 44, 45, 46, 47, 48, 49], [], []⟩), (.ret, ⟨[(6, .r (.c (.d (.d tI)))), (7, .r (.c (.d (.d tI)))), (8, .r (.c (.d (.d .bool))))], [1, 9, 11, 14, 15, 16, 17, 18, 19, 20, 21, 22, 23, 24, 25, 26, 27, 28, 29, 30, 31, 32, 33, 34, 35, 36, 37, 38, 39, 40, 41, 42, 43, 44, 45, 46, 47, 48, 49], [], []⟩)] (.seq (.a) (.seq (.a) (.seq (.block (.seq (.a) (.seq (.a) (.reg [0, 1, 0, 7, 15, 31, 0, 0, 128, 0, 896, 1920, 3968, 8128, 63, 32767] [0, 1, 2, 3, 4, 5, 6, 7, 8, 9, 10, 11, 12, 13, 14, 15] [.s [] [], .s [0] [], .s [] [], .s [] [], .s [] [], .s [] [], .s [] [], .s [] [], .s [0] [], .s [] [], .s [] [], .s [] [], .s [] [], .s [] [], .s [] [], .s [] []] (.a))))) (.a))))))) (.a)))
noncomputable def m56 : ((Int × List (Int × Int × Int)) × Int × List Int) → Option (Int × Int × Bool) :=
  fun (x : (Int × List (Int × Int × Int)) × Int × List Int) =>
    Option.bind
      (loopM
        (fun (s : Int × Int × Int) =>
          bif ltM s.2.2 (lenM x.2.2) then
            Option.bind (idxM x.2.2 s.2.2) fun (r : Int) =>
              Option.bind (m47 (r, (0 : Int), IntKind.wrap IntKind.i64 (lenM x.1.2 - (1 : Int)))) fun (r_1 : Bool) =>
                Option.bind (bif PE.notM (PE.notM r_1) then idxM x.1.2 r else some ((0 : Int), (0 : Int), (0 : Int)))
                  fun (r_2 : Int × Int × Int) =>
                  bif PE.orM (PE.notM r_1) (PE.notM (eqM r_2.1 s.1)) then
                    some (Sum.inr (Sum.inr ((0 : Int), (0 : Int), false)))
                  else
                    Option.bind (idxM x.1.2 r) fun (r_3 : Int × Int × Int) =>
                      Option.bind (idxM x.1.2 r) fun (r : Int × Int × Int) =>
                        some
                          (Sum.inl
                            (r_3.2.1, IntKind.wrap IntKind.i64 (s.2.1 + r.2.2),
                              IntKind.wrap IntKind.i64 (s.2.2 + (1 : Int))))
          else some (Sum.inr (Sum.inl (s.1, s.2.1))))
        (x.2.1, (0 : Int), (0 : Int)))
      fun (o : Int × Int ⊕ Int × Int × Bool) =>
      Sum.elim (fun (t : Int × Int) => some (t.1, t.2, leM (lenM x.2.2) (60 : Int)))
        (fun (t : Int × Int × Bool) => some (t.1, t.2.1, t.2.2)) o
theorem c56 : SpecOK Try.prog 56 ⟨as56, rs56, m56⟩ :=
  fnM_ok (own := []) (an := an56) (n := 400) tabs24OK (F := OPS) OPS_sound OPS_nice (f := 56) (fn := Try.f56) (code := Try.f56.body.getD .skip) (by kernel_rfl) (by kernel_rfl) (by kernel_rfl) fun x => by kernel_rfl
noncomputable def tabs56 : Tabs := Tabs.add tabs24 56 ⟨as56, rs56, m56⟩
theorem tabs56OK : TabOK Try.prog tabs56 := TabOK.add tabs24OK c56 Try.call56

/-! putlog/between.CheckCycle -/
def as29 : List Ty := [(.pair tI (.list (.pair tI (.pair tI tI)))), (.list tI)]
def rs29 : List Ty := [.bool]
noncomputable def an29 : Ann := .seq (.a) (.seq (.seq (.reg [0, 1, 3, 7, 15, 31, 63, 127, 255, 511, 1023, 2047, 511, 4607, 12799, 29183, 65535, 131071, 262143] [0, 1, 2, 3, 4, 5, 6, 7, 8, 9, 10, 11, 12, 13, 14, 15, 16, 17, 18] [.s [0] [], .s [] [], .s [] [], .s [] [], .s [] [], .s [] [], .s [] [], .s [] [], .s [] [], .s [] [], .s [] [], .s [] [], .s [] [], .s [0] [], .s [] [], .s [] [], .s [] [], .s [] [], .s [] []] (.a)) (.a)) (.seq (.reg [0, 1, 0, 4, 12, 31, 63, 127, 255] [0, 1, 2, 3, 4, 5, 6, 7, 8] [.s [] [], .s [0] [], .s [] [], .s [] [], .s [] [], .s [] [], .s [] [], .s [] [], .s [] []] (.a)) (.a)))
noncomputable def m29 : ((Int × List (Int × Int × Int)) × List Int) → Option (Bool) :=
  fun (x : (Int × List (Int × Int × Int)) × List Int) =>
    Option.bind (m22 (x.1.1, x.1.2)) fun (r : Bool) =>
      Option.bind
        (bif PE.notM (PE.orM (PE.notM r) (eqM (lenM x.2) (0 : Int))) then idxM x.2 (0 : Int) else some (0 : Int))
        fun (r_1 : Int) =>
        Option.bind
          (bif PE.notM (PE.orM (PE.notM r) (eqM (lenM x.2) (0 : Int))) then
            m47 (r_1, (0 : Int), IntKind.wrap IntKind.i64 (lenM x.1.2 - (1 : Int)))
          else some false)
          fun (r_2 : Bool) =>
          bif PE.orM (PE.orM (PE.notM r) (eqM (lenM x.2) (0 : Int))) (PE.notM r_2) then some false
          else
            Option.bind (idxM x.2 (0 : Int)) fun (r_3 : Int) =>
              Option.bind (idxM x.1.2 r_3) fun (r_4 : Int × Int × Int) =>
                Option.bind (m56 ((x.1.1, x.1.2), r_4.1, x.2)) fun (r : Int × Int × Bool) =>
                  some (PE.andM (PE.andM r.2.2 (eqM r.1 r_4.1)) (ltM r.2.1 (0 : Int)))
theorem c29 : SpecOK Try.prog 29 ⟨as29, rs29, m29⟩ :=
  fnM_ok (own := []) (an := an29) (n := 400) tabs56OK (F := OPS) OPS_sound OPS_nice (f := 29) (fn := Try.f29) (code := Try.f29.body.getD .skip) (by kernel_rfl) (by kernel_rfl) (by kernel_rfl) fun x => by kernel_rfl
noncomputable def tabs29 : Tabs := Tabs.add tabs56 29 ⟨as29, rs29, m29⟩
theorem tabs29OK : TabOK Try.prog tabs29 := TabOK.add tabs56OK c29 Try.call29

/-! putlog/between.CheckChain -/
def as31 : List Ty := [(.pair tI (.list (.pair tI (.pair tI tI)))), (.pair tI (.pair tI tI)), (.list tI)]
def rs31 : List Ty := [.bool]
noncomputable def an31 : Ann := .a
noncomputable def m31 : ((Int × List (Int × Int × Int)) × (Int × Int × Int) × List Int) → Option (Bool) :=
  fun (x : (Int × List (Int × Int × Int)) × (Int × Int × Int) × List Int) =>
    Option.bind (m22 (x.1.1, x.1.2)) fun (r : Bool) =>
      Option.bind (bif PE.notM (PE.notM r) then m50 (x.1.1, x.2.1.1, x.2.1.2.1, x.2.1.2.2) else some false)
        fun (r_1 : Bool) =>
        bif PE.orM (PE.notM r) (PE.notM r_1) then some false
        else
          Option.bind (m56 ((x.1.1, x.1.2), x.2.1.1, x.2.2)) fun (r : Int × Int × Bool) =>
            some (PE.andM (PE.andM r.2.2 (eqM r.1 x.2.1.2.1)) (leM r.2.1 x.2.1.2.2))
theorem c31 : SpecOK Try.prog 31 ⟨as31, rs31, m31⟩ :=
  fnM_ok (own := []) (an := an31) (n := 400) tabs29OK (F := OPS) OPS_sound OPS_nice (f := 31) (fn := Try.f31) (code := Try.f31.body.getD .skip) (by kernel_rfl) (by kernel_rfl) (by kernel_rfl) fun x => by kernel_rfl
noncomputable def tabs31 : Tabs := Tabs.add tabs29 31 ⟨as31, rs31, m31⟩
theorem tabs31OK : TabOK Try.prog tabs31 := TabOK.add tabs29OK c31 Try.call31

/-! putlog/between.Allowed$1 -/
def as53 : List Ty := [tI]
def rs53 : List Ty := [.bool]
noncomputable def an53 : Ann := .a
noncomputable def m53 : Int → Option (Bool) :=
  fun (x : Int) => Option.bind (m47 (x, (-1000000000000 : Int), (1000000000000 : Int))) fun (r : Bool) => some (PE.notM r)
theorem c53 : SpecOK Try.prog 53 ⟨as53, rs53, m53⟩ :=
  fnM_ok (own := []) (an := an53) (n := 400) tabs31OK (F := OPS) OPS_sound OPS_nice (f := 53) (fn := Try.f53) (code := Try.f53.body.getD .skip) (by kernel_rfl) (by kernel_rfl) (by kernel_rfl) fun x => by kernel_rfl
noncomputable def tabs53 : Tabs := Tabs.add tabs31 53 ⟨as53, rs53, m53⟩
theorem tabs53OK : TabOK Try.prog tabs53 := TabOK.add tabs31OK c53 Try.call53

/-! putlog/between.Allowed -/
def as27 : List Ty := [(.pair tI (.list (.pair tI (.pair tI tI)))), (.list tI)]
def rs27 : List Ty := [.bool]
noncomputable def an27 : Ann := .seq (.a) (.seq (.a) (.seq (.seq (.reg [] [] [.s [0] [], .s [] [], .s [] [], .s [] [], .s [1] [], .s [] [], .s [] [], .s [0] [], .s [] [], .s [] [], .s [] [], .s [1] [], .s [] [], .r, .s [] []] (.call [] [(.norm, ⟨[(19, .r (.c (.d (.d .bool))))], [], [], []⟩)] (.seq (.a) (.seq (.reg [] [] [.s [] [], .s [] [], .r, .s [] [], .s [] []] (.call [] [(.norm, ⟨[(7, .r (.c (.d (.d tI))))], [], [], []⟩)] (.seq (.a) (.seq (.seq (.a) (.block (.loop ⟨[(8, .r (.c (.d (.d tI))))], [5, 9, 10, 11, 12, 13, 14, 15, 16, 18], [], []⟩ [(.exit 0, ⟨[], [5, 8, 9, 10, 11, 12, 13, 14, 15, 16, 18], [], []⟩), (.ret, ⟨[(4, .r (.c (.d (.d tI))))], [5, 8, 9, 10, 11, 12, 13, 14, 15, 16, 17, 18], [], []⟩)] (.a)))) (.a))) (.a))) (.a))) (.a))) (.a)) (.seq (.reg [] [] [.s [] [], .s [0] [], .s [] [], .r, .s [] [], .s [] []] (.call [] [] (.seq (.a) (.seq (.reg [] [] [.s [] [], .s [] [], .r, .s [] [], .s [] []] (.call [] [(.norm, ⟨[(7, .r (.c (.d (.d tI))))], [], [], []⟩)] (.seq (.a) (.seq (.seq (.a) (.block (.loop ⟨[(8, .r (.c (.d (.d tI))))], [5, 9, 10, 11, 12, 13, 14, 15, 16, 18], [], []⟩ [(.exit 0, ⟨[], [5, 8, 9, 10, 11, 12, 13, 14, 15, 16, 18], [], []⟩), (.ret, ⟨[(4, .r (.c (.d (.d tI))))], [5, 8, 9, 10, 11, 12, 13, 14, 15, 16, 17, 18], [], []⟩)] (.seq (.a) (.seq (.a) (.seq (.block (.seq (.a) (.seq (.reg [] [] [.s [] [], .s [] [], .s [] [], .s [] [], .s [] [], .r] (.call [] [] (.seq (.a) (.seq (.reg [0, 0, 2, 7, 15, 0, 0, 64, 224, 480, 1023, 0, 2048, 8191, 16383] [0, 1, 2, 3, 4, 5, 6, 7, 8, 9, 10, 11, 12, 13, 14] [.s [1] [], .s [] [], .s [2] [], .s [] [], .s [] [], .s [1] [], .s [] [], .s [2] [], .s [] [], .s [] [], .s [] [], .s [] [], .s [2] [], .s [] [], .s [] []] (.a)) (.a))) (.a))) (.a)))) (.a))))))) (.a))) (.a))) (.a))) (.a))) (.a))))
noncomputable def m27 : ((Int × List (Int × Int × Int)) × List Int) → Option (Bool) :=
  fun (x : (Int × List (Int × Int × Int)) × List Int) =>
    Option.bind (m22 (x.1.1, x.1.2)) fun (r : Bool) =>
      Option.bind
        (bif PE.notM (PE.orM (PE.notM r) (PE.notM (eqM (lenM x.2) x.1.1))) then
          Option.bind
            (Option.bind
              (loopM
                (fun (s : Int) =>
                  bif ltM s (lenM x.2) then
                    Option.bind (idxM x.2 s) fun (r_1 : Int) =>
                      Option.bind (m53 r_1) fun (r : Bool) =>
                        bif r then some (Sum.inr (Sum.inr s))
                        else some (Sum.inl (IntKind.wrap IntKind.i64 (s + (1 : Int))))
                  else some (Sum.inr (Sum.inl ())))
                (0 : Int))
              fun (o : Unit ⊕ Int) => Sum.elim (fun (t : Unit) => some (-1 : Int)) (fun (t : Int) => some t) o)
            fun (ov : Int) => some (leM (0 : Int) ov)
        else some false)
        fun (ov : Bool) =>
        bif PE.orM (PE.orM (PE.notM r) (PE.notM (eqM (lenM x.2) x.1.1))) ov then some false
        else
          Option.bind
            (Option.bind
              (loopM
                (fun (s : Int) =>
                  bif ltM s (lenM x.1.2) then
                    Option.bind (idxM x.1.2 s) fun (r_1 : Int × Int × Int) =>
                      Option.bind (idxM x.2 r_1.2.1) fun (r_2 : Int) =>
                        Option.bind (idxM x.2 r_1.1) fun (r : Int) =>
                          bif ltM r_1.2.2 (IntKind.wrap IntKind.i64 (r_2 - r)) then some (Sum.inr (Sum.inr s))
                          else some (Sum.inl (IntKind.wrap IntKind.i64 (s + (1 : Int))))
                  else some (Sum.inr (Sum.inl ())))
                (0 : Int))
              fun (o : Unit ⊕ Int) => Sum.elim (fun (t : Unit) => some (-1 : Int)) (fun (t : Int) => some t) o)
            fun (ov : Int) => some (PE.notM (leM (0 : Int) ov))
theorem c27 : SpecOK Try.prog 27 ⟨as27, rs27, m27⟩ :=
  fnM_ok (own := []) (an := an27) (n := 400) tabs53OK (F := OPS) OPS_sound OPS_nice (f := 27) (fn := Try.f27) (code := Try.f27.body.getD .skip) (by kernel_rfl) (by kernel_rfl) (by kernel_rfl) fun x => by kernel_rfl
noncomputable def tabs27 : Tabs := Tabs.add tabs53 27 ⟨as27, rs27, m27⟩
theorem tabs27OK : TabOK Try.prog tabs27 := TabOK.add tabs53OK c27 Try.call27

/-! putlog/putloglaw09.sane -/
def as10 : List Ty := []
def rs10 : List Ty := [.bool]
noncomputable def an10 : Ann := .a
noncomputable def m10 : Unit → Option (Bool) :=
  fun (x : Unit) =>
    Option.bind (m37 (0 : Int)) fun (r : Int × List (Int × Int × Int)) =>
      Option.bind (m16 (r.1, r.2)) fun (r_1 : List (List Int) × Int) =>
        Option.bind (m18 (r.1, r.2)) fun (r_2 : List Int × Int) =>
          Option.bind (m33 ((r.1, r.2), (0 : Int), (2 : Int), (3 : Int))) fun (r_3 : List Int × Bool) =>
            Option.bind (m33 ((r.1, r.2), (0 : Int), (2 : Int), (2 : Int))) fun (r_4 : List Int × Bool) =>
              Option.bind (m37 (-4 : Int)) fun (r_5 : Int × List (Int × Int × Int)) =>
                Option.bind (m20 (r_5.1, r_5.2)) fun (r_6 : List Int × Bool) =>
                  Option.bind (m20 (r.1, r.2)) fun (r_7 : List Int × Bool) =>
                    Option.bind (m37 (-4 : Int)) fun (r_8 : Int × List (Int × Int × Int)) =>
                      Option.bind (m18 (r_8.1, r_8.2)) fun (r_9 : List Int × Int) =>
                        Option.bind (sliceM r.2 (0 : Int) (2 : Int)) fun (r_10 : List (Int × Int × Int)) =>
                          Option.bind (m16 (r.1, r_10)) fun (r_11 : List (List Int) × Int) =>
                            bif
                                PE.orM
                                  (PE.orM (PE.orM (PE.notM (eqM r_1.2 (0 : Int))) (PE.notM (eqM r_2.2 (0 : Int))))
                                    (PE.notM (eqM r_9.2 (90 : Int))))
                                  (PE.notM (eqM r_11.2 (0 : Int))) then
                              some false
                            else
                              Option.bind
                                (m24
                                  (r_1.1,
                                    [[(0 : Int), (5 : Int), (3 : Int)], [(-2 : Int), (0 : Int), (-2 : Int)],
                                      [(0 : Int), (5 : Int), (0 : Int)]]))
                                fun (r_12 : Bool) =>
                                Option.bind
                                  (bif r_12 then
                                    m24
                                      (r_11.1,
                                        [[(0 : Int), (5 : Int), (3 : Int)],
                                          [(1152921504606846976 : Int), (0 : Int), (-2 : Int)],
                                          [(1152921504606846976 : Int), (1152921504606846976 : Int), (0 : Int)]])
                                  else some false)
                                  fun (r_13 : Bool) =>
                                  Option.bind
                                    (bif PE.andM r_12 r_13 then m25 (r_2.1, [(-2 : Int), (0 : Int), (-2 : Int)])
                                    else some false)
                                    fun (r_14 : Bool) =>
                                    Option.bind (bif r_3.2 then m25 (r_3.1, [(0 : Int), (1 : Int)]) else some false)
                                      fun (r_15 : Bool) =>
                                      Option.bind
                                        (bif PE.andM (PE.andM (PE.andM r_3.2 r_15) (PE.notM r_4.2)) r_6.2 then
                                          m25 (r_6.1, [(0 : Int), (1 : Int), (2 : Int)])
                                        else some false)
                                        fun (r_16 : Bool) =>
                                        Option.bind (m37 (-4 : Int)) fun (r_17 : Int × List (Int × Int × Int)) =>
                                          Option.bind (m29 ((r_17.1, r_17.2), [(1 : Int), (2 : Int), (0 : Int)]))
                                            fun (r_18 : Bool) =>
                                            Option.bind
                                              (bif r_18 then m29 ((r.1, r.2), [(0 : Int), (1 : Int), (2 : Int)])
                                              else some false)
                                              fun (r_19 : Bool) =>
                                              Option.bind
                                                (bif PE.andM r_18 (PE.notM r_19) then
                                                  m31
                                                    ((r.1, r.2), ((0 : Int), (2 : Int), (3 : Int)),
                                                      [(0 : Int), (1 : Int)])
                                                else some false)
                                                fun (r_20 : Bool) =>
                                                Option.bind
                                                  (bif PE.andM (PE.andM r_18 (PE.notM r_19)) r_20 then
                                                    m31
                                                      ((r.1, r.2), ((0 : Int), (2 : Int), (2 : Int)),
                                                        [(0 : Int), (1 : Int)])
                                                  else some false)
                                                  fun (r_21 : Bool) =>
                                                  Option.bind
                                                    (bif
                                                        PE.andM
                                                          (PE.andM (PE.andM (PE.andM r_12 r_13) r_14)
                                                            (PE.andM
                                                              (PE.andM
                                                                (PE.andM (PE.andM (PE.andM r_3.2 r_15) (PE.notM r_4.2))
                                                                  r_6.2)
                                                                r_16)
                                                              (PE.notM r_7.2)))
                                                          (PE.andM (PE.andM (PE.andM r_18 (PE.notM r_19)) r_20)
                                                            (PE.notM r_21)) then
                                                      m22 (r.1, r.2)
                                                    else some false)
                                                    fun (r_22 : Bool) =>
                                                    Option.bind
                                                      (bif
                                                          PE.andM
                                                            (PE.andM
                                                              (PE.andM (PE.andM (PE.andM r_12 r_13) r_14)
                                                                (PE.andM
                                                                  (PE.andM
                                                                    (PE.andM
                                                                      (PE.andM (PE.andM r_3.2 r_15) (PE.notM r_4.2))
                                                                      r_6.2)
                                                                    r_16)
                                                                  (PE.notM r_7.2)))
                                                              (PE.andM (PE.andM (PE.andM r_18 (PE.notM r_19)) r_20)
                                                                (PE.notM r_21)))
                                                            r_22 then
                                                        m22 ((17 : Int), [])
                                                      else some false)
                                                      fun (r_23 : Bool) =>
                                                      Option.bind
                                                        (bif
                                                            PE.andM
                                                              (PE.andM
                                                                (PE.andM
                                                                  (PE.andM (PE.andM (PE.andM r_12 r_13) r_14)
                                                                    (PE.andM
                                                                      (PE.andM
                                                                        (PE.andM
                                                                          (PE.andM (PE.andM r_3.2 r_15) (PE.notM r_4.2))
                                                                          r_6.2)
                                                                        r_16)
                                                                      (PE.notM r_7.2)))
                                                                  (PE.andM (PE.andM (PE.andM r_18 (PE.notM r_19)) r_20)
                                                                    (PE.notM r_21)))
                                                                r_22)
                                                              (PE.notM r_23) then
                                                          m27 ((r.1, r.2), [(-2 : Int), (0 : Int), (-2 : Int)])
                                                        else some false)
                                                        fun (r_24 : Bool) =>
                                                        Option.bind
                                                          (bif
                                                              PE.andM
                                                                (PE.andM
                                                                  (PE.andM
                                                                    (PE.andM
                                                                      (PE.andM (PE.andM (PE.andM r_12 r_13) r_14)
                                                                        (PE.andM
                                                                          (PE.andM
                                                                            (PE.andM
                                                                              (PE.andM (PE.andM r_3.2 r_15)
                                                                                (PE.notM r_4.2))
                                                                              r_6.2)
                                                                            r_16)
                                                                          (PE.notM r_7.2)))
                                                                      (PE.andM
                                                                        (PE.andM (PE.andM r_18 (PE.notM r_19)) r_20)
                                                                        (PE.notM r_21)))
                                                                    r_22)
                                                                  (PE.notM r_23))
                                                                r_24 then
                                                            m27 ((r.1, r.2), [(-2 : Int), (0 : Int), (-1 : Int)])
                                                          else some false)
                                                          fun (r : Bool) =>
                                                          some
                                                            (PE.andM
                                                              (PE.andM
                                                                (PE.andM
                                                                  (PE.andM
                                                                    (PE.andM
                                                                      (PE.andM (PE.andM (PE.andM r_12 r_13) r_14)
                                                                        (PE.andM
                                                                          (PE.andM
                                                                            (PE.andM
                                                                              (PE.andM (PE.andM r_3.2 r_15)
                                                                                (PE.notM r_4.2))
                                                                              r_6.2)
                                                                            r_16)
                                                                          (PE.notM r_7.2)))
                                                                      (PE.andM
                                                                        (PE.andM (PE.andM r_18 (PE.notM r_19)) r_20)
                                                                        (PE.notM r_21)))
                                                                    r_22)
                                                                  (PE.notM r_23))
                                                                r_24)
                                                              (PE.notM r))
theorem c10 : SpecOK Try.prog 10 ⟨as10, rs10, m10⟩ :=
  fnM_ok (own := []) (an := an10) (n := 400) tabs27OK (F := OPS) OPS_sound OPS_nice (f := 10) (fn := Try.f10) (code := Try.f10.body.getD .skip) (by kernel_rfl) (by kernel_rfl) (by kernel_rfl) fun x => by kernel_rfl
noncomputable def tabs10 : Tabs := Tabs.add tabs27 10 ⟨as10, rs10, m10⟩
theorem tabs10OK : TabOK Try.prog tabs10 := TabOK.add tabs27OK c10 Try.call10

/-! putlog/putloglaw09.short -/
def as11 : List Ty := [(.list tI)]
def rs11 : List Ty := [(.list tI)]
noncomputable def an11 : Ann := .a
noncomputable def m11 : List Int → Option (List Int) :=
  fun (x : List Int) => Option.bind (sliceM x (0 : Int) (min (lenM x) (20 : Int))) fun (r : List Int) => some r
theorem c11 : SpecOK Try.prog 11 ⟨as11, rs11, m11⟩ :=
  fnM_ok (own := []) (an := an11) (n := 400) tabs10OK (F := OPS) OPS_sound OPS_nice (f := 11) (fn := Try.f11) (code := Try.f11.body.getD .skip) (by kernel_rfl) (by kernel_rfl) (by kernel_rfl) fun x => by kernel_rfl
noncomputable def tabs11 : Tabs := Tabs.add tabs10 11 ⟨as11, rs11, m11⟩
theorem tabs11OK : TabOK Try.prog tabs11 := TabOK.add tabs10OK c11 Try.call11

/-! putlog/putlogref09.pick -/
def as38 : List Ty := [tI, tI]
def rs38 : List Ty := [tI]
noncomputable def an38 : Ann := .seq (.a) (.seq (.join [(.norm, ⟨[(0, .r (.c (.d (.d tI))))], [5, 6, 7, 8, 9], [], []⟩)] (.a)) (.a))
noncomputable def m38 : (Int × Int) → Option (Int) :=
  fun (x : Int × Int) =>
    Option.bind
      (bif ltM x.1 (0 : Int) then some (IntKind.wrap IntKind.i64 (negM (IntKind.wrap IntKind.i64 (x.1 + (1 : Int)))))
      else some x.1)
      fun (o : Int) => Option.bind (remM o x.2) fun (r : Int) => some r
theorem c38 : SpecOK Try.prog 38 ⟨as38, rs38, m38⟩ :=
  fnM_ok (own := []) (an := an38) (n := 400) tabs11OK (F := OPS) OPS_sound OPS_nice (f := 38) (fn := Try.f38) (code := Try.f38.body.getD .skip) (by kernel_rfl) (by kernel_rfl) (by kernel_rfl) fun x => by kernel_rfl
noncomputable def tabs38 : Tabs := Tabs.add tabs11 38 ⟨as38, rs38, m38⟩
theorem tabs38OK : TabOK Try.prog tabs38 := TabOK.add tabs11OK c38 Try.call38

/-! putlog/putlogref09.Hidden -/
def as26 : List Ty := [(.pair tI (.pair (.list tI) (.pair (.list (.pair tI (.pair tI tI))) tI)))]
def rs26 : List Ty := [(.list tI)]
noncomputable def an26 : Ann := .seq (.a) (.seq (.a) (.seq (.seq (.a) (.block (.loop ⟨[(3, .r (.c (.h 1))), (4, .r (.c (.d (.d tI))))], [5, 6, 7, 8, 9, 10, 11, 12, 13, 14, 15, 16, 17, 18, 19, 20, 21, 22, 23, 24, 25, 26, 27, 28, 29], [], [.arr tI]⟩ [(.exit 0, ⟨[(3, .r (.c (.h 1)))], [4, 5, 6, 7, 8, 9, 10, 11, 12, 13, 14, 15, 16, 17, 18, 19, 20, 21, 22, 23, 24, 25, 26, 27, 28, 29], [], [.arr tI]⟩)] (.seq (.a) (.seq (.block (.seq (.a) (.seq (.join [(.norm, ⟨[(5, .r (.c (.d (.d tI))))], [14, 15, 16, 17, 18, 19, 20, 21, 22, 23, 24, 25], [], []⟩)] (.a)) (.a)))) (.a)))))) (.a)))
noncomputable def m26 : (Int × List Int × (List (Int × Int × Int)) × Int) → Option (List Int) :=
  fun (x : Int × List Int × List (Int × Int × Int) × Int) =>
    Option.bind
      (loopM
        (fun (s : Int × List Int) =>
          Option.bind (m38 (x.1, (8 : Int))) fun (r : Int) =>
            bif ltM s.1 (IntKind.wrap IntKind.i64 ((1 : Int) + r)) then
              Option.bind
                (bif ltM s.1 (lenM x.2.1) then
                  Option.bind (idxM x.2.1 s.1) fun (r_1 : Int) =>
                    Option.bind (m38 (r_1, (200 : Int))) fun (r : Int) =>
                      some (IntKind.wrap IntKind.i64 (r - (100 : Int)))
                else some (0 : Int))
                fun (o : Int) =>
                Option.bind (appM (nat_lit 8) s.2 [o]) fun (r : List Int) =>
                  some (Sum.inl (IntKind.wrap IntKind.i64 (s.1 + (1 : Int)), r))
            else some (Sum.inr s.2))
        ((0 : Int), []))
      fun (o : List Int) => some o
theorem c26 : SpecOK Try.prog 26 ⟨as26, rs26, m26⟩ :=
  fnM_ok (own := []) (an := an26) (n := 400) tabs38OK (F := OPS) OPS_sound OPS_nice (f := 26) (fn := Try.f26) (code := Try.f26.body.getD .skip) (by kernel_rfl) (by kernel_rfl) (by kernel_rfl) fun x => by kernel_rfl
noncomputable def tabs26 : Tabs := Tabs.add tabs38 26 ⟨as26, rs26, m26⟩
theorem tabs26OK : TabOK Try.prog tabs26 := TabOK.add tabs38OK c26 Try.call26

/-! putlog/putlogref09.Misses -/
def as35 : List Ty := [(.pair tI (.pair (.list tI) (.pair (.list (.pair tI (.pair tI tI))) tI)))]
def rs35 : List Ty := [.bool]
noncomputable def an35 : Ann := .a
noncomputable def m35 : (Int × List Int × (List (Int × Int × Int)) × Int) → Option (Bool) :=
  fun (x : Int × List Int × List (Int × Int × Int) × Int) =>
    Option.bind (m38 (x.2.2.2, (3 : Int))) fun (r : Int) => some (eqM r (2 : Int))
theorem c35 : SpecOK Try.prog 35 ⟨as35, rs35, m35⟩ :=
  fnM_ok (own := []) (an := an35) (n := 400) tabs26OK (F := OPS) OPS_sound OPS_nice (f := 35) (fn := Try.f35) (code := Try.f35.body.getD .skip) (by kernel_rfl) (by kernel_rfl) (by kernel_rfl) fun x => by kernel_rfl
noncomputable def tabs35 : Tabs := Tabs.add tabs26 35 ⟨as35, rs35, m35⟩
theorem tabs35OK : TabOK Try.prog tabs35 := TabOK.add tabs26OK c35 Try.call35

/-! putlog/putlogref09.Made -/
def as12 : List Ty := [(.pair tI (.pair (.list tI) (.pair (.list (.pair tI (.pair tI tI))) tI)))]
def rs12 : List Ty := [(.pair tI (.list (.pair tI (.pair tI tI))))]
noncomputable def an12 : Ann := .seq (.a) (.seq (.a) (.seq (.a) (.seq (.seq (.a) (.block (.loop ⟨[(5, .r (.c (.d (.d tI))))], [6, 13, 14, 15, 16, 17, 18, 19, 20, 21, 22, 23, 24, 25, 26, 27, 28, 29, 30, 31, 32, 33, 34, 35, 36, 37, 38, 39, 40, 41, 42, 43, 44, 45, 46, 47, 48, 49, 50, 51, 52, 53, 54, 55, 56, 57, 58, 59, 60, 61, 62, 63, 64, 65, 66, 67, 68], [(2, .box [.d (.d tI), .h 3])], [.arr (.pair tI (.pair tI tI))]⟩ [(.exit 0, ⟨[], [5, 6, 13, 14, 15, 16, 17, 18, 19, 20, 21, 22, 23, 24, 25, 26, 27, 28, 29, 30, 31, 32, 33, 34, 35, 36, 37, 38, 39, 40, 41, 42, 43, 44, 45, 46, 47, 48, 49, 50, 51, 52, 53, 54, 55, 56, 57, 58, 59, 60, 61, 62, 63, 64, 65, 66, 67, 68], [(2, .box [.d (.d tI), .h 3])], [.arr (.pair tI (.pair tI tI))]⟩)] (.seq (.a) (.seq (.block (.seq (.reg [0, 1, 0, 7, 15, 31, 0, 64, 255, 0, 512, 0, 3584, 7680, 15872, 0, 32768, 131071, 262143, 0, 1048575] [0, 1, 2, 3, 4, 5, 6, 7, 8, 9, 10, 11, 12, 13, 14, 15, 16, 17, 18, 19, 20] [.s [] [], .s [0] [], .s [] [], .s [] [], .s [] [], .s [] [], .s [] [], .s [2] [], .s [] [], .s [] [], .s [0] [], .s [] [], .s [] [], .s [] [], .s [] [], .s [] [], .s [2] [], .s [] [], .s [] [], .s [] [4], .s [4] [4]] (.a)) (.seq (.reg [0, 0, 2, 7, 15, 0, 0, 64, 224, 480, 1023, 0, 2048, 0, 14336, 30720, 63488, 129024, 262143, 524287, 1048575] [0, 1, 2, 3, 4, 5, 6, 7, 8, 9, 10, 11, 12, 13, 14, 15, 16, 17, 18, 19, 20] [.s [] [], .s [] [], .s [4] [], .s [] [], .s [] [], .s [] [], .s [] [], .s [4] [], .s [] [], .s [] [], .s [] [], .s [] [], .s [0] [], .s [] [], .s [] [], .s [] [], .s [] [], .s [] [], .s [] [], .s [] [], .s [4] [4]] (.a)) (.a)))) (.a)))))) (.seq (.join [(.norm, ⟨[], [7, 69, 70, 71, 72, 73, 74, 75, 76, 77, 78, 79, 80, 81, 82, 83, 84, 85, 86, 87, 88, 89, 90, 91, 92, 93, 94, 95, 96, 97, 98, 99, 100], [(3, .arr (.pair tI (.pair tI tI)))], []⟩)] (.seq (.a) (.cond (.seq (.a) (.reg [0, 1, 0, 0, 8, 0, 56, 120, 248, 504, 0, 1024, 3072, 7168, 16376, 32767, 65535, 131071] [0, 1, 2, 3, 4, 5, 6, 7, 8, 9, 10, 11, 12, 13, 14, 15, 16, 17] [.s [] [], .s [2] [], .s [] [], .s [] [], .s [2] [], .s [] [], .s [3] [], .s [] [], .s [3] [], .s [] [], .s [] [], .s [0] [], .s [] [], .s [] [], .s [] [], .s [3] [], .s [] [], .s [3] [3]] (.a))) (.a)))) (.a)))))
noncomputable def m12 : (Int × List Int × (List (Int × Int × Int)) × Int) → Option (Int × List (Int × Int × Int)) :=
  fun (x : Int × List Int × List (Int × Int × Int) × Int) =>
    Option.bind (m26 (x.1, x.2.1, x.2.2.1, x.2.2.2)) fun (r : List Int) =>
      Option.bind
        (loopM
          (fun (s : Int × Int × List (Int × Int × Int)) =>
            bif PE.andM (ltM s.1 (lenM x.2.2.1)) (ltM s.1 (16 : Int)) then
              Option.bind (idxM x.2.2.1 s.1) fun (r_1 : Int × Int × Int) =>
                Option.bind (m38 (r_1.1, s.2.1)) fun (r_2 : Int) =>
                  Option.bind (idxM x.2.2.1 s.1) fun (r_3 : Int × Int × Int) =>
                    Option.bind (m38 (r_3.2.1, s.2.1)) fun (r_4 : Int) =>
                      Option.bind (idxM r r_4) fun (r_5 : Int) =>
                        Option.bind (idxM r r_2) fun (r_6 : Int) =>
                          Option.bind (idxM x.2.2.1 s.1) fun (r_7 : Int × Int × Int) =>
                            Option.bind (m38 (r_7.2.2, (30 : Int))) fun (r_8 : Int) =>
                              Option.bind
                                (appM (nat_lit 24) s.2.2
                                  [(r_2, r_4, IntKind.wrap IntKind.i64 (IntKind.wrap IntKind.i64 (r_5 - r_6) + r_8))])
                                fun (r : List (Int × Int × Int)) =>
                                some (Sum.inl (IntKind.wrap IntKind.i64 (s.1 + (1 : Int)), s.2.1, r))
            else some (Sum.inr (s.2.1, s.2.2)))
          ((0 : Int), lenM r, []))
        fun (o : Int × List (Int × Int × Int)) =>
        Option.bind
          (Option.bind (m35 (x.1, x.2.1, x.2.2.1, x.2.2.2)) fun (r_1 : Bool) =>
            bif PE.andM r_1 (ltM (0 : Int) (lenM o.2)) then
              Option.bind (divM IntKind.i64 x.2.2.2 (3 : Int)) fun (r_2 : Int) =>
                Option.bind (m38 (r_2, lenM o.2)) fun (r_3 : Int) =>
                  Option.bind (chkM r_3 (lenM o.2)) fun (r_4 : Unit) =>
                    Option.bind (Option.bind (idxM o.2 r_3) fun (x : Int × Int × Int) => some x.2.2) fun (r_5 : Int) =>
                      Option.bind (divM IntKind.i64 x.2.2.2 (60 : Int)) fun (r_6 : Int) =>
                        Option.bind (m38 (r_6, (60 : Int))) fun (r_7 : Int) =>
                          Option.bind (chkM r_3 (lenM o.2)) fun (r_8 : Unit) =>
                            Option.bind
                              (setM o.2 r_3 fun (x : Int × Int × Int) =>
                                some
                                  (x.1, x.2.1,
                                    IntKind.wrap IntKind.i64 (IntKind.wrap IntKind.i64 (r_5 - (10 : Int)) - r_7)))
                              fun (r : List (Int × Int × Int)) => some r
            else some o.2)
          fun (o_1 : List (Int × Int × Int)) => some (o.1, o_1)
theorem c12 : SpecOK Try.prog 12 ⟨as12, rs12, m12⟩ :=
  fnM_ok (own := []) (an := an12) (n := 400) tabs35OK (F := OPS) OPS_sound OPS_nice (f := 12) (fn := Try.f12) (code := Try.f12.body.getD .skip) (by kernel_rfl) (by kernel_rfl) (by kernel_rfl) fun x => by kernel_rfl
noncomputable def tabs12 : Tabs := Tabs.add tabs35 12 ⟨as12, rs12, m12⟩
theorem tabs12OK : TabOK Try.prog tabs12 := TabOK.add tabs35OK c12 Try.call12

/-! putlog/putloglaw09.pick -/
def as13 : List Ty := [tI, tI]
def rs13 : List Ty := [tI]
noncomputable def an13 : Ann := .seq (.a) (.seq (.join [(.norm, ⟨[(0, .r (.c (.d (.d tI))))], [5, 6, 7, 8, 9], [], []⟩)] (.a)) (.a))
noncomputable def m13 : (Int × Int) → Option (Int) :=
  fun (x : Int × Int) =>
    Option.bind
      (bif ltM x.1 (0 : Int) then some (IntKind.wrap IntKind.i64 (negM (IntKind.wrap IntKind.i64 (x.1 + (1 : Int)))))
      else some x.1)
      fun (o : Int) => Option.bind (remM o x.2) fun (r : Int) => some r
theorem c13 : SpecOK Try.prog 13 ⟨as13, rs13, m13⟩ :=
  fnM_ok (own := []) (an := an13) (n := 400) tabs12OK (F := OPS) OPS_sound OPS_nice (f := 13) (fn := Try.f13) (code := Try.f13.body.getD .skip) (by kernel_rfl) (by kernel_rfl) (by kernel_rfl) fun x => by kernel_rfl
noncomputable def tabs13 : Tabs := Tabs.add tabs12 13 ⟨as13, rs13, m13⟩
theorem tabs13OK : TabOK Try.prog tabs13 := TabOK.add tabs12OK c13 Try.call13

/-! putlog/putlogref09.Bent -/
def as14 : List Ty := [(.pair tI (.list (.pair tI (.pair tI tI)))), tI, tI, tI]
def rs14 : List Ty := [(.pair tI (.list (.pair tI (.pair tI tI))))]
noncomputable def an14 : Ann := .seq (.a) (.seq (.reg [0, 1, 0, 0, 8, 28, 63, 0, 255] [0, 1, 2, 3, 4, 5, 6, 7, 8] [.s [] [], .s [0] [], .s [] [], .s [] [], .s [0] [], .s [] [2], .s [] [], .s [] [3], .s [3, 2] [3]] (.a)) (.seq (.a) (.seq (.a) (.seq (.join [(.norm, ⟨[], [35, 36, 37, 38, 39, 40, 41, 42, 43, 44, 45, 46, 47, 48, 49, 50, 51, 52, 53, 54, 55, 56, 57, 58, 59, 60, 61, 62], [(2, .arr (.pair tI (.pair tI tI))), (3, .box [.d (.d tI), .h 2])], []⟩)] (.a)) (.a)))))
noncomputable def m14 : ((Int × List (Int × Int × Int)) × Int × Int × Int) → Option (Int × List (Int × Int × Int)) :=
  fun (x : (Int × List (Int × Int × Int)) × Int × Int × Int) =>
    Option.bind (appM (nat_lit 24) [] x.1.2) fun (r : List (Int × Int × Int)) =>
      bif eqM (lenM r) (0 : Int) then
        Option.bind (appM (nat_lit 24) r [(x.2.2.1, (0 : Int), (0 : Int))]) fun (r : List (Int × Int × Int)) =>
          some (x.1.1, r)
      else
        Option.bind (m38 (x.2.2.2, lenM r)) fun (r_1 : Int) =>
          Option.bind
            (Option.bind (m38 (x.2.1, (4 : Int))) fun (r_2 : Int) =>
              bif eqM r_2 (0 : Int) then some (r, x.2.2.1)
              else
                bif eqM r_2 (1 : Int) then
                  Option.bind (chkM r_1 (lenM r)) fun (r_3 : Unit) =>
                    Option.bind (setM r r_1 fun (x_1 : Int × Int × Int) => some (x.2.2.1, x_1.2))
                      fun (r : List (Int × Int × Int)) => some (r, x.1.1)
                else
                  bif eqM r_2 (2 : Int) then
                    Option.bind (chkM r_1 (lenM r)) fun (r_3 : Unit) =>
                      Option.bind (setM r r_1 fun (x_1 : Int × Int × Int) => some (x_1.1, x.2.2.1, x_1.2.2))
                        fun (r : List (Int × Int × Int)) => some (r, x.1.1)
                  else
                    Option.bind (chkM r_1 (lenM r)) fun (r_3 : Unit) =>
                      Option.bind (setM r r_1 fun (x_1 : Int × Int × Int) => some (x_1.1, x_1.2.1, x.2.2.1))
                        fun (r : List (Int × Int × Int)) => some (r, x.1.1))
            fun (o : List (Int × Int × Int) × Int) => some (o.2, o.1)
theorem c14 : SpecOK Try.prog 14 ⟨as14, rs14, m14⟩ :=
  fnM_ok (own := []) (an := an14) (n := 400) tabs13OK (F := OPS) OPS_sound OPS_nice (f := 14) (fn := Try.f14) (code := Try.f14.body.getD .skip) (by kernel_rfl) (by kernel_rfl) (by kernel_rfl) fun x => by kernel_rfl
noncomputable def tabs14 : Tabs := Tabs.add tabs13 14 ⟨as14, rs14, m14⟩
theorem tabs14OK : TabOK Try.prog tabs14 := TabOK.add tabs13OK c14 Try.call14

/-! putlog/putloglaw09.few -/
def as15 : List Ty := [(.pair tI (.list (.pair tI (.pair tI tI))))]
def rs15 : List Ty := [(.pair tI (.list (.pair tI (.pair tI tI))))]
noncomputable def an15 : Ann := .seq (.a) (.seq (.reg [0, 1, 0, 4, 0, 16, 48, 112, 252, 511, 1023] [0, 1, 2, 3, 4, 5, 6, 7, 8, 9, 10] [.s [] [], .s [0] [], .s [] [], .s [0] [], .s [] [], .s [0] [], .s [] [], .s [] [], .s [] [], .s [] [], .s [1] [1]] (.a)) (.a))
noncomputable def m15 : (Int × List (Int × Int × Int)) → Option (Int × List (Int × Int × Int)) :=
  fun (x : Int × List (Int × Int × Int)) =>
    Option.bind (sliceM x.2 (0 : Int) (min (lenM x.2) (6 : Int))) fun (r : List (Int × Int × Int)) => some (x.1, r)
theorem c15 : SpecOK Try.prog 15 ⟨as15, rs15, m15⟩ :=
  fnM_ok (own := []) (an := an15) (n := 400) tabs14OK (F := OPS) OPS_sound OPS_nice (f := 15) (fn := Try.f15) (code := Try.f15.body.getD .skip) (by kernel_rfl) (by kernel_rfl) (by kernel_rfl) fun x => by kernel_rfl
noncomputable def tabs15 : Tabs := Tabs.add tabs14 15 ⟨as15, rs15, m15⟩
theorem tabs15OK : TabOK Try.prog tabs15 := TabOK.add tabs14OK c15 Try.call15

/-! putlog/putlogref09.in -/
def as51 : List Ty := [tI, tI, tI]
def rs51 : List Ty := [.bool]
noncomputable def an51 : Ann := .a
noncomputable def m51 : (Int × Int × Int) → Option (Bool) :=
  fun (x : Int × Int × Int) => some (PE.andM (leM x.2.1 x.1) (leM x.1 x.2.2))
theorem c51 : SpecOK Try.prog 51 ⟨as51, rs51, m51⟩ :=
  fnM_ok (own := []) (an := an51) (n := 400) tabs15OK (F := OPS) OPS_sound OPS_nice (f := 51) (fn := Try.f51) (code := Try.f51.body.getD .skip) (by kernel_rfl) (by kernel_rfl) (by kernel_rfl) fun x => by kernel_rfl
noncomputable def tabs51 : Tabs := Tabs.add tabs15 51 ⟨as51, rs51, m51⟩
theorem tabs51OK : TabOK Try.prog tabs51 := TabOK.add tabs15OK c51 Try.call51

/-! putlog/putlogref09.Bound -/
def as52 : List Ty := [tI, (.pair tI (.pair tI tI))]
def rs52 : List Ty := [.bool]
noncomputable def an52 : Ann := .a
noncomputable def m52 : (Int × Int × Int × Int) → Option (Bool) :=
  fun (x : Int × Int × Int × Int) =>
    Option.bind (m51 (x.2.1, (0 : Int), IntKind.wrap IntKind.i64 (x.1 - (1 : Int)))) fun (r : Bool) =>
      Option.bind (bif r then m51 (x.2.2.1, (0 : Int), IntKind.wrap IntKind.i64 (x.1 - (1 : Int))) else some false)
        fun (r_1 : Bool) =>
        Option.bind (bif PE.andM r r_1 then m51 (x.2.2.2, (-1000000000 : Int), (1000000000 : Int)) else some false)
          fun (r_2 : Bool) => some (PE.andM (PE.andM r r_1) r_2)
theorem c52 : SpecOK Try.prog 52 ⟨as52, rs52, m52⟩ :=
  fnM_ok (own := []) (an := an52) (n := 400) tabs51OK (F := OPS) OPS_sound OPS_nice (f := 52) (fn := Try.f52) (code := Try.f52.body.getD .skip) (by kernel_rfl) (by kernel_rfl) (by kernel_rfl) fun x => by kernel_rfl
noncomputable def tabs52 : Tabs := Tabs.add tabs51 52 ⟨as52, rs52, m52⟩
theorem tabs52OK : TabOK Try.prog tabs52 := TabOK.add tabs51OK c52 Try.call52

/-! putlog/putlogref09.Valid -/
def as23 : List Ty := [(.pair tI (.list (.pair tI (.pair tI tI))))]
def rs23 : List Ty := [.bool]
noncomputable def an23 : Ann := .seq (.a) (.seq (.a) (.seq (.seq (.a) (.block (.loop ⟨[(3, .r (.c (.d (.d tI))))], [14, 15, 16, 17, 18, 19, 20, 21, 22, 23, 24, 25, 26, 27, 28, 29], [], []⟩ [(.exit 0, ⟨[], [3, 14, 15, 16, 17, 18, 19, 20, 21, 22, 23, 24, 25, 26, 27, 28, 29], [], []⟩), (.ret, ⟨[(2, .r (.c (.d (.d .bool))))], [3, 14, 15, 16, 17, 18, 19, 20, 21, 22, 23, 24, 25, 26, 27, 28, 29], [], []⟩)] (.seq (.a) (.seq (.block (.seq (.reg [0, 1, 0, 4, 0, 28, 60, 127, 255] [0, 1, 2, 3, 4, 5, 6, 7, 8] [.s [] [], .s [0] [], .s [] [], .s [0] [], .s [] [], .s [] [], .s [] [], .s [] [], .s [] []] (.a)) (.a))) (.a)))))) (.a)))
noncomputable def m23 : (Int × List (Int × Int × Int)) → Option (Bool) :=
  fun (x : Int × List (Int × Int × Int)) =>
    Option.bind (m51 (x.1, (0 : Int), (16 : Int))) fun (r : Bool) =>
      bif PE.orM (PE.notM r) (ltM (60 : Int) (lenM x.2)) then some false
      else
        Option.bind
          (loopM
            (fun (s : Int) =>
              bif ltM s (lenM x.2) then
                Option.bind (idxM x.2 s) fun (r_1 : Int × Int × Int) =>
                  Option.bind (m52 (x.1, r_1.1, r_1.2.1, r_1.2.2)) fun (r : Bool) =>
                    bif PE.notM r then some (Sum.inr (Sum.inr false))
                    else some (Sum.inl (IntKind.wrap IntKind.i64 (s + (1 : Int))))
              else some (Sum.inr (Sum.inl ())))
            (0 : Int))
          fun (o : Unit ⊕ Bool) => Sum.elim (fun (t : Unit) => some true) (fun (t : Bool) => some t) o
theorem c23 : SpecOK Try.prog 23 ⟨as23, rs23, m23⟩ :=
  fnM_ok (own := []) (an := an23) (n := 400) tabs52OK (F := OPS) OPS_sound OPS_nice (f := 23) (fn := Try.f23) (code := Try.f23.body.getD .skip) (by kernel_rfl) (by kernel_rfl) (by kernel_rfl) fun x => by kernel_rfl
noncomputable def tabs23 : Tabs := Tabs.add tabs52 23 ⟨as23, rs23, m23⟩
theorem tabs23OK : TabOK Try.prog tabs23 := TabOK.add tabs52OK c23 Try.call23

/-! putlog/putlogref09.sums -/
def as41 : List Ty := [(.pair tI (.list (.pair tI (.pair tI tI))))]
def rs41 : List Ty := [(.list (.list (.list tI)))]
noncomputable def an41 : Ann := .seq (.a) (.seq (.a) (.seq (.seq (.a) (.block (.loop ⟨[(3, .r (.c (.h 1))), (4, .r (.c (.d (.d tI))))], [5, 6, 7, 8, 9, 10, 11, 12, 13, 14, 15, 16, 17, 18, 19, 20, 21, 22, 23, 24, 25, 26, 27, 28, 29, 30, 31, 32, 33, 34, 35, 36, 37, 38, 39, 40, 41, 42, 43, 44, 45, 46, 47, 48, 49, 50, 51, 52, 53, 54, 55, 56, 57, 58, 59, 60, 61, 62, 63, 64, 65, 66, 67, 68, 69, 70, 71, 72, 73, 74, 75, 76, 77, 78, 79, 80, 81, 82, 83, 84, 85, 86, 87, 88, 89, 90, 91, 92, 93, 94, 95, 96, 97], [], [.arr (.list (.list tI))]⟩ [(.exit 0, ⟨[(3, .r (.c (.h 1)))], [4, 5, 6, 7, 8, 9, 10, 11, 12, 13, 14, 15, 16, 17, 18, 19, 20, 21, 22, 23, 24, 25, 26, 27, 28, 29, 30, 31, 32, 33, 34, 35, 36, 37, 38, 39, 40, 41, 42, 43, 44, 45, 46, 47, 48, 49, 50, 51, 52, 53, 54, 55, 56, 57, 58, 59, 60, 61, 62, 63, 64, 65, 66, 67, 68, 69, 70, 71, 72, 73, 74, 75, 76, 77, 78, 79, 80, 81, 82, 83, 84, 85, 86, 87, 88, 89, 90, 91, 92, 93, 94, 95, 96, 97], [], [.arr (.list (.list tI))]⟩)] (.seq (.a) (.seq (.block (.seq (.a) (.seq (.seq (.a) (.block (.loop ⟨[(5, .r (.c (.h 2))), (6, .r (.c (.d (.d tI))))], [7, 8, 9, 10, 11, 18, 19, 20, 21, 22, 23, 24, 25, 26, 27, 28, 29, 30, 31, 32, 33, 34, 35, 36, 37, 38, 39, 40, 41, 42, 43, 44, 45, 46, 47, 48, 49, 50, 51, 52, 53, 54, 55, 56, 57, 58, 59, 60, 61, 62, 63, 64, 65, 66, 67, 68, 69, 70, 71, 72, 73, 74, 75, 76, 77, 78, 79, 80, 81, 82, 83, 84, 85, 86, 87, 88, 89, 90, 91, 92, 93], [], [.arr (.list tI)]⟩ [(.exit 2, ⟨[(5, .r (.c (.h 2)))], [6, 7, 8, 9, 10, 11, 18, 19, 20, 21, 22, 23, 24, 25, 26, 27, 28, 29, 30, 31, 32, 33, 34, 35, 36, 37, 38, 39, 40, 41, 42, 43, 44, 45, 46, 47, 48, 49, 50, 51, 52, 53, 54, 55, 56, 57, 58, 59, 60, 61, 62, 63, 64, 65, 66, 67, 68, 69, 70, 71, 72, 73, 74, 75, 76, 77, 78, 79, 80, 81, 82, 83, 84, 85, 86, 87, 88, 89, 90, 91, 92, 93], [], [.arr (.list tI)]⟩)] (.seq (.a) (.seq (.block (.seq (.a) (.seq (.seq (.a) (.block (.loop ⟨[(8, .r (.c (.d (.d tI))))], [27, 28, 29, 30, 31, 32, 33, 34, 35, 36, 37, 38, 39, 40, 41, 42, 43, 44, 45], [(3, .arr tI)], []⟩ [(.exit 4, ⟨[], [8, 27, 28, 29, 30, 31, 32, 33, 34, 35, 36, 37, 38, 39, 40, 41, 42, 43, 44, 45], [(3, .arr tI)], []⟩)] (.seq (.a) (.seq (.join [(.norm, ⟨[], [33, 34, 35, 36, 37, 38, 39, 40, 41, 42, 43, 44, 45], [(3, .arr tI)], []⟩)] (.a)) (.a)))))) (.seq (.seq (.a) (.block (.loop ⟨[(9, .r (.c (.d (.d tI))))], [10, 11, 46, 47, 48, 49, 50, 51, 52, 53, 54, 55, 56, 57, 58, 59, 60, 61, 62, 63, 64, 65, 66, 67, 68, 69, 70, 71, 72, 73, 74, 75, 76, 77, 78, 79, 80, 81, 82, 83, 84, 85, 86, 87, 88, 89], [(3, .arr tI)], []⟩ [(.exit 6, ⟨[], [9, 10, 11, 46, 47, 48, 49, 50, 51, 52, 53, 54, 55, 56, 57, 58, 59, 60, 61, 62, 63, 64, 65, 66, 67, 68, 69, 70, 71, 72, 73, 74, 75, 76, 77, 78, 79, 80, 81, 82, 83, 84, 85, 86, 87, 88, 89], [(3, .arr tI)], []⟩)] (.seq (.a) (.seq (.block (.seq (.a) (.seq (.reg [0, 0, 2, 7, 15, 0, 63, 127, 0, 256, 1023, 2047, 4095] [0, 1, 2, 3, 4, 5, 6, 7, 8, 9, 10, 11, 12] [.s [] [], .s [] [], .s [] [], .s [1] [], .s [1] [], .s [] [], .s [] [], .s [] [], .s [] [], .s [4] [], .s [] [], .s [] [], .s [] []] (.a)) (.seq (.a) (.cond (.reg [0, 0, 2, 0, 0, 16, 56, 120, 0, 0, 512, 1792, 4088, 8191, 16383] [0, 1, 2, 3, 4, 5, 6, 7, 8, 9, 10, 11, 12, 13, 14] [.s [] [], .s [] [], .s [4] [], .s [] [], .s [] [], .s [4] [], .s [3] [], .s [3] [], .s [] [], .s [] [], .s [4] [], .s [] [], .s [] [], .s [3] [], .s [3] [3]] (.a)) (.a)))))) (.a)))))) (.a))))) (.a)))))) (.a)))) (.a)))))) (.a)))
noncomputable def m41 : (Int × List (Int × Int × Int)) → Option (List (List (List Int))) :=
  fun (x : Int × List (Int × Int × Int)) =>
    Option.bind
      (loopM
        (fun (s : Int × List (List (List Int))) =>
          bif leM s.1 x.1 then
            Option.bind
              (loopM
                (fun (s_1 : Int × List (List Int)) =>
                  bif ltM s_1.1 x.1 then
                    Option.bind (mkM x.1 x.1 (nat_lit 8) (0 : Int)) fun (r : List Int) =>
                      Option.bind
                        (loopM
                          (fun (s_2 : Int × List Int) =>
                            bif ltM s_2.1 x.1 then
                              Option.bind
                                (Option.bind (chkM s_2.1 (lenM s_2.2)) fun (r_1 : Unit) =>
                                  Option.bind (setM s_2.2 s_2.1 fun (x : Int) => some (1152921504606846976 : Int))
                                    fun (r_2 : List Int) =>
                                    bif PE.andM (eqM s.1 (0 : Int)) (eqM s_1.1 s_2.1) then
                                      Option.bind (chkM s_2.1 (lenM r_2)) fun (r_3 : Unit) =>
                                        Option.bind (setM r_2 s_2.1 fun (x : Int) => some (0 : Int)) fun (r : List Int) =>
                                          some r
                                    else some r_2)
                                fun (o : List Int) => some (Sum.inl (IntKind.wrap IntKind.i64 (s_2.1 + (1 : Int)), o))
                            else some (Sum.inr s_2.2))
                          ((0 : Int), r))
                        fun (o : List Int) =>
                        Option.bind
                          (loopM
                            (fun (s_2 : Int × List Int) =>
                              bif PE.andM (ltM s_2.1 (lenM x.2)) (ltM (0 : Int) s.1) then
                                Option.bind (idxM x.2 s_2.1) fun (r_1 : Int × Int × Int) =>
                                  Option.bind (chkM (IntKind.wrap IntKind.i64 (s.1 - (1 : Int))) (lenM s.2))
                                    fun (r_2 : Unit) =>
                                    Option.bind (idxM s.2 (IntKind.wrap IntKind.i64 (s.1 - (1 : Int))))
                                      fun (r_3 : List (List Int)) =>
                                      Option.bind (idxM r_3 s_1.1) fun (r_4 : List Int) =>
                                        Option.bind (idxM r_4 r_1.1) fun (r_5 : Int) =>
                                          bif PE.notM (eqM r_5 (1152921504606846976 : Int)) then
                                            Option.bind (chkM r_1.2.1 (lenM s_2.2)) fun (r_6 : Unit) =>
                                              Option.bind (idxM s_2.2 r_1.2.1) fun (r_7 : Int) =>
                                                Option.bind (chkM r_1.2.1 (lenM s_2.2)) fun (r_8 : Unit) =>
                                                  Option.bind
                                                    (setM s_2.2 r_1.2.1 fun (x : Int) =>
                                                      some (min r_7 (IntKind.wrap IntKind.i64 (r_5 + r_1.2.2))))
                                                    fun (r : List Int) =>
                                                    some (Sum.inl (IntKind.wrap IntKind.i64 (s_2.1 + (1 : Int)), r))
                                          else some (Sum.inl (IntKind.wrap IntKind.i64 (s_2.1 + (1 : Int)), s_2.2))
                              else some (Sum.inr s_2.2))
                            ((0 : Int), o))
                          fun (o_1 : List Int) =>
                          Option.bind (appM (nat_lit 24) s_1.2 [o_1]) fun (r : List (List Int)) =>
                            some (Sum.inl (IntKind.wrap IntKind.i64 (s_1.1 + (1 : Int)), r))
                  else some (Sum.inr s_1.2))
                ((0 : Int), []))
              fun (o : List (List Int)) =>
              Option.bind (appM (nat_lit 24) s.2 [o]) fun (r : List (List (List Int))) =>
                some (Sum.inl (IntKind.wrap IntKind.i64 (s.1 + (1 : Int)), r))
          else some (Sum.inr s.2))
        ((0 : Int), []))
      fun (o : List (List (List Int))) => some o
theorem c41 : SpecOK Try.prog 41 ⟨as41, rs41, m41⟩ :=
  fnM_ok (own := []) (an := an41) (n := 400) tabs23OK (F := OPS) OPS_sound OPS_nice (f := 41) (fn := Try.f41) (code := Try.f41.body.getD .skip) (by kernel_rfl) (by kernel_rfl) (by kernel_rfl) fun x => by kernel_rfl
noncomputable def tabs41 : Tabs := Tabs.add tabs23 41 ⟨as41, rs41, m41⟩
theorem tabs41OK : TabOK Try.prog tabs41 := TabOK.add tabs23OK c41 Try.call41

/-! putlog/putlogref09.contradicts -/
def as40 : List Ty := [(.pair tI (.list (.pair tI (.pair tI tI))))]
def rs40 : List Ty := [.bool]
noncomputable def an40 : Ann := .seq (.a) (.seq (.a) (.seq (.seq (.a) (.block (.loop ⟨[(4, .r (.c (.d (.d tI))))], [5, 8, 9, 10, 11, 12, 13, 14, 15, 16, 17, 18, 19, 20, 21, 22, 23, 24, 25, 26, 27, 28, 29, 30], [], []⟩ [(.exit 0, ⟨[], [4, 5, 8, 9, 10, 11, 12, 13, 14, 15, 16, 17, 18, 19, 20, 21, 22, 23, 24, 25, 26, 27, 28, 29, 30], [], []⟩), (.ret, ⟨[(2, .r (.c (.d (.d .bool))))], [4, 5, 8, 9, 10, 11, 12, 13, 14, 15, 16, 17, 18, 19, 20, 21, 22, 23, 24, 25, 26, 27, 28, 29, 30], [], []⟩)] (.seq (.a) (.seq (.block (.seq (.a) (.block (.loop ⟨[(5, .r (.c (.d (.d tI))))], [14, 15, 16, 17, 18, 19, 20, 21, 22, 23, 24, 25, 26, 27, 28, 29, 30], [], []⟩ [(.exit 2, ⟨[], [5, 14, 15, 16, 17, 18, 19, 20, 21, 22, 23, 24, 25, 26, 27, 28, 29, 30], [], []⟩), (.ret, ⟨[(2, .r (.c (.d (.d .bool))))], [5, 14, 15, 16, 17, 18, 19, 20, 21, 22, 23, 24, 25, 26, 27, 28, 29, 30], [], []⟩)] (.a))))) (.a)))))) (.a)))
noncomputable def m40 : (Int × List (Int × Int × Int)) → Option (Bool) :=
  fun (x : Int × List (Int × Int × Int)) =>
    Option.bind (m41 (x.1, x.2)) fun (r : List (List (List Int))) =>
      Option.bind
        (loopM
          (fun (s : Int) =>
            bif leM s x.1 then
              Option.bind
                (loopM
                  (fun (s_1 : Int) =>
                    bif ltM s_1 x.1 then
                      Option.bind (idxM r s) fun (r_1 : List (List Int)) =>
                        Option.bind (idxM r_1 s_1) fun (r_2 : List Int) =>
                          Option.bind (idxM r_2 s_1) fun (r : Int) =>
                            bif ltM r (0 : Int) then some (Sum.inr (Sum.inr true))
                            else some (Sum.inl (IntKind.wrap IntKind.i64 (s_1 + (1 : Int))))
                    else some (Sum.inr (Sum.inl ())))
                  (0 : Int))
                fun (o : Unit ⊕ Bool) =>
                Sum.elim (fun (t : Unit) => some (Sum.inl (IntKind.wrap IntKind.i64 (s + (1 : Int)))))
                  (fun (t : Bool) => some (Sum.inr (Sum.inr t))) o
            else some (Sum.inr (Sum.inl ())))
          (1 : Int))
        fun (o : Unit ⊕ Bool) => Sum.elim (fun (t : Unit) => some false) (fun (t : Bool) => some t) o
theorem c40 : SpecOK Try.prog 40 ⟨as40, rs40, m40⟩ :=
  fnM_ok (own := []) (an := an40) (n := 400) tabs41OK (F := OPS) OPS_sound OPS_nice (f := 40) (fn := Try.f40) (code := Try.f40.body.getD .skip) (by kernel_rfl) (by kernel_rfl) (by kernel_rfl) fun x => by kernel_rfl
noncomputable def tabs40 : Tabs := Tabs.add tabs41 40 ⟨as40, rs40, m40⟩
theorem tabs40OK : TabOK Try.prog tabs40 := TabOK.add tabs41OK c40 Try.call40

/-! putlog/putlogref09.Close -/
def as17 : List Ty := [(.pair tI (.list (.pair tI (.pair tI tI))))]
def rs17 : List Ty := [(.list (.list tI)), tI]
noncomputable def an17 : Ann := .seq (.a) (.seq (.a) (.seq (.a) (.seq (.a) (.seq (.a) (.seq (.seq (.a) (.block (.loop ⟨[(5, .r (.c (.h 1))), (6, .r (.c (.d (.d tI))))], [7, 8, 9, 17, 18, 19, 20, 21, 22, 23, 24, 25, 26, 27, 28, 29, 30, 31, 32, 33, 34, 35, 36, 37, 38, 39, 40, 41, 42, 43, 44, 45, 46, 47, 48, 49, 50, 51, 52, 53, 54, 55, 56, 57, 58, 59, 60, 61, 62], [], [.arr (.list tI)]⟩ [(.exit 0, ⟨[(5, .r (.c (.h 1)))], [6, 7, 8, 9, 17, 18, 19, 20, 21, 22, 23, 24, 25, 26, 27, 28, 29, 30, 31, 32, 33, 34, 35, 36, 37, 38, 39, 40, 41, 42, 43, 44, 45, 46, 47, 48, 49, 50, 51, 52, 53, 54, 55, 56, 57, 58, 59, 60, 61, 62], [], [.arr (.list tI)]⟩)] (.seq (.a) (.seq (.block (.seq (.a) (.seq (.seq (.a) (.block (.loop ⟨[(8, .r (.c (.d (.d tI))))], [9, 26, 27, 28, 29, 30, 31, 32, 33, 34, 35, 36, 37, 38, 39, 40, 41, 42, 43, 44, 45, 46, 47, 48, 49, 50, 51, 52, 53, 54, 55, 56, 57, 58], [(2, .arr tI)], []⟩ [(.exit 2, ⟨[], [8, 9, 26, 27, 28, 29, 30, 31, 32, 33, 34, 35, 36, 37, 38, 39, 40, 41, 42, 43, 44, 45, 46, 47, 48, 49, 50, 51, 52, 53, 54, 55, 56, 57, 58], [(2, .arr tI)], []⟩)] (.seq (.a) (.seq (.block (.seq (.a) (.seq (.a) (.block (.loop ⟨[(9, .r (.c (.d (.d tI))))], [35, 36, 37, 38, 39, 40, 41, 42, 43, 44, 45, 46, 47, 48, 49, 50, 51, 52, 53, 54, 55, 56, 57, 58], [(2, .arr tI)], []⟩ [(.exit 4, ⟨[], [9, 35, 36, 37, 38, 39, 40, 41, 42, 43, 44, 45, 46, 47, 48, 49, 50, 51, 52, 53, 54, 55, 56, 57, 58], [(2, .arr tI)], []⟩)] (.seq (.a) (.seq (.block (.reg [0, 0, 0, 0, 12, 28, 0, 0, 192, 448, 0, 1984, 4032, 0, 16320, 32704, 65532, 131071, 262143] [0, 1, 2, 3, 4, 5, 6, 7, 8, 9, 10, 11, 12, 13, 14, 15, 16, 17, 18] [.s [] [], .s [] [], .s [] [], .s [] [], .s [2] [], .s [2] [], .s [] [], .s [] [], .s [] [], .s [] [], .s [] [], .s [] [], .s [] [], .s [] [], .s [] [], .s [] [], .s [] [], .s [2] [], .s [2] [2]] (.a))) (.a)))))))) (.a)))))) (.a)))) (.a)))))) (.a))))))
noncomputable def m17 : (Int × List (Int × Int × Int)) → Option (List (List Int) × Int) :=
  fun (x : Int × List (Int × Int × Int)) =>
    Option.bind (m23 (x.1, x.2)) fun (r : Bool) =>
      bif PE.notM r then some ([], (90 : Int))
      else
        Option.bind (m40 (x.1, x.2)) fun (r_1 : Bool) =>
          bif r_1 then some ([], (90 : Int))
          else
            Option.bind (m41 (x.1, x.2)) fun (r_2 : List (List (List Int))) =>
              Option.bind
                (loopM
                  (fun (s : Int × List (List Int)) =>
                    bif ltM s.1 x.1 then
                      Option.bind (mkM x.1 x.1 (nat_lit 8) (0 : Int)) fun (r_3 : List Int) =>
                        Option.bind
                          (loopM
                            (fun (s_1 : Int × List Int) =>
                              bif ltM s_1.1 x.1 then
                                Option.bind (chkM s_1.1 (lenM s_1.2)) fun (r_4 : Unit) =>
                                  Option.bind (setM s_1.2 s_1.1 fun (x : Int) => some (1152921504606846976 : Int))
                                    fun (r_5 : List Int) =>
                                    Option.bind
                                      (loopM
                                        (fun (s_2 : Int × List Int) =>
                                          bif leM s_2.1 x.1 then
                                            Option.bind (chkM s_1.1 (lenM s_2.2)) fun (r_6 : Unit) =>
                                              Option.bind (idxM s_2.2 s_1.1) fun (r_7 : Int) =>
                                                Option.bind (idxM r_2 s_2.1) fun (r_8 : List (List Int)) =>
                                                  Option.bind (idxM r_8 s.1) fun (r_9 : List Int) =>
                                                    Option.bind (idxM r_9 s_1.1) fun (r_10 : Int) =>
                                                      Option.bind (chkM s_1.1 (lenM s_2.2)) fun (r_11 : Unit) =>
                                                        Option.bind
                                                          (setM s_2.2 s_1.1 fun (x : Int) => some (min r_7 r_10))
                                                          fun (r : List Int) =>
                                                          some (Sum.inl (IntKind.wrap IntKind.i64 (s_2.1 + (1 : Int)), r))
                                          else some (Sum.inr s_2.2))
                                        ((0 : Int), r_5))
                                      fun (o : List Int) =>
                                      some (Sum.inl (IntKind.wrap IntKind.i64 (s_1.1 + (1 : Int)), o))
                              else some (Sum.inr s_1.2))
                            ((0 : Int), r_3))
                          fun (o : List Int) =>
                          Option.bind (appM (nat_lit 24) s.2 [o]) fun (r : List (List Int)) =>
                            some (Sum.inl (IntKind.wrap IntKind.i64 (s.1 + (1 : Int)), r))
                    else some (Sum.inr s.2))
                  ((0 : Int), []))
                fun (o : List (List Int)) => some (o, (0 : Int))
theorem c17 : SpecOK Try.prog 17 ⟨as17, rs17, m17⟩ :=
  fnM_ok (own := []) (an := an17) (n := 400) tabs40OK (F := OPS) OPS_sound OPS_nice (f := 17) (fn := Try.f17) (code := Try.f17.body.getD .skip) (by kernel_rfl) (by kernel_rfl) (by kernel_rfl) fun x => by kernel_rfl
noncomputable def tabs17 : Tabs := Tabs.add tabs40 17 ⟨as17, rs17, m17⟩
theorem tabs17OK : TabOK Try.prog tabs17 := TabOK.add tabs40OK c17 Try.call17
end Go.Proofs.Ytadcohacnmicjaa
