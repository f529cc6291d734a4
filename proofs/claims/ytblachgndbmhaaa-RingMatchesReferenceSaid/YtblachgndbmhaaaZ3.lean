/-
  Texts of this proof, put together: Pv, Pw, P1, P2, Py, Px, Ty, Tb, M0, P3, So43, M1.
  No conditions.
-/
import Derived.Test.YtblachgndbmhaaaZ2
import Derived.Laws.StructEq
import Derived.ProofKit
import Derived.OpenShut
import Derived.Carry
import Derived.Test.YtblachgndbmhaaaProg
import Derived.KernelRfl
import Derived.Shelf.SlSortCmp.NoneTotal
import Derived.Shelf.SlLaysF0
set_option linter.all false
/-
  The pure machine: copy; lists that are known not to be empty.
  Conditions: none; it holds over any program P.
-/
namespace Go.PE
open Go Go.RowKit Go.Abs
set_option linter.unusedVariables false
set_option linter.unusedSimpArgs false

def copyM {α : Type} (xs ys : List α) : List α := ys.take xs.length ++ xs.drop ys.length
/-- A list that is only read; none in the inner place: it may be out of range. -/
def rdS (H : PH) (T : Ty) (pv : PV) : Option (Option (List T.den)) := match pv with
  | .r (.c (.h id)) => match lk H id with
    | some (.arr T' xs) => match castT (.list T) (t' := .list T') xs with
      | some xs => some (some xs)
      | none => none
    | some (.frz T' xs) => match castT (.list T) (t' := .list T') xs with
      | some xs => some (some xs)
      | none => none
    | _ => none
  | .r (.c (.rw id vid i)) => match lk H id with
    | some (.tab T' xss vid') => match castT (.list (.list T)) (t' := .list (.list T')) xss, Nat.beq vid vid' with
      | some xss, true => some (idxM xss i)
      | _, _ => none
    | _ => none
  | pv => match conP [] (.list T) pv with
    | some ys => some (some ys)
    | none => none
def copyR (Γ : Tabs) (t : TypeId) (pd ps : PV) (H : PH) (nx : Nat) : Option RdR := match elOf Γ t, pd with
  | some (_, _, T), .r (.c (.h id)) => match lk H id with
    | some (.arr T' xs) => match castT (.list T) (t' := .list T') xs, rdS H T ps with
      | some xs, some m => some (wr m [] (fun ys => .c (.d (.int .i64) (min (lenM ys) (lenM xs)))) (fun ys => [(id, .arr T (copyM xs ys))]) nx)
      | _, _ => none
    | _ => none
  | _, _ => none
/-- A list that is not empty, and so not nil. -/
def neR (Γ : Tabs) (dst : Option Nat) (pv : PV) (H : PH) (nx : Nat) : Option RdR := match memO dst Γ.own, pv with
  | true, .r (.c (.d (.list T) xs)) => some (par (neM xs) [] (fun ys => .c (.n T (some ys))) H nx)
  | _, _ => none
def opV : OpF := fun Γ o e ctx H nx => match o.op with
  | .assign x => match ev e ctx x with
    | some pv => neR Γ o.dst pv H nx
    | none => none
  | .call c => match c.callee, c.args.toList, c.argTypes.toList with
    | .builtin .copy, [d, s], [t, t'] => match ev e ctx d, ev e ctx s, Nat.beq t t' with
      | some pd, some ps, true => copyR Γ t pd ps H nx
      | _, _, _ => none
    | _, _, _ => none
  | _ => none

section
variable {P : Program} {Γ : Tabs} {B : Nat} {S : Cells} {w : World} {η : Eta} {H : PH} {nx : Nat}
theorem neR_ok {rd : Option Nat} {o : Oper} {e : Ev} {ctx : Ctx} {x : Operand} {pv : PV} {R : RdR} (hop : o.op = .assign x) (hw : Wf e) (hc : CtxH e ctx) (hx : ev e ctx x = some pv) (h : neR Γ o.dst pv H nx = some R) (r : R.T) (hr : R.m = some r) : R.OK P rd B o e (H, nx) r := by
  have hd : ∀ c, o.op ≠ .defer c := by rw [hop]; intro c hh; cases hh
  unfold neR at h
  split at h
  · rename_i T xs _
    cases h
    obtain ⟨ys, hys⟩ : ∃ ys : List T.den, ys = r := ⟨r, rfl⟩
    subst hys
    obtain ⟨e1, hne⟩ := neM_some hr
    subst e1
    refine ok_par (T := List T.den) hd (fun S w η a hi ho => ?_)
    have hv := ev_sound hw hc hx (by rw [hop]; simp [Op.operands]) ho
    refine ⟨a.eval x, by simp [execOp, hop], ?_⟩
    obtain ⟨_, hv⟩ := hv
    obtain ⟨base, cap, e1, e2, e3, e4⟩ := VRep.slice hv
    refine ⟨hv, ?_⟩
    rcases e4 with e4 | ⟨b, off, rfl, _⟩
    · exact absurd (List.eq_nil_of_length_eq_zero e4) hne
    · exact ⟨_, _, _, e1⟩
  · cases h
theorem rdS_sound (hi : HInv B η H S w) {T : Ty} {pv : PV} {v : Value} {ys : List T.den} (h : rdS H T pv = some (some ys)) (hm : PM S w η pv v) :
    ∃ base cap, v = .slice base ys.length cap ∧ ys.length ≤ maxLen ∧ (ys.length = 0 ∨ ∃ b off, base = some ⟨b, off, none⟩ ∧ ∀ (i : Nat) (x : T.den), ys[i]? = some x → ∃ es, Rep S w T x es ∧ ∀ j u, es[j]? = some u → w.cell? ⟨b, off + i * T.size + j, none⟩ = some u) := by
  have ofV : VRep S w (.list T) ys v → ∃ base cap, v = .slice base ys.length cap ∧ ys.length ≤ maxLen ∧ (ys.length = 0 ∨ ∃ b off, base = some ⟨b, off, none⟩ ∧ ∀ (i : Nat) (x : T.den), ys[i]? = some x → ∃ es, Rep S w T x es ∧ ∀ j u, es[j]? = some u → w.cell? ⟨b, off + i * T.size + j, none⟩ = some u) := by
    intro hv
    obtain ⟨base, cap, e1, e2, e3, e4⟩ := VRep.slice hv
    refine ⟨base, cap, e1, Nat.le_trans e2 e3, e4.imp (fun h => h) ?_⟩
    rintro ⟨b, off, h1, h2⟩
    refine ⟨b, off, h1, fun i x hx => ?_⟩
    obtain ⟨es, h3, h4⟩ := h2 i x hx
    exact ⟨es, h3, fun j u hj => (h4 j u hj).2⟩
  have ofA : ∀ F, ArrH F S w v T ys → ∃ base cap, v = .slice base ys.length cap ∧ ys.length ≤ maxLen ∧ (ys.length = 0 ∨ ∃ b off, base = some ⟨b, off, none⟩ ∧ ∀ (i : Nat) (x : T.den), ys[i]? = some x → ∃ es, Rep S w T x es ∧ ∀ j u, es[j]? = some u → w.cell? ⟨b, off + i * T.size + j, none⟩ = some u) := by
    rintro F ⟨base, cap, e1, e2, e3, e4⟩
    refine ⟨base, cap, e1, Nat.le_trans e2 e3, ?_⟩
    rcases e4 with ⟨e4, _⟩ | ⟨b, off, h1, _, _, h2⟩
    · exact .inl (by omega)
    · exact .inr ⟨b, off, h1, h2⟩
  unfold rdS at h
  split at h
  · rename_i id
    split at h
    · rename_i T' xs hlk
      split at h
      · rename_i xs' hcast
        cases h
        obtain ⟨hT, hxs⟩ := castT_some hcast
        cases hT
        have hxs : xs = ys := hxs
        subst hxs
        obtain ⟨F1, _, u, g1, hA⟩ := hi.read hlk
        have := hm.1
        rw [g1] at this
        cases this
        exact ofA _ hA
      · cases h
    · rename_i T' xs hlk
      split at h
      · rename_i xs' hcast
        cases h
        obtain ⟨F1, _, u, g1, _, hA⟩ := hi.read hlk
        have := hm.1
        rw [g1] at this
        cases this
        exact ofV (castT_vrep hcast hA)
      · cases h
    · cases h
  · rename_i id vid i
    split at h
    · rename_i T' xss vid' hlk
      split at h
      · rename_i xss' hcast hb
        obtain ⟨hT, hxs⟩ := castT_some hcast
        cases hT
        have hxs : xss = xss' := hxs
        subst hxs
        have := Nat.eq_of_beq_eq_true hb
        subst this
        have h := Option.some.inj h
        obtain ⟨_, _, hg⟩ := idxM_some h
        obtain ⟨us0, f1, f2, f3⟩ := hm
        obtain ⟨F1, _, u, us, k1, k2, k3, hA⟩ := hi.read hlk
        rw [f1] at k2
        cases k2
        obtain ⟨b, off, Fi, _, _, hR⟩ := hA.row hg
        have hus : us0.getD i.toNat undef = v := by simp [Array.getD_eq_getD_getElem?, f2]
        rw [hus] at hR
        exact ofA _ hR
      · cases h
    · cases h
  · split at h
    · rename_i ys' hy
      cases h
      exact ofV (conP_sound (HInv.empty hi.inw) hy hm)
    · cases h
theorem ArrH.over {F : Cells} {u : Value} {T : Ty} {xs ys : List T.den} {news : List Value} (hF : ∀ b o, F b o → B ≤ b ∧ b < w.heap.size ∧ ¬ S b o) (hin : InW S w) (h : ArrH F S w u T xs) (hl : ys.length ≤ xs.length) (h0 : 0 < ys.length)
    (hr : RepL S w T ys news) : ∃ b off cap, u = .slice (some ⟨b, off, none⟩) xs.length cap ∧ (∀ m, m < news.length → F b (off + m) ∧ World.there w b (off + m)) ∧ Grow B S w S (w.setCells b off news) ∧ ArrH F S (w.setCells b off news) u T (ys ++ xs.drop ys.length) := by
  obtain ⟨base, cap, rfl, c1, c2, c3⟩ := h
  have hnl := hr.length
  rcases c3 with ⟨c3, _⟩ | ⟨b, off, rfl, hf, ht, hxs⟩
  · omega
  have hm : xs.length * T.size ≤ cap * T.size := Nat.mul_le_mul_right _ c1
  have hm2 : ys.length * T.size ≤ xs.length * T.size := Nat.mul_le_mul_right _ hl
  have hin2 : ∀ m, m < news.length → F b (off + m) ∧ World.there w b (off + m) := fun m hm => ⟨(hf _ _).2 ⟨rfl, by omega, by omega⟩, ht _ (by omega) (by omega)⟩
  have hpos : 0 < news.length := by rw [hnl]; exact Nat.mul_pos h0 T.size_pos
  have hst : Grow B S w S (w.setCells b off news) := Grow.stored hin (hF _ _ (hin2 0 hpos).1).1 fun m hm => (hF _ _ (hin2 m hm).1).2.2
  have hcells : ∀ m u, news[m]? = some u → (w.setCells b off news).cell? ⟨b, off + m, none⟩ = some u := fun m u hm => by
    have hml := (List.getElem?_eq_some_iff.1 hm).1
    rw [World.cell?_setCells_in b news _ w (fun m hm => by obtain ⟨_, ⟨v, hv⟩, _⟩ := hin2 m hm; rw [hv]; rfl) m hml]
    rw [List.getElem?_eq_getElem hml] at hm
    exact hm
  have hlen : (ys ++ xs.drop ys.length).length = xs.length := by simp; omega
  refine ⟨b, off, cap, rfl, hin2, hst, _, cap, by rw [hlen], by omega, c2, .inr ⟨b, off, rfl, hf, fun o h1 h2 => ?_, fun m y hm => ?_⟩⟩
  · obtain ⟨⟨z, hz⟩, hfz⟩ := ht o h1 h2
    refine ⟨?_, by rw [World.frozen?_setCells]; exact hfz⟩
    by_cases hio : o < off + news.length
    · have := hcells (o - off) _ (List.getElem?_eq_getElem (by omega))
      rw [show off + (o - off) = o by omega] at this
      exact ⟨_, this⟩
    · exact ⟨z, by rw [World.cell?_setCells_out b news _ w ⟨b, o, none⟩ fun _ _ => by simp only; omega]; exact hz⟩
  · by_cases hmy : m < ys.length
    · rw [List.getElem?_append_left hmy] at hm
      obtain ⟨es, he, hc⟩ := hr.get m y hm
      refine ⟨es, he.keep hst.keep, fun j v hj => ?_⟩
      rw [Nat.add_assoc]; exact hcells _ v (hc j v hj)
    · rw [List.getElem?_append_right (by omega), List.getElem?_drop, show ys.length + (m - ys.length) = m by omega] at hm
      obtain ⟨es, he, hc⟩ := hxs m y hm
      refine ⟨es, he.keep hst.keep, fun j v hj => ?_⟩
      have hmm : ys.length * T.size ≤ m * T.size := Nat.mul_le_mul_right _ (by omega)
      rw [World.cell?_setCells_out b news _ w ⟨b, off + m * T.size + j, none⟩ fun _ _ => by simp only; omega]
      exact hc j v hj
theorem copyR_ok (hΓ : TabOK P Γ) {rd : Option Nat} {o : Oper} {e : Ev} {ctx : Ctx} {t : TypeId} {d s : Operand} {pd ps : PV} {R : RdR} (hop : o.op = .call { callee := .builtin .copy, args := #[d, s], argTypes := #[t, t] }) (hw : Wf e) (hc : CtxH e ctx) (hxd : ev e ctx d = some pd) (hxs : ev e ctx s = some ps)
    (h : copyR Γ t pd ps H nx = some R) (r : R.T) (hr : R.m = some r) : R.OK P rd B o e (H, nx) r := by
  have hd : ∀ c, o.op ≠ .defer c := by rw [hop]; intro c hh; cases hh
  have hm1 : d ∈ o.op.operands.toList := by rw [hop]; simp [Op.operands, Call.operands]
  have hm2 : s ∈ o.op.operands.toList := by rw [hop]; simp [Op.operands, Call.operands]
  unfold copyR at h
  split at h
  · rename_i el bts T id hel
    have hS := elOf_sound hΓ hel
    split at h
    · rename_i T' xs' hlk
      split at h
      · rename_i xs m hcast hm
        cases h
        obtain ⟨hT, hxx⟩ := castT_some hcast
        cases hT
        have hxx : xs' = xs := hxx
        subst hxx
        have hm : rdS H T ps = some (some r) := by rw [hm]; exact congrArg some hr
        obtain ⟨ys, hys⟩ : ∃ ys : List T.den, ys = r := ⟨r, rfl⟩
        subst hys
        refine ok_fl2 rfl hd fun S w η a hi hlen ho => ?_
        obtain ⟨f1, f2⟩ := ev_sound hw hc hxd hm1 ho
        obtain ⟨sb, sc, e1, e2, e3⟩ := rdS_sound hi hm (ev_sound hw hc hxs hm2 ho)
        obtain ⟨F1, hF1, u, k1, hA⟩ := hi.read hlk
        rw [f1] at k1
        cases k1
        obtain ⟨i, z, i1, i2, i3, i4, i5⟩ := hS.info
        have hsz : ∀ w, (sizeOf el).run P w = .ok T.size w := fun w => by simp [sizeOf, typeInfo, i1, i4]
        obtain ⟨db, dc, hdu, hdm, _⟩ := hA.hdr
        have hval : CM S w η (.d (.int .i64) (min (lenM ys) (lenM xs') : Int)) (goInt (Nat.min ys.length xs'.length)) := by
          refine ⟨rfl, VRep.int.2 ⟨?_, ?_⟩⟩
          · simp only [goInt, lenM]
            congr 1
            rw [show Nat.min ys.length xs'.length = min ys.length xs'.length from rfl]
            omega
          · rw [has_i64]; simp only [lenM, maxLen] at *; omega
        by_cases h0 : 0 < min ys.length xs'.length
        · rcases e3 with e3 | ⟨b2, off2, rfl, hx2⟩
          · omega
          obtain ⟨news, hrl, hrc⟩ := RepL.of (b := b2) (off := off2) (xs := ys.take xs'.length) (fun i x hx => hx2 i x (by
            have hil := (List.getElem?_eq_some_iff.1 hx).1
            simp at hil
            rw [List.getElem?_take_of_lt (by omega)] at hx; exact hx))
          have hnl := hrl.length
          rw [List.length_take] at hnl
          have hld : (loadCells ⟨b2, off2, none⟩ (Nat.min ys.length xs'.length * T.size)).run P w = .ok news.toArray w := by
            have := run_loadCells_list (P := P) w ⟨b2, off2, none⟩ news fun j v hj => by rw [Addr.add_lit]; exact hrc j v hj
            rwa [hnl, show min xs'.length ys.length = Nat.min ys.length xs'.length from Nat.min_comm _ _] at this
          obtain ⟨b, off, cap, hue, hin, hg, hA'⟩ := ArrH.over hF1 hi.inw hA (ys := ys.take xs'.length) (by simp; omega) (by simp; omega) hrl
          have hst : (storeCells ⟨b, off, none⟩ news 0).run P w = .ok () (w.setCells b off news) := by
            have := run_storeCells_cells (P := P) b off news 0 w (fun j hj => by
              obtain ⟨_, ⟨v, hv⟩, _⟩ := hin j hj
              rw [Nat.add_zero, hv]; rfl) (fun j hj => by rw [Nat.add_zero]; exact (hin j hj).2.2) hrl.one
            rwa [Nat.add_zero] at this
          have hrun : (execOp a.eval o).run P w = .ok (.value (goInt (Nat.min ys.length xs'.length))) (w.setCells b off news) := by
            simp [execOp, hop, resolve, invoke, builtin, e1, hue, Builtin.copy_, run_underlying hS.und, Builtin.lenOf, hsz, Builtin.firstCells, hld, hst]
          have hcm : ys.take xs'.length ++ xs'.drop (ys.take xs'.length).length = copyM xs' ys := by
            unfold copyM
            rw [List.length_take]
            by_cases hle : ys.length ≤ xs'.length
            · rw [Nat.min_eq_right hle]
            · rw [Nat.min_eq_left (by omega), List.drop_eq_nil_of_le (Nat.le_refl _), List.drop_eq_nil_of_le (by omega)]
          rw [hcm] at hA'
          refine ⟨_, _, S, η, .inl hrun, hg, .refl _, Out.refl _ _ _, ?_, CM.mono hg.keep (.refl _) hval⟩
          show HInv B η ((id, .arr T (copyM xs' ys)) :: H) S _
          refine hi.set hlk (by rw [size_setCells]; exact Nat.le_refl _) hg.lt hg.keep fun G hG hAG => ?_
          obtain ⟨u2, q1, hAG⟩ := hAG
          rw [f1] at q1
          cases q1
          obtain ⟨b3, off3, cap3, hu3, hin3, hg3, hA3⟩ := ArrH.over hG hi.inw hAG (ys := ys.take xs'.length) (by simp; omega) (by simp; omega) hrl
          rw [hue] at hu3
          injection hu3 with q1 q2 q3
          injection q1 with q1
          injection q1 with q4 q5
          subst q4; subst q5
          rw [hcm] at hA3
          have hnpos : 0 < news.length := by rw [hnl]; exact Nat.mul_pos (by omega) T.size_pos
          refine ⟨fun _ _ h => .inl h, fun b' o' _ hn => ⟨World.cell?_setCells_out b news off w ⟨b', o', none⟩ fun hb _ => ?_, World.frozen?_setCells _ _ _ _ _⟩, fun b' _ hn => heap_setCells_ne b news _ w b' fun h => hn _ (h ▸ (hin3 0 hnpos).1), G, ⟨_, f1, hA3⟩, fun b o h => ⟨.inl h, by rw [size_setCells]; exact (hG b o h).2.1, (hG b o h).2.2⟩⟩
          simp only at hb ⊢
          subst hb
          rcases Nat.lt_or_ge o' off with h | h
          · exact .inl h
          · refine .inr (Nat.le_of_not_lt fun hlt => hn ?_)
            have := (hin3 (o' - off) (by omega)).1
            rwa [show off + (o' - off) = o' by omega] at this
        · have hn0 : Nat.min ys.length xs'.length = 0 := by
            have : min ys.length xs'.length = 0 := by omega
            exact this
          have hl0 : ∀ q, (loadCells q 0).run P w = .ok #[] w := fun q => by simpa using run_loadCells_list (P := P) w q [] (fun j v hj => by simp at hj)
          have hrun : (execOp a.eval o).run P w = .ok (.value (goInt 0)) w := by
            cases db <;> cases sb <;> simp [execOp, hop, resolve, invoke, builtin, e1, hdu, Builtin.copy_, run_underlying hS.und, Builtin.lenOf, hsz, Builtin.firstCells, storeCells, hl0, hn0]
          have hcm : copyM xs' ys = xs' := by
            unfold copyM
            have : ys.length = 0 ∨ xs'.length = 0 := by omega
            rcases this with h | h
            · rw [List.eq_nil_of_length_eq_zero h]; simp
            · rw [List.eq_nil_of_length_eq_zero h]; simp
          rw [hn0] at hval
          refine ⟨_, _, S, η, .inl hrun, Grow.refl hi.inw, .refl _, Out.refl _ _ _, ?_, hval⟩
          show HInv B η ((id, .arr T (copyM xs' ys)) :: H) S w
          rw [hcm]
          exact hi.set hlk (Nat.le_refl _) hi.inw (Keep.refl _ _) fun F2 hF2 hA2 => ⟨fun _ _ h => .inl h, fun _ _ _ _ => ⟨rfl, rfl⟩, fun _ _ _ => rfl, F2, hA2, fun b o h => ⟨.inl h, (hF2 b o h).2⟩⟩
      · cases h
    · cases h
  · cases h
theorem opV_sound : OpF.Sound opV := by
  intro P Γ hΓ rd B o e ctx H nx R h hw hc r hr
  unfold opV at h
  split at h
  · rename_i x hop
    split at h
    · rename_i pv hx; exact neR_ok hop hw hc hx h r hr
    · cases h
  · rename_i c hop
    split at h
    · rename_i d s t t' hcal hxs hts
      have hce := call_eta hcal hxs hts
      subst hce
      split at h
      · rename_i pd ps hd hs hb
        have := Nat.eq_of_beq_eq_true hb
        subst this
        exact copyR_ok hΓ hop hw hc hd hs h r hr
      · cases h
    · cases h
  · cases h
end
end Go.PE
/-
  The pure machine: more operations that look at no object.
  Conditions: none; it holds over any program P.
-/
namespace Go.PE
open Go Go.RowKit Go.Abs
set_option linter.unusedVariables false
set_option linter.unusedSimpArgs false

/-- append onto a literal that is not empty: its array is full, so what comes out is data. -/
def appQ (Γ : Tabs) (t : TypeId) (ps px : PV) (H : PH) (nx : Nat) : Option RdR := match elOf Γ t, ps with
  | some (_, bts, T), .r (.c (.q T' (x :: xs))) => match castT (.list T) (t' := .list T') (x :: xs), conP [] (.list T) px with
    | some xs, some ys => some (par (appM bts xs ys) [] (fun zs => .c (.d (.list T) zs)) H nx)
    | _, _ => none
  | _, _ => none
def opW : OpF := fun Γ o e ctx H nx => match o.op with
  | .call c => match c.callee, c.args.toList, c.argTypes.toList with
    | .builtin .append, [s, x], [t, t'] => match ev e ctx s, ev e ctx x, Nat.beq t t' with
      | some ps, some px, true => appQ Γ t ps px H nx
      | _, _, _ => none
    | _, _, _ => none
  | _ => none
section
variable {P : Program} {Γ : Tabs} {B : Nat} {S : Cells} {w : World} {η : Eta} {H : PH} {nx : Nat}
theorem appQ_ok (hΓ : TabOK P Γ) {rd : Option Nat} {o : Oper} {e : Ev} {ctx : Ctx} {t : TypeId} {s x : Operand} {ps px : PV} {R : RdR} {hs' : Hl} (hop : o.op = .call { callee := .builtin .append, args := #[s, x], argTypes := #[t, t] }) (hw : Wf e) (hc : CtxH e ctx) (hs : ev e ctx s = some ps) (hx : ev e ctx x = some px)
    (h : appQ Γ t ps px H nx = some R) (r : R.T) (hr : R.m = some r) : R.OK P rd B o e hs' r := by
  have hd : ∀ c, o.op ≠ .defer c := by rw [hop]; intro c hh; cases hh
  have hm1 : s ∈ o.op.operands.toList := by rw [hop]; simp [Op.operands, Call.operands]
  have hm2 : x ∈ o.op.operands.toList := by rw [hop]; simp [Op.operands, Call.operands]
  unfold appQ at h
  split at h
  · rename_i el bts T T' x0 xs0 hel
    have hS := elOf_sound hΓ hel
    split at h
    · rename_i xs ys hcast hsrc
      cases h
      obtain ⟨hT, hxx⟩ := castT_some hcast
      cases hT
      have hxx : x0 :: xs0 = xs := hxx
      obtain ⟨zs, hzs'⟩ : ∃ zs : List T.den, zs = r := ⟨r, rfl⟩
      subst hzs'
      obtain ⟨hb, hzs⟩ := appM_some hr
      show ∀ S w η a, InW S w → En.Only (lk e) (opReads o) S w η a.tmps → OpW P rd o a w (fun a' w' => ∃ v S', a' = a.put o.dst v ∧ Grow w.heap.size S w S' w' ∧ PM S' w' η (.c (.d (.list T) zs)) v)
      intro S w η a hi ho
      have hv := conP_sound (HInv.empty hi) hsrc (ev_sound hw hc hx hm2 ho)
      obtain ⟨hq1, base, hq2⟩ := ev_sound hw hc hs hm1 ho
      rw [hxx] at hq1 hq2
      by_cases hy : ys = []
      · subst hy
        have hrun : (Builtin.append_ #[t, t] o.type #[a.eval s, a.eval x]).run P w = .ok (a.eval s) w := by
          obtain ⟨news, hrl, hsrc⟩ := VRep.src (P := P) hS.und hv
          obtain ⟨i, z, i1, i2, i3, i4, i5⟩ := hS.info
          have hn0 : news = [] := hrl
          subst hn0
          have hl := hsrc.len w
          simp only [List.length_nil] at hl
          have hc' : (Builtin.firstCells T.size 0 (a.eval x)).run P w = .ok #[] w := hsrc.cells
          rw [hq2]
          rcases hsrc.kind with ⟨e', hk⟩ | hk
          · simp [Builtin.append_, run_underlying hS.und, sizeOf, typeInfo, i1, i4, hl, hc']
            cases base <;> simp [storeCells]
          · rw [hS.und] at hk; cases hk
        refine OpW.value hd (run_appendV hop hrun) ⟨_, S, rfl, Grow.refl hi, rfl, ?_⟩
        rw [hzs, List.append_nil]; exact hq1
      · have hyl : 0 < ys.length := List.length_pos_iff.2 hy
        obtain ⟨base', cap', q1, q2, q3, q4⟩ := VRep.slice hq1
        rw [hq2] at q1
        cases q1
        have hold : ∃ olds, RepL S w T xs olds ∧ (Builtin.firstCells T.size xs.length (.slice base xs.length xs.length)).run P w.drew = .ok olds.toArray w.drew := by
          rcases q4 with q4 | ⟨b, off, rfl, q4⟩
          · have : xs = [] := List.eq_nil_of_length_eq_zero q4
            rw [← hxx] at this; cases this
          · obtain ⟨cs, hr, hc⟩ := RepL.of (b := b) (off := off) (fun i x hx => by
              obtain ⟨es, he, hg⟩ := q4 i x hx
              exact ⟨es, he, fun j u hj => (hg j u hj).2⟩)
            refine ⟨cs, hr, run_firstCells_some _ _ _ _ _ _ cs hr.length (fun j u hj => ?_)⟩
            rw [Addr.add_lit]; exact hc j u hj
        obtain ⟨olds, hro, hold⟩ := hold
        obtain ⟨cap', cs, hrun, d1, d2, d3, d4, ns, hns, hc⟩ := run_append_grow (ty := o.type) hS hro hold hv (by omega) hb
        have hk : Keep S w (fun b o => S b o ∨ (b = w.heap.size ∧ o < cs.size)) (w.drew.alloc (.cells cs el)) := ⟨fun _ _ h => .inl h, fun b o h => by rw [World.cell?_alloc_lt _ _ _ (hi b o h)]; rfl⟩
        rw [← hq2] at hrun
        refine OpW.value hd (run_appendV hop hrun) ⟨_, fun b o => S b o ∨ (b = w.heap.size ∧ o < cs.size), rfl, ⟨((Below.refl _ _).drew).alloc (Nat.le_refl _) _, hk, ?_, ?_, (LK.drew _).trans (LK.alloc _ _)⟩, rfl, ?_⟩
        · intro b o h
          rcases h with h | ⟨rfl, _⟩
          · have := hi b o h; simp; omega
          · simp
        · intro b o h
          rcases h with h | ⟨rfl, _⟩
          · exact .inl h
          · exact .inr (Nat.le_refl _)
        · have hzl : xs.length + ys.length = zs.length := by rw [hzs, List.length_append]
          rw [← hzs] at hns
          rw [hzl] at d1 ⊢
          refine VRep.mkSlice (hns.keep hk) d1 d2 fun j u hj => ?_
          have hjl := (Array.getElem?_eq_some_iff.1 (hc j u hj)).1
          rw [Nat.zero_add]
          refine ⟨.inr ⟨rfl, hjl⟩, ?_⟩
          rw [World.cell?_alloc_at _ _ _ _ (by simp)]; exact hc j u hj
    · cases h
  · cases h
theorem opW_sound : OpF.Sound opW := by
  intro P Γ hΓ rd B o e ctx H nx R h hw hc r hr
  unfold opW at h
  split at h
  · rename_i c hop
    split at h
    · rename_i s x t t' hcal hxs hts
      have hce := call_eta hcal hxs hts
      subst hce
      split at h
      · rename_i ps px hs hx hb
        have := Nat.eq_of_beq_eq_true hb
        subst this
        exact appQ_ok hΓ hop hw hc hs hx h r hr
      · cases h
    · cases h
  · cases h
end
theorem opW_indep {Γ : Tabs} {H H' : PH} {nx : Nat} {e : Ev} {ctx : Ctx} {o : Oper} : opW Γ o e ctx H' nx = opW Γ o e ctx H nx := rfl
theorem opW_nice : opW.Nice := ⟨fun _ _ _ _ _ _ _ _ => rfl, fun _ _ _ _ _ _ _ h _ _ => h⟩
end Go.PE
/-
  The pure machine: conversions between kinds of integers, and of strings and integers to named types.
  Conditions: none; it holds over any program P.
-/
namespace Go.PE
open Go Go.RowKit Go.Abs
set_option linter.unusedVariables false
set_option linter.unusedSimpArgs false

def cvR (k : TK) (k' : TK) (a : PV) (H : PH) (nx : Nat) : Option RdR := match k, k', a with
  | .int _, .int k', .r (.c (.d (.int _) x)) => some (tot (.c (.d (.int k') (k'.wrap x))) H nx)
  | .str, .str, .r (.c (.d .str x)) => some (tot (.c (.d .str x)) H nx)
  | _, _, _ => none
def eqsM (x y : List UInt8) : Bool := decide (x = y)
def eqD : (t : Ty) → t.den → t.den → Option Bool
  | .int _, x, y => some (eqM x y)
  | .bool, x, y => some (eqbM x y)
  | .str, x, y => some (eqsM x y)
  | _, _, _ => none
def eqC (t : Ty) (c c' : CV) : Option Bool := match c, c' with
  | .d T x, .d T' y => match castT t (t' := T) x, castT t (t' := T') y with
    | some x, some y => eqD t x y
    | _, _ => none
  | _, _ => none
def eqCs : List Ty → List CV → List CV → Option Bool
  | [t], [c], [c'] => eqC t c c'
  | t :: ks, c :: r, c' :: r' => match eqC t c c', eqCs ks r r' with
    | some a, some b => some (andM a b)
    | _, _ => none
  | _, _, _ => none
def shR (op : BinOp) (k : IntKind) (x y : Int) (H : PH) (nx : Nat) : Option RdR := match op with
  | .shl => some (par (shlM k x y) 0 (fun v : Int => .c (.d (.int k) v)) H nx)
  | .shr => some (par (shrM k x y) 0 (fun v : Int => .c (.d (.int k) v)) H nx)
  | _ => none
def seR (Γ : Tabs) (op : BinOp) (t : TypeId) (l l' : List CV) (H : PH) (nx : Nat) : Option RdR := match lk Γ.eqs t with
  | some ks => match eqCs ks l l' with
    | some b => match op with
      | .eql => some (tot (.c (.d .bool b)) H nx)
      | .neq => some (tot (.c (.d .bool (notM b))) H nx)
      | _ => none
    | none => none
  | none => none
def op1 : OpF := fun Γ o e ctx H nx => match o.op with
  | .convert s d x => match lk Γ.ty s, lk Γ.ty d, ev e ctx x with
    | some ts, some td, some a => cvR ts.kind td.kind a H nx
    | _, _, _ => none
  | .binOp op t x y _ => match ev e ctx x, ev e ctx y with
    | some (.r (.c (.d (.int k) a))), some (.r (.c (.d (.int _) b))) => shR op k a b H nx
    | some (.r (.s l)), some (.r (.s l')) => seR Γ op t l l' H nx
    | _, _ => none
  | _ => none
section
variable {S : Cells} {w : World} {η : Eta}
theorem eqC_sound {t : Ty} {c c' : CV} {b : Bool} {v u : Value} (h : eqC t c c' = some b) (hv : CM S w η c v) (hu : CM S w η c' u) : kindV t v ∧ kindV t u ∧ eqV v u = b := by
  unfold eqC at h
  split at h
  · rename_i T x T' y
    split at h
    · rename_i x' y' hx hy
      obtain ⟨e1, e2⟩ := castT_some hx
      cases e1
      obtain ⟨e3, e4⟩ := castT_some hy
      cases e3
      have e2 : x = x' := e2
      have e4 : y = y' := e4
      subst e2 e4
      cases t with
      | int k =>
        cases h
        obtain ⟨rfl, _⟩ := VRep.int.1 hv.2
        obtain ⟨rfl, _⟩ := VRep.int.1 hu.2
        exact ⟨⟨_, rfl⟩, ⟨_, rfl⟩, rfl⟩
      | bool =>
        cases h
        have := VRep.bool.1 hv.2
        subst this
        have := VRep.bool.1 hu.2
        subst this
        exact ⟨⟨_, rfl⟩, ⟨_, rfl⟩, rfl⟩
      | str =>
        cases h
        obtain ⟨rfl, _⟩ := VRep.str.1 hv.2
        obtain ⟨rfl, _⟩ := VRep.str.1 hu.2
        exact ⟨⟨_, rfl⟩, ⟨_, rfl⟩, by simp [eqV, eqsM]⟩
      | list _ => cases h
      | one _ => cases h
      | pair _ _ => cases h
    · cases h
  · cases h
theorem eqCs_sound : ∀ {ks : List Ty} {l l' : List CV} {b : Bool} {vs us : List Value}, eqCs ks l l' = some b → All2 (CM S w η) l vs → All2 (CM S w η) l' us → All2 kindV ks vs ∧ All2 kindV ks us ∧ eqVs vs us = b
  | [], _, _, _, _, _, h, _, _ => by simp [eqCs] at h
  | [t], [], _, _, _, _, h, _, _ => by simp [eqCs] at h
  | [t], _ :: _, [], _, _, _, h, _, _ => by simp [eqCs] at h
  | [t], [c], [c'], b, _, _, h, .cons h1 .nil, .cons h2 .nil => by
    obtain ⟨k1, k2, k3⟩ := eqC_sound (t := t) h h1 h2
    exact ⟨.cons k1 .nil, .cons k2 .nil, k3⟩
  | [t], [c], _ :: _ :: _, _, _, _, h, _, _ => by
    unfold eqCs at h
    split at h
    · rename_i h'; simp [eqCs] at h'
    · cases h
  | [t], _ :: _ :: _, _ :: _, _, _, _, h, _, _ => by
    unfold eqCs at h
    split at h
    · rename_i h'; simp [eqCs] at h'
    · cases h
  | t :: k :: ks, [], _, _, _, _, h, _, _ => by simp [eqCs] at h
  | t :: k :: ks, _ :: _, [], _, _, _, h, _, _ => by simp [eqCs] at h
  | t :: k :: ks, c :: r, c' :: r', b, _, _, h, .cons h1 h2, .cons h3 h4 => by
    unfold eqCs at h
    split at h
    · rename_i a b' ha hb
      cases h
      obtain ⟨k1, k2, k3⟩ := eqC_sound ha h1 h3
      obtain ⟨g1, g2, g3⟩ := eqCs_sound hb h2 h4
      refine ⟨.cons k1 g1, .cons k2 g2, ?_⟩
      cases g1 with
      | cons p1 p2 =>
        cases g2 with
        | cons q1 q2 =>
          show (eqV _ _ && eqVs _ _) = andM a b'
          rw [k3, g3]; rfl
    · cases h
end
theorem op1_sound : OpF.Sound op1 := by
  intro P Γ hΓ rd B o e ctx H nx R h hw hc r hr
  unfold op1 at h
  split at h
  · rename_i s d x hop
    have hd : ∀ c, o.op ≠ .defer c := by rw [hop]; intro c hh; cases hh
    have hm : x ∈ o.op.operands.toList := by rw [hop]; simp [Op.operands]
    split at h
    · rename_i ts td a hs htd hx
      have ks := (hΓ.ty s ts hs).kind
      have kd := (hΓ.ty d td htd).kind
      unfold cvR at h
      split at h
      · rename_i k1 k2 k0 n e1 e2
        rw [e1] at ks
        rw [e2] at kd
        cases h
        refine ok_tot hd (fun S w η a' hi ho => ?_) r
        have hv := ev_sound hw hc hx hm ho
        obtain ⟨hv, hk⟩ := PM.int.1 hv
        exact ⟨.int k2 (k2.wrap n), by simp [execOp, hop, convert, ks w, kd w, hv, Conv.intToInt], PM.int.2 ⟨rfl, wrap_has _ _⟩⟩
      · rename_i xs e1 e2
        rw [e1] at ks
        rw [e2] at kd
        cases h
        refine ok_tot hd (fun S w η a' hi ho => ?_) r
        have hv := ev_sound hw hc hx hm ho
        obtain ⟨hv1, hk⟩ := VRep.str.1 hv.2
        exact ⟨a'.eval x, by simp [execOp, hop, convert, ks w, kd w, hv1], hv⟩
      · cases h
    · cases h
  · rename_i op t x y z hop
    have hd : ∀ c, o.op ≠ .defer c := by rw [hop]; intro c hh; cases hh
    have hm1 : x ∈ o.op.operands.toList := by rw [hop]; simp [Op.operands]
    have hm2 : y ∈ o.op.operands.toList := by rw [hop]; simp [Op.operands]
    split at h
    · rename_i k a k' b hx hy
      unfold shR at h
      split at h
      · cases h
        obtain ⟨r', hr'⟩ : ∃ r' : Int, r' = r := ⟨r, rfl⟩
        subst hr'
        refine ok_par hd fun S w η a' hi ho => ?_
        obtain ⟨hv1, hk1⟩ := PM.int.1 (ev_sound hw hc hx hm1 ho)
        obtain ⟨hv2, hk2⟩ := PM.int.1 (ev_sound hw hc hy hm2 ho)
        have hr2 : shlM k a b = some r' := hr
        unfold shlM at hr2
        split at hr2
        · cases hr2
        · rename_i h0
          have h0 := of_decide_eq_false h0
          cases hr2
          exact ⟨.int k (k.wrap (a * 2 ^ (min b.toNat k.bits))), by simp [execOp, hop, hv1, hv2, eqGuard, Go.binOp, Op.shift, h0], PM.int.2 ⟨rfl, wrap_has _ _⟩⟩
      · cases h
        obtain ⟨r', hr'⟩ : ∃ r' : Int, r' = r := ⟨r, rfl⟩
        subst hr'
        refine ok_par hd fun S w η a' hi ho => ?_
        obtain ⟨hv1, hk1⟩ := PM.int.1 (ev_sound hw hc hx hm1 ho)
        obtain ⟨hv2, hk2⟩ := PM.int.1 (ev_sound hw hc hy hm2 ho)
        have hr2 : shrM k a b = some r' := hr
        unfold shrM at hr2
        split at hr2
        · cases hr2
        · rename_i h0
          have h0 := of_decide_eq_false h0
          cases hr2
          exact ⟨.int k (a.fdiv (2 ^ (min b.toNat k.bits))), by simp [execOp, hop, hv1, hv2, eqGuard, Go.binOp, Op.shift, h0], PM.int.2 ⟨rfl, fdiv_has _ hk1⟩⟩
      · cases h
    · rename_i l l' hx hy
      unfold seR at h
      split at h
      · rename_i ks hks
        obtain ⟨hg, heq⟩ := hΓ.eqs t ks hks
        split at h
        · rename_i b hb
          have key : ∀ {S w η} {a' : Act}, En.Only (lk e) (opReads o) S w η a'.tmps → ∃ vs us : List Value, a'.eval x = .agg vs.toArray ∧ a'.eval y = .agg us.toArray ∧ (Op.equalIn 10000 t (.agg vs.toArray) (.agg us.toArray)).run P w = .ok b w := by
            intro S w η a' ho
            obtain ⟨vs, e1, q1⟩ := ev_sound hw hc hx hm1 ho
            obtain ⟨us, e2, q2⟩ := ev_sound hw hc hy hm2 ho
            obtain ⟨k1, k2, k3⟩ := eqCs_sound hb q1 q2
            refine ⟨vs, us, e1, e2, ?_⟩
            rw [heq vs us k1 k2 w, k3]
          split at h
          · cases h
            refine ok_tot hd (fun S w η a' hi ho => ?_) r
            obtain ⟨vs, us, e1, e2, e3⟩ := key ho
            refine ⟨.bool b, ?_, PM.bool.2 rfl⟩
            have e4 := run_eql_struct (P := P) w t vs.toArray us.toArray
            rw [e3] at e4
            simp [execOp, hop, e1, e2, run_eqGuard_agg w .eql t x y vs.toArray us.toArray hg, e4]
          · cases h
            refine ok_tot hd (fun S w η a' hi ho => ?_) r
            obtain ⟨vs, us, e1, e2, e3⟩ := key ho
            refine ⟨.bool (notM b), ?_, PM.bool.2 rfl⟩
            have e4 := run_neq_struct (P := P) w t vs.toArray us.toArray
            rw [e3] at e4
            simp [execOp, hop, e1, e2, run_eqGuard_agg w .neq t x y vs.toArray us.toArray hg, e4, notM]
          · cases h
        · cases h
      · cases h
    · cases h
  · cases h
theorem op1_indep {Γ : Tabs} {H H' : PH} {nx : Nat} {e : Ev} {ctx : Ctx} {o : Oper} : op1 Γ o e ctx H' nx = op1 Γ o e ctx H nx := rfl
theorem op1_nice : op1.Nice := ⟨fun _ _ _ _ _ _ _ _ => rfl, fun _ _ _ _ _ _ _ h _ _ => h⟩
end Go.PE
/-
  The pure machine: calls that change an owned array in place (sorting).
  Conditions: none; it holds over any program P.
-/
namespace Go.PE
open Go Go.RowKit Go.Abs
set_option linter.unusedVariables false
set_option linter.unusedSimpArgs false

def lkSo : List SoSpec → Nat → Nat → Option SoSpec
  | [], _, _ => none
  | s :: r, f, g => match Nat.beq s.f f && Nat.beq s.g g with
    | true => some s
    | false => lkSo r f g
theorem lkSo_some : ∀ {l : List SoSpec} {f g : Nat} {s : SoSpec}, lkSo l f g = some s → s ∈ l ∧ s.f = f ∧ s.g = g
  | [], _, _, _, h => by cases h
  | x :: r, f, g, s, h => by
    unfold lkSo at h
    split at h
    · rename_i hb
      cases h
      rw [Bool.and_eq_true] at hb
      exact ⟨List.mem_cons_self .., Nat.eq_of_beq_eq_true hb.1, Nat.eq_of_beq_eq_true hb.2⟩
    · obtain ⟨h1, h2⟩ := lkSo_some h
      exact ⟨List.mem_cons_of_mem _ h1, h2⟩
def soR (s : SoSpec) (id : Nat) (H : PH) (nx : Nat) : Option RdR := match lk H id with
  | some (.arr T xs) => match castT (.list s.t) (t' := .list T) xs with
    | some ys => some (wr (s.m ys) [] (fun _ => .t []) (fun zs => [(id, .arr s.t zs)]) nx)
    | none => none
  | _ => none
def op2 : OpF := fun Γ o e ctx H nx => match o.op with
  | .call c => match c.callee, c.args.toList with
    | .value f, [x, k] => match ev e ctx f, ev e ctx x, ev e ctx k with
      | some (.r (.c (.f fn [] []))), some (.r (.c (.h id))), some (.r (.c (.f g [] []))) => match lkSo Γ.so fn g with
        | some s => soR s id H nx
        | none => none
      | _, _, _ => none
    | _, _ => none
  | _ => none
theorem soR_fl {s : SoSpec} {id : Nat} {H : PH} {nx : Nat} {R : RdR} (h : soR s id H nx = some R) : R.fl = 2 := by
  unfold soR at h
  split at h
  · split at h
    · cases h; rfl
    · cases h
  · cases h
theorem op2_fl {Γ : Tabs} {o : Oper} {e : Ev} {ctx : Ctx} {H : PH} {nx : Nat} {R : RdR} (h : op2 Γ o e ctx H nx = some R) : R.fl ≠ 0 := by
  unfold op2 at h
  repeat' split at h
  all_goals first | (rw [soR_fl h]; decide) | cases h
theorem op2_sound : OpF.Sound op2 := by
  intro P Γ hΓ rd B o e ctx H nx R h hw hc r hr
  unfold op2 at h
  split at h
  · rename_i c hop
    split at h
    · rename_i f x k hcal hxs
      split at h
      · rename_i fn id g hf hx hk
        split at h
        · rename_i s hs
          obtain ⟨hmem, hsf, hsg⟩ := lkSo_some hs
          obtain ⟨hen, hsp⟩ := hΓ.so s hmem
          have hops : o.op.operands.toList = [f, x, k] := by simp [hop, Op.operands, Call.operands, hcal, hxs]
          unfold soR at h
          split at h
          · rename_i T xs hl
            split at h
            · rename_i ys hys
              cases h
              obtain ⟨hT, hyx⟩ := castT_some hys
              cases hT
              have hyx : xs = ys := hyx
              subst hyx
              obtain ⟨zs, hzs⟩ : ∃ zs : List s.t.den, zs = r := ⟨r, rfl⟩
              subst hzs
              intro S w η a hi hfree ho
              obtain ⟨vf1, vc1, e1, q1, q2⟩ := ev_sound hw hc hf (by rw [hops]; simp) ho
              obtain ⟨hu, hone⟩ := ev_sound hw hc hx (by rw [hops]; simp) ho
              obtain ⟨vf2, vc2, e2, q3, q4⟩ := ev_sound hw hc hk (by rw [hops]; simp) ho
              cases q1; cases q2; cases q3; cases q4
              have hargs : (c.args.map a.eval) = #[a.eval x, .func (.func g) #[] #[]] := by
                have : c.args = #[x, k] := by rw [← Array.toList_inj]; simpa using hxs
                rw [this]; simp [e2]
              have hex : (execOp a.eval o).run P w = .ok (.enter fn #[a.eval x, .func (.func g) #[] #[]]) w := by
                simp [execOp, hop, resolve, hcal, e1, Deferred.ofValue, invoke, hargs, ← hsf, hen]
              refine OpW.enter (by simp [hop]) hex ?_
              obtain ⟨hbase, hinw, F, hdis, hFi, hP⟩ := hi
              obtain ⟨u, hu1, hA⟩ := hP id _ hl
              have hue : u = a.eval x := by rw [hu1] at hu; exact Option.some.inj hu
              subst hue
              have hcall := hsp xs zs hr B S (F id) w (a.eval x) hbase hinw (hFi id) hA
              rw [hsf, hsg] at hcall
              have hcl : CallsIn (FR rd) 0 P fn #[a.eval x, .func (.func g) #[] #[]] w _ := callsIn_wide (n := 0) |>.2 hcall
              refine hcl.mono fun en w' ⟨he, g1, g2, g3, g4⟩ => ⟨.tuple #[], he, .tuple #[], S, η, rfl, g1, .refl _, Out.refl _ _ _, ⟨Nat.le_trans hbase g1.below.size, g1.lt, F, hdis, fun i b o hb => ⟨(hFi i b o hb).1, Nat.lt_of_lt_of_le (hFi i b o hb).2.1 g1.below.size, (hFi i b o hb).2.2⟩, fun i po hli => ?_⟩, ⟨[], rfl, .nil⟩⟩
              have hli : lk ((id, PO.arr s.t zs) :: H) i = some po := hli
              by_cases hid : i = id
              · subst hid
                rw [lk_same] at hli
                cases hli
                exact ⟨_, hu1, g2⟩
              · rw [lk_ne _ _ (Ne.symm hid)] at hli
                refine (hP i po hli).frame ⟨fun b o hb => g3 b o (hFi i b o hb).2.1 fun h => hdis i id hid b o hb h, fun b r0 hb hr0 => ?_⟩ g1.keep (.refl _)
                rw [g4 b (Array.getElem?_eq_some_iff.1 hr0).1 fun o h => hdis i id hid b o (hb o) h]
                exact hr0
            · cases h
          · cases h
        · cases h
      · cases h
    · cases h
  · cases h
def Tabs.addSo (Γ : Tabs) (s : SoSpec) : Tabs := { Γ with so := s :: Γ.so }
theorem TabOK.addSo {P : Program} {Γ : Tabs} (h : TabOK P Γ) {s : SoSpec} (hs : SortOK P s) : TabOK P (Γ.addSo s) :=
  ⟨h.ty, h.fn, h.sp, h.en, h.mixed, fun x hx => by
    rcases List.mem_cons.1 hx with rfl | hx
    · exact hs
    · exact h.so x hx, h.eqs⟩
theorem op2_nice : op2.Nice := by
  constructor
  · intro Γ o e ctx H H' nx h
    unfold op2
    split
    · rename_i c hop
      split
      · rename_i f x k hcal hxs
        split
        · rename_i fn id g hf hx hk
          split
          · rename_i s hs
            have hl : lk H' id = lk H id := h id ?_
            · unfold soR
              rw [hl]
            · have hops : o.op.operands.toList = [f, x, k] := by simp [hop, Op.operands, Call.operands, hcal, hxs]
              show id ∈ opdIds e ctx o.op.operands.toList
              rw [hops]
              simp only [opdIds, hf, hx, hk]
              simp [PV.ids, RV.ids, CV.ids]
          · rfl
        · rfl
      · rfl
    · rfl
  · intro Γ o e ctx H nx R h h0 H'
    exact absurd h0 (op2_fl h)
end Go.PE
/-
  The pure machine: all operations (2).
  Conditions: none; it holds over any program P.
-/
namespace Go.PE
open Go Go.RowKit Go.Abs
set_option linter.unusedVariables false
set_option linter.unusedSimpArgs false
theorem OpF.Nice.or' {F G : OpF} (hF : F.Nice) (hG : G.Nice) (hd : ∀ Γ o e ctx H nx R, G Γ o e ctx H nx = some R → R.fl = 0 → F Γ o e ctx H nx = none → ∀ H', F Γ o e ctx H' nx = none) : (F.or G).Nice := by
  constructor
  · intro Γ o e ctx H H' nx h
    unfold OpF.or
    rw [hF.loc _ _ _ _ _ _ _ h, hG.loc _ _ _ _ _ _ _ h]
  · intro Γ o e ctx H nx R h h0 H'
    unfold OpF.or at h ⊢
    split at h
    · rename_i R' h1
      cases h
      rw [hF.pure0 _ _ _ _ _ _ _ h1 h0 H']
    · rename_i h1
      rw [hd _ _ _ _ _ _ _ h h0 h1 H']
      exact hG.pure0 _ _ _ _ _ _ _ h h0 H'
section
variable {Γ : Tabs} {H H' : PH} {nx : Nat} {e : Ev} {ctx : Ctx} {o : Oper}
theorem appT_loc {t : TypeId} {pa pv : PV} (h : Ag pa.ids H H') (h2 : Ag pv.ids H H') : appT Γ t pa pv H' nx = appT Γ t pa pv H nx := by
  unfold appT
  generalize elOf Γ t = q
  cases q with
  | none => cases pa <;> first | rfl | (rename_i v; cases v <;> first | rfl | (rename_i x; cases x <;> rfl))
  | some p =>
    cases pa with
    | r v =>
      cases v with
      | c x =>
        cases x <;> first | rfl | skip
        rename_i id vid i
        have h1 : lk (fzP H' pv) id = lk (fzP H pv) id := (fzP_ag h2 h).one
        simp only [h1, srcOf_loc h2, dP_loc h2]
      | s l => rfl
    | _ => rfl
theorem stT_loc {t : TypeId} {pa pv : PV} (h : Ag pa.ids H H') (h2 : Ag pv.ids H H') : stT Γ t pa pv H' nx = stT Γ t pa pv H nx := by
  unfold stT
  generalize lk Γ.ty t = q
  split
  · rename_i id sz i k ti
    have h1 : lk H' id = lk H id := Ag.one h
    simp only [h1]
    split
    · rfl
    · rename_i j T xss vid _ _
      have h3 : lk H' j = lk H j := Ag.one h2
      simp only [h3]
    · rfl
  · rename_i id vid sz i j k ti
    split
    · rename_i v T' hT
      have h2 : Ag v.ids H H' := h2
      have h1 : lk (fzR H' v) id = lk (fzR H v) id := (fzR_ag (v := v) h2 h).one
      have h3 : conR (fzR H' v) T' v = conR (fzR H v) T' v := conR_loc (fzR_ag h2 h2)
      have h4 : dR H' v = dR H v := dR_loc h2
      simp only [h1, h3, h4]
    · rfl
  · rfl
theorem rdS_loc {T : Ty} {pv : PV} (h : Ag pv.ids H H') : rdS H' T pv = rdS H T pv := by
  unfold rdS
  cases pv with
  | r v =>
    cases v with
    | c x => cases x <;> first | rfl | (have h1 := Ag.one h; simp only [h1])
    | s l => rfl
  | _ => rfl
theorem copyR_loc {t : TypeId} {pa pv : PV} (h : Ag pa.ids H H') (h2 : Ag pv.ids H H') : copyR Γ t pa pv H' nx = copyR Γ t pa pv H nx := by
  unfold copyR
  generalize elOf Γ t = q
  cases q with
  | none => cases pa <;> first | rfl | (rename_i v; cases v <;> first | rfl | (rename_i x; cases x <;> rfl))
  | some p =>
    cases pa with
    | r v =>
      cases v with
      | c x =>
        cases x <;> first | rfl | skip
        have h1 := Ag.one h
        simp only [h1, rdS_loc h2]
      | s l => rfl
    | _ => rfl
theorem opU_fl {R : RdR} (h : opU Γ o e ctx H nx = some R) : R.fl ≠ 0 := by
  unfold opU at h
  split at h
  · split at h
    · unfold mkT at h; (repeat' split at h) <;> first | (cases h; exact Nat.succ_ne_zero _) | cases h
    · cases h
  · split at h
    · split at h
      · unfold appT at h; (repeat' split at h) <;> first | (cases h; exact Nat.succ_ne_zero _) | cases h
      · cases h
    · cases h
  · split at h
    · unfold stT at h; (repeat' split at h) <;> first | (cases h; exact Nat.succ_ne_zero _) | cases h
    · cases h
  · cases h
theorem opU_nice : opU.Nice := by
  constructor
  · intro Γ o e ctx H H' nx h
    unfold opU
    split
    · split <;> rfl
    · rename_i c hop
      split
      · rename_i s x t t' hcal ha ht
        split
        · rename_i ps px hs hx ht'
          obtain ⟨h1, h2⟩ := opIds2 (by rw [hop]; simp [Op.operands, Call.operands, hcal, ha]) hs hx h
          exact appT_loc h1 h2
        · rfl
      · rfl
    · rename_i t a x hop
      split
      · rename_i pa pv ha hx
        obtain ⟨h1, h2⟩ := opIds2 (by rw [hop]; simp [Op.operands]) ha hx h
        exact stT_loc h1 h2
      · rfl
    · rfl
  · intro Γ o e ctx H nx R h h0 H'
    exact absurd h0 (opU_fl h)
theorem opV_nice : opV.Nice := by
  constructor
  · intro Γ o e ctx H H' nx h
    unfold opV
    split
    · split <;> rfl
    · rename_i c hop
      split
      · rename_i s x t t' hcal ha ht
        split
        · rename_i ps px hs hx ht'
          obtain ⟨h1, h2⟩ := opIds2 (by rw [hop]; simp [Op.operands, Call.operands, hcal, ha]) hs hx h
          exact copyR_loc h1 h2
        · rfl
      · rfl
    · rfl
  · intro Γ o e ctx H nx R h h0 H'
    unfold opV at h ⊢
    split at h
    · split at h
      · exact h
      · cases h
    · split at h
      · split at h
        · unfold copyR at h
          (repeat' split at h) <;> first | (cases h; cases h0) | cases h
        · cases h
      · cases h
    · cases h
/-- What OPS1 makes of a call of a builtin that opU or opV may take, or of a store or make, is not pure. -/
theorem OPS1_builtin {c : Call} {b : Builtin} {R : RdR} (hb : b = .append ∨ b = .copy) (hop : o.op = .call c) (hc : c.callee = .builtin b) (h : OPS1 Γ o e ctx H nx = some R) : R.fl ≠ 0 := by
  unfold OPS1 opAll OpF.or at h
  split at h
  · rename_i R1 h1
    cases h
    split at h1
    · rename_i R2 h2
      cases h1
      split at h2
      · rename_i R3 h3
        cases h2
        unfold OpF.calm at h3
        split at h3
        · rename_i R4 h4
          unfold opA at h4
          simp only [hop, hc] at h4
          unfold bltA at h4
          rcases hb with rfl | rfl <;> cases h4
        · cases h3
      · exact opH1_fl h2
    · unfold opC at h1
      simp only [hop, hc] at h1
      cases h1
  · unfold opD at h
    simp only [hop] at h
    cases h
theorem OPS1_mk {t : TypeId} {x y : Operand} {R : RdR} (hop : o.op = .makeSlice t x y) (h : OPS1 Γ o e ctx H nx = some R) : R.fl ≠ 0 := by
  unfold OPS1 opAll OpF.or at h
  split at h
  · rename_i R1 h1
    cases h
    split at h1
    · rename_i R2 h2
      cases h1
      split at h2
      · rename_i R3 h3
        cases h2
        unfold OpF.calm opA at h3
        simp only [hop] at h3
        cases h3
      · exact opH1_fl h2
    · unfold opC at h1
      simp only [hop] at h1
      cases h1
  · unfold opD at h
    simp only [hop] at h
    cases h
theorem OPS1_store {t : TypeId} {x y : Operand} {R : RdR} (hop : o.op = .store t x y) (h : OPS1 Γ o e ctx H nx = some R) : R.fl ≠ 0 := by
  unfold OPS1 opAll OpF.or at h
  split at h
  · rename_i R1 h1
    cases h
    split at h1
    · rename_i R2 h2
      cases h1
      split at h2
      · rename_i R3 h3
        cases h2
        unfold OpF.calm opA at h3
        simp only [hop] at h3
        cases h3
      · exact opH1_fl h2
    · unfold opC at h1
      simp only [hop] at h1
      cases h1
  · unfold opD at h
    simp only [hop] at h
    cases h
def OPS2 : OpF := (opU.or opV).or OPS1
theorem OPS2_sound : OPS2.Sound := (opU_sound.or opV_sound).or OPS1_sound
theorem OPS2_nice : OPS2.Nice := by
  refine (opU_nice.or' opV_nice fun Γ o e ctx H nx R h h0 hn H' => ?_).or' OPS1_nice fun Γ o e ctx H nx R h h0 hn H' => ?_
  · unfold opV at h
    unfold opU
    split at h
    · rename_i x hop; simp only [hop]
    · rename_i c hop
      simp only [hop]
      split at h
      · rename_i hcal ha ht
        simp only [hcal]
      · cases h
    · cases h
  · unfold OpF.or opU opV at hn ⊢
    split
    · rename_i R' h1
      split at h1
      · rename_i hop; exact absurd h0 (OPS1_mk hop h)
      · rename_i c hop
        split at h1
        · rename_i hcal ha ht; exact absurd h0 (OPS1_builtin (.inl rfl) hop hcal h)
        · cases h1
      · rename_i hop; exact absurd h0 (OPS1_store hop h)
      · cases h1
    · rename_i h1
      split
      · rename_i x hop
        simp only [hop] at hn
        exact hn
      · rename_i c hop
        split
        · rename_i hcal ha ht; exact absurd h0 (OPS1_builtin (.inr rfl) hop hcal h)
        · rfl
      · rfl
/-- Operations that look at no object come first. -/
def OPSw : OpF := opW.or OPS2
theorem OPSw_sound : OPSw.Sound := opW_sound.or OPS2_sound
theorem OPSw_nice : OPSw.Nice := opW_nice.or' OPS2_nice fun Γ o e ctx H nx R h h0 hn H' => (by rw [opW_indep]; exact hn)
def OPSc : OpF := op1.or OPSw
theorem OPSc_sound : OPSc.Sound := op1_sound.or OPSw_sound
theorem OPSc_nice : OPSc.Nice := op1_nice.or' OPSw_nice fun Γ o e ctx H nx R h h0 hn H' => (by rw [op1_indep]; exact hn)
def OPS : OpF := OPSc.or op2
theorem OPS_sound : OPS.Sound := OPSc_sound.or op2_sound
theorem OPS_nice : OPS.Nice := OPSc_nice.or' op2_nice fun Γ o e ctx H nx R h h0 hn H' => absurd h0 (op2_fl h)
end
/-- Without the contracts of some functions: these are run. -/
def dropK {α : Type} (l : List Nat) : List (Nat × α) → List (Nat × α)
  | [] => []
  | (k, v) :: r => match memN l k with
    | true => dropK l r
    | false => (k, v) :: dropK l r
theorem lk_dropK {α : Type} {l : List Nat} {i : Nat} {x : α} : ∀ {sp : List (Nat × α)}, lk (dropK l sp) i = some x → lk sp i = some x
  | [], h => h
  | (k, v) :: r, h => by
    unfold dropK at h
    by_cases hk : k = i
    · subst hk
      cases hm : memN l k with
      | true =>
        rw [hm] at h
        -- it has been dropped
        have : ∀ {sp : List (Nat × α)}, lk (dropK l sp) k = none := by
          intro sp
          induction sp with
          | nil => rfl
          | cons y ys ih =>
            obtain ⟨j, u⟩ := y
            unfold dropK
            cases hj : memN l j with
            | true => exact ih
            | false =>
              show lk ((j, u) :: dropK l ys) k = none
              rw [lk_ne _ _ (fun he => by rw [he, hm] at hj; cases hj)]
              exact ih
        rw [this] at h; cases h
      | false => rw [hm] at h; rw [lk_same] at h ⊢; exact h
    · rw [lk_ne _ _ hk]
      cases hm : memN l k with
      | true => rw [hm] at h; exact lk_dropK h
      | false =>
        rw [hm] at h
        have h : lk ((k, v) :: dropK l r) i = some x := h
        rw [lk_ne _ _ hk] at h
        exact lk_dropK h
def Tabs.drop (Γ : Tabs) (l : List Nat) : Tabs := { Γ with sp := dropK l Γ.sp }
theorem TabOK.drop {P : Program} {Γ : Tabs} (h : TabOK P Γ) (l : List Nat) : TabOK P (Γ.drop l) :=
  ⟨h.ty, h.fn, fun f s hl => h.sp f s (lk_dropK hl), fun f s hl => h.en f s (lk_dropK hl), h.mixed, h.so, h.eqs⟩
end Go.PE
/-
  From a contract of the pure machine to a given statement: arguments read as data; a law that is true of all data.
  Conditions: none; it holds over any program P.
-/
namespace Go.PE
open Go Go.RowKit Go.Abs Go.ChangeShapes Go.WideShapes Go.ChangeAt
set_option linter.unusedVariables false
set_option linter.unusedSimpArgs false

mutual
/-- The type t holds data of the shape T. -/
inductive TyP (P : Program) : TypeId → Ty → Prop where
  | int {t k} : P.underlying t = some (.int k) → TyP P t (.int k)
  | bool {t} : P.underlying t = some .bool → TyP P t .bool
  | str {t} : P.underlying t = some .string → TyP P t .str
  | list {t e T} : P.underlying t = some (.slice e) → P.cellsOf e = T.size → TyP P e T → TyP P t (.list T)
  | struct1 {t fs T} : P.underlying t = some (.struct fs) → P.cellsOf t = T.size → FsP P (fs.toList.map fun f => (f.offset, f.type)) 0 T → fs.size = 1 → TyP P t (.one T)
  | struct {t fs A B} : P.underlying t = some (.struct fs) → P.cellsOf t = A.size + B.size → FsP P (fs.toList.map fun f => (f.offset, f.type)) 0 (.pair A B) → TyP P t (.pair A B)
  | array1 {t e T} : P.underlying t = some (.array 1 e) → P.cellsOf t = T.size → FsP P [(0, e)] 0 T → TyP P t (.one T)
  | array {t n e A B} : P.underlying t = some (.array n e) → P.cellsOf t = A.size + B.size → FsP P ((List.range n).map fun i => (i * P.cellsOf e, e)) 0 (.pair A B) → TyP P t (.pair A B)
/-- The fields have, one after the other, the shape T. -/
inductive FsP (P : Program) : List (Nat × TypeId) → Nat → Ty → Prop where
  | last {off t T} : P.cellsOf t = T.size → TyP P t T → FsP P [(off, t)] off T
  | cons {off t A B l} : P.cellsOf t = A.size → TyP P t A → FsP P l (off + A.size) B → FsP P ((off, t) :: l) off (.pair A B)
end
def InWd (w : World) : Cells := fun b _ => b < w.heap.size
theorem exists_list {α : Type} {p : Nat → α → Prop} : ∀ (n : Nat), (∀ i, i < n → ∃ y, p i y) → ∃ ys : List α, ys.length = n ∧ ∀ i y, ys[i]? = some y → p i y
  | 0, _ => ⟨[], rfl, fun i y h => by simp at h⟩
  | n + 1, h => by
    obtain ⟨ys, h1, h2⟩ := exists_list n fun i hi => h i (by omega)
    obtain ⟨y, hy⟩ := h n (by omega)
    refine ⟨ys ++ [y], by simp [h1], fun i z hz => ?_⟩
    by_cases hi : i < ys.length
    · rw [List.getElem?_append_left hi] at hz; exact h2 i z hz
    · rw [List.getElem?_append_right (by omega)] at hz
      have : i - ys.length = 0 := by
        have := (List.getElem?_eq_some_iff.1 hz).1
        simp at this; omega
      rw [this] at hz
      simp at hz
      subst hz
      rw [show i = n by omega]; exact hy
section
variable {H : Type} {enc : TypeId × Value → H} {P : Program} {w : World} {base : Nat} {spare : Nat → Bool} {held : Bool}
theorem cells?_get {a : Addr} {n : Nat} {cs : List Value} (h : w.cells? base a n = some cs) : cs.length = n ∧ ∀ j u, cs[j]? = some u → w.cell? (a.add j) = some u := by
  obtain ⟨_, h1, h2⟩ := World.cells?_some h
  refine ⟨h1, fun j u hj => ?_⟩
  have hl := (List.getElem?_eq_some_iff.1 hj).1
  rw [h2 j (by omega)]; exact hj
theorem trod_rep : ∀ (fuel : Nat) {t : TypeId} {T : Ty} {cs : List Value} {x : DataW H × List MemPlace}, TyP P t T → DataW.trod enc P w base spare held fuel t cs = some x → ∃ y : T.den, Rep (InWd w) w T y cs := by
  intro fuel
  induction fuel with
  | zero => intro t T cs x _ h; simp [DataW.trod] at h
  | succ n ih =>
    -- fields
    have fields : ∀ {l : List (Nat × TypeId)} {off : Nat} {T : Ty} {cs : List Value}, FsP P l off T → off + T.size ≤ cs.length → (∀ (i : Nat) p, l[i]? = some p → ∃ x, DataW.trod enc P w base spare held n p.2 ((cs.drop p.1).take (P.cellsOf p.2)) = some x) →
        ∃ y : T.den, Rep (InWd w) w T y ((cs.drop off).take T.size) := by
      intro l
      induction l with
      | nil => intro off T cs h; cases h
      | cons p l ihl =>
        intro off T cs h hlen ht
        cases h with
        | last hc hty =>
          obtain ⟨x, hx⟩ := ht 0 _ rfl
          rw [← hc]
          exact ih hty hx
        | @cons _ t A B _ hc hty hr =>
          obtain ⟨x, hx⟩ := ht 0 _ rfl
          rw [hc] at hx
          obtain ⟨y1, h1⟩ := ih hty hx
          have hsz : (Ty.pair A B).size = A.size + B.size := rfl
          rw [hsz] at hlen
          obtain ⟨y2, h2⟩ := ihl hr (by omega) fun i p hp => ht (i + 1) p (by simpa using hp)
          refine ⟨(y1, y2), _, _, ?_, h1, h2⟩
          rw [hsz]
          rw [List.take_add, List.drop_drop]
    intro t T cs x hT h
    cases hT with
    | int hu =>
      obtain ⟨m, rfl, _, hw⟩ := DataW.trod_int hu h
      refine ⟨m, rfl, ?_⟩
      simp [Lit.wf] at hw
      exact hw
    | bool hu => obtain ⟨b, rfl, _⟩ := DataW.trod_bool hu h; exact ⟨b, rfl⟩
    | str hu =>
      obtain ⟨s, rfl, _, hs⟩ := DataW.trod_string hu h
      exact ⟨s.data.toList, by simp, by simpa using hs⟩
    | @list _ e T hu hc hty =>
      rcases DataW.trod_slice hu h with ⟨rfl, _⟩ | ⟨a, len, cap, elems, rest, m, hm, rfl, _, _, h1, h2, h3, h4, _⟩
      · exact ⟨[], none, 0, rfl, Nat.le_refl _, Nat.zero_le _, .inl rfl⟩
      · cases hm
        rw [hc] at h4
        have hex : ∀ i, i < len → ∃ y : T.den, ∃ es, Rep (InWd w) w T y es ∧ ∀ j u, es[j]? = some u → w.cell? ((a.add (i * T.size)).add j) = some u := by
          intro i hi
          have h5 := h4 i hi
          rw [List.getElem?_eq_getElem (by omega)] at h5
          obtain ⟨es, h6, h7⟩ := Option.bind_eq_some_iff.1 h5
          obtain ⟨y, hy⟩ := ih hty h7
          exact ⟨y, es, hy, (cells?_get h6).2⟩
        obtain ⟨ys, hl, hys⟩ := exists_list len hex
        refine ⟨ys, some a, cap, by rw [hl], by rw [hl]; exact h1, h2, ?_⟩
        by_cases h0 : len = 0
        · left; show List.length ys = 0; omega
        · right
          have hsp : a.spot = none := by
            obtain ⟨y, es, hr, hg⟩ := hex 0 (by omega)
            have hel := hr.length
            have hpos := T.size_pos
            have := hg 0 _ (List.getElem?_eq_getElem (by omega))
            unfold World.cell? at this
            split at this
            · split at this
              · cases this
              · rename_i hs
                simpa [Addr.add] using hs
            · cases this
          obtain ⟨b, off, sp⟩ := a
          simp only at hsp
          subst hsp
          refine ⟨b, off, rfl, fun i y hy => ?_⟩
          obtain ⟨es, hr, hg⟩ := hys i y hy
          refine ⟨es, hr, fun j u hj => ?_⟩
          have h5 := hg j u hj
          rw [Addr.add_lit, Addr.add_lit] at h5
          exact ⟨World.block_lt_of_cell? _ _ h5, h5⟩
    | @struct1 _ fs T hu hc hf h1 =>
      obtain ⟨xs, m, hm, _, hl, hxl, hx⟩ := DataW.trod_struct hu h
      cases hm
      obtain ⟨y, hy⟩ := fields hf (by rw [hl, hc]; omega) fun i p hp => by
        simp only [List.getElem?_map, Option.map_eq_some_iff] at hp
        obtain ⟨f, hf1, rfl⟩ := hp
        have hil : i < xs.length := by rw [hxl]; simpa using (List.getElem?_eq_some_iff.1 hf1).1
        exact ⟨xs[i], by rw [← List.getElem?_eq_getElem hil]; exact hx i f (by simpa using hf1)⟩
      rw [List.drop_zero, List.take_of_length_le (by omega)] at hy
      exact ⟨y, hy⟩
    | @struct _ fs A B hu hc hf =>
      obtain ⟨xs, m, hm, _, hl, hxl, hx⟩ := DataW.trod_struct hu h
      cases hm
      have hsz : (Ty.pair A B).size = A.size + B.size := rfl
      obtain ⟨y, hy⟩ := fields hf (by rw [hl, hc, hsz]; omega) fun i p hp => by
        simp only [List.getElem?_map, Option.map_eq_some_iff] at hp
        obtain ⟨f, hf1, rfl⟩ := hp
        have hil : i < xs.length := by rw [hxl]; simpa using (List.getElem?_eq_some_iff.1 hf1).1
        exact ⟨xs[i], by rw [← List.getElem?_eq_getElem hil]; exact hx i f (by simpa using hf1)⟩
      rw [List.drop_zero, List.take_of_length_le (by rw [hl, hc, hsz]; omega)] at hy
      exact ⟨y, hy⟩
    | @array1 _ e T hu hc hf =>
      obtain ⟨xs, m, hm, _, hl, hxl, hx⟩ := DataW.trod_array hu h
      cases hm
      obtain ⟨y, hy⟩ := fields hf (by rw [hl, hc]; omega) fun i p hp => by
        have hi0 : i = 0 := by have := (List.getElem?_eq_some_iff.1 hp).1; simp at this; exact this
        subst hi0
        simp at hp
        subst hp
        have := hx 0 (by omega)
        rw [Nat.zero_mul] at this
        exact ⟨xs[0], by rw [← List.getElem?_eq_getElem (by omega)]; exact this⟩
      rw [List.drop_zero, List.take_of_length_le (by omega)] at hy
      exact ⟨y, hy⟩
    | @array _ k e A B hu hc hf =>
      obtain ⟨xs, m, hm, _, hl, hxl, hx⟩ := DataW.trod_array hu h
      cases hm
      have hsz : (Ty.pair A B).size = A.size + B.size := rfl
      obtain ⟨y, hy⟩ := fields hf (by rw [hl, hc, hsz]; omega) fun i p hp => by
        simp only [List.getElem?_map, Option.map_eq_some_iff] at hp
        obtain ⟨j, hj, rfl⟩ := hp
        have hjl : i < k := by have := (List.getElem?_eq_some_iff.1 hj).1; simpa using this
        have hji : j = i := by rw [List.getElem?_range hjl] at hj; cases hj; rfl
        subst hji
        exact ⟨xs[j], by rw [← List.getElem?_eq_getElem (by omega)]; exact hx j hjl⟩
      rw [List.drop_zero, List.take_of_length_le (by rw [hl, hc, hsz]; omega)] at hy
      exact ⟨y, hy⟩

theorem TyP.agg : ∀ {t : TypeId} {T : Ty} {v : Value} {r : Reach} {b0 : Nat} {x : T.den}, TyP P t T → Value.okWide P w r b0 t v → Rep (InWd w) w T x v.cells.toList → VRep (InWd w) w T x v := by
  intro t T v r b0 x hT hok hr
  refine ⟨_, hr, ?_⟩
  cases hT with
  | int hu => obtain ⟨n, rfl⟩ := okWide_int hu hok; rfl
  | bool hu => obtain ⟨n, rfl⟩ := okWide_bool hu hok; rfl
  | str hu => obtain ⟨n, rfl⟩ := okWide_string hu hok; rfl
  | list hu _ _ => obtain ⟨a, l, c, rfl⟩ := okWide_slice hu hok; rfl
  | struct1 hu _ _ _ => simp only [Value.okWide, hu] at hok; obtain ⟨cs, rfl, _⟩ := hok; simp [Ty.wrap, Ty.agg, Value.cells]
  | struct hu _ _ => simp only [Value.okWide, hu] at hok; obtain ⟨cs, rfl, _⟩ := hok; simp [Ty.wrap, Ty.agg, Value.cells]
  | array1 hu _ _ => simp only [Value.okWide, hu] at hok; obtain ⟨cs, rfl, _⟩ := hok; simp [Ty.wrap, Ty.agg, Value.cells]
  | array hu _ _ => simp only [Value.okWide, hu] at hok; obtain ⟨cs, rfl, _⟩ := hok; simp [Ty.wrap, Ty.agg, Value.cells]

/-- The parameters' types. -/
inductive TysP (P : Program) : List TypeId → List Ty → Prop where
  | nil : TysP P [] []
  | cons {t T ts Ts} : P.readableRec t = true → t < P.types.size → TyP P t T → TysP P ts Ts → TysP P (t :: ts) (T :: Ts)
theorem args_data {η : Eta} {r : Reach} {b0 : Nat} : ∀ {ts : List TypeId} {Ts : List Ty} {vs : List Value} {ds : List (DataW H)} {ps : List MemPlace}, TysP P ts Ts → DataW.TrodAll enc P w base spare held ts vs ds ps → (∀ (j : Nat) t v, ts[j]? = some t → vs[j]? = some v → Value.okWide P w r b0 t v) →
    ∃ x : Tup (Ts.map .d), All2 (RM (InWd w) w η) (rvs Ts x) vs
  | _, _, vs, ds, ps, .nil, h, _ => by
    obtain ⟨rfl, _, _⟩ := trodAll_nil h
    exact ⟨(), .nil⟩
  | _, _, vs, ds, ps, .cons (t := t) (T := T) (ts := ts) (Ts := Ts) h1 h2 h3 h4, h, hok => by
    obtain ⟨v, vs', d, ds', p, q, rfl, rfl, rfl, ⟨n, hn⟩, hr⟩ := trodAll_cons h
    obtain ⟨y, hy⟩ := trod_rep n h3 hn
    have hv : RM (InWd w) w η (T.rv y) v := VRep.rm (h3.agg (hok 0 t v rfl rfl) hy)
    obtain ⟨x, hx⟩ := args_data (η := η) h4 hr fun j t v h1 h2 => hok (j + 1) t v (by simpa using h1) (by simpa using h2)
    cases Ts with
    | nil => exact ⟨y, by cases hx; exact .cons hv .nil⟩
    | cons U Us => exact ⟨(y, x), .cons hv hx⟩
theorem args_back (hl : laidOutB P = true) {w' : World} (hb : Below w.heap.size w w') {sp : Nat → Bool} : ∀ {ts : List TypeId} {Ts : List Ty} {vs : List Value} {ds : List (DataW H)} {ps : List MemPlace}, TysP P ts Ts → DataW.TrodAll enc P w 0 (fun _ => true) true ts vs ds ps → (∀ x ∈ ps, x.block < w.heap.size) → (∀ x ∈ ps, sp x.block = true) →
    DataW.TrodAll enc P w' 0 sp true ts vs ds ps
  | _, _, vs, ds, ps, .nil, h, _, _ => by
    obtain ⟨rfl, rfl, rfl⟩ := trodAll_nil h
    exact rfl
  | _, _, vs, ds, ps, .cons h1 h2 h3 h4, h, hlt, hsp => by
    obtain ⟨v, vs', d, ds', p, q, rfl, rfl, rfl, hd, hr⟩ := trodAll_cons h
    have hd' := WideElems.Trod_stays hl h1 h2 (sp' := sp) hd (fun x hx => hb.same (hlt x (by simp [hx]))) fun x hx => hsp x (by simp [hx])
    exact ⟨p, q, hd', args_back hl hb h4 hr (fun x hx => hlt x (by simp [hx])) fun x hx => hsp x (by simp [hx]), rfl⟩
end

/-- A law that is true of all data holds of the program. -/
theorem law_contract {P : Program} (hl : laidOutB P = true) {f : FuncId} {fn : Func} {s : ChangeSpec} {args : List Ty} {m : Tup (args.map .d) → Option Bool} (hspec : SpecOK P f ⟨args, [.bool], m⟩) {ts : List TypeId} (hts : fn.params.toList = ts) (hT : TysP P ts args) {tb : TypeId} (hrt : fn.resultTypes = #[tb]) (htb : P.underlying tb = some .bool)
    (hvars : s.vars = []) (hfn : ∀ (H : Type) (ds : List (DataW H)), ds.length = args.length → (s.fn H ds).results = [.lit (.bool true)] ∧ (s.fn H ds).args = ds ∧ (s.fn H ds).vars = [])
    (hm : ∀ (S : Cells) (w : World) (η : Eta) (vs : List Value) x, All2 (RM S w η) (rvs args x) vs → m x = some true)
    {H : Type} {enc : TypeId × Value → H} {W : World} {base : Nat} {av : Array Value} {ds gs : List (DataW H)} {before : List MemPlace}
    (hval : ∀ (j : Nat) t v, fn.params[j]? = some t → av[j]? = some v → Value.okWide P W .any base t v) (hW : DataW.Whole enc P fn.params.toList s.vars false W av.toList ds gs before) :
    Calls P f av W fun e W' => ∃ v, e = .returned v ∧ s.post enc P fn false true false false W av v W' := by
  have hW0 := hW
  obtain ⟨p, q, hA, hV, rfl, hfz, _⟩ := hW
  rw [hvars] at hV
  obtain ⟨rfl, rfl⟩ := trodVars_none hV
  rw [List.append_nil] at *
  rw [hts] at hA
  have hlt : ∀ x ∈ p, x.block < W.heap.size := fun x hx => by simpa using hW0.lt x hx
  obtain ⟨x, hx⟩ := args_data (η := fun _ => none) (r := .any) (b0 := base) hT hA fun j t v h1 h2 => hval j t v (by rw [← hts] at h1; simpa using h1) (by simpa using h2)
  have hc := hspec x true (hm _ _ _ _ x hx) (InWd W) W (fun _ => none) av.toList (fun b o h => h) hx
  have hav : av.toList.toArray = av := by simp
  rw [hav] at hc
  refine hc.mono fun e W' ⟨v, S', he, hg, hp⟩ => ⟨v, he, ?_⟩
  have hvb : v = .bool true := VRep.bool.1 hp.2
  subst hvb
  have hb := hg.below
  have hlen : ds.length = args.length := by
    have h1 : ∀ {ts : List TypeId} {Ts : List Ty} {vs : List Value} {ds : List (DataW H)} {ps : List MemPlace}, TysP P ts Ts → DataW.TrodAll enc P W 0 (fun _ => true) true ts vs ds ps → ds.length = Ts.length := by
      intro ts Ts vs ds ps hT
      induction hT generalizing vs ds ps with
      | nil => intro h; obtain ⟨_, rfl, _⟩ := trodAll_nil h; rfl
      | cons _ _ _ _ ih => intro h; obtain ⟨_, _, _, _, _, _, rfl, rfl, rfl, _, hr⟩ := trodAll_cons h; simp [ih hr]
    exact h1 hT hA
  obtain ⟨f1, f2, f3⟩ := hfn H (ds ++ []) (by simpa using hlen)
  have hargs : ∀ sp : Nat → Bool, (∀ y ∈ p, sp y.block = true) → DataW.TrodAll enc P W' 0 sp true fn.params.toList av.toList (s.fn H (ds ++ [])).args p := fun sp hsp => by
    rw [f2, List.append_nil, hts]
    exact args_back hl hb hT hA hlt hsp
  have hres : ∀ (b : Nat) (sp : Nat → Bool) (hd : Bool), DataW.TrodAll enc P W' b sp hd fn.resultTypes.toList ((Value.bool true).resultList fn.resultTypes.size) (s.fn H (ds ++ [])).results [] := fun b sp hd => by
    rw [f1, hrt]
    exact trodAll_cons_mk (shut_bool htb _) trodAll_mk0
  have hvv : ∀ sp : Nat → Bool, DataW.TrodVars enc P W' sp s.vars (s.fn H (ds ++ [])).vars [] := fun sp => by rw [f3, hvars]; rfl
  have hold : ∀ y ∈ p, (fun b => decide (b < W.heap.size)) y.block = true := fun y hy => by simpa using hlt y hy
  refine ⟨ds, [], p, [], p, [], hW0, hres _ _ _, hargs _ hold, hvv _, World.keptBut_mono (fun y hy => ⟨hy, ?_⟩) (hb.frame (· ∈ p)), fun _ => ?_⟩
  · simpa using hy
  · refine ⟨ok_one hrt rfl (okWide_bool_mk htb _), _, _, ([] ++ p) ++ [], ⟨[] ++ p, [], trodAll_append (hargs _ (fun _ _ => rfl)) (hres _ _ _), hvv _, rfl, ?_, ?_⟩, ?_⟩
    · intro b off hpm
      have hpm : MemPlace.cell b off ∈ p := by simpa using hpm
      have hlt' := hlt _ hpm
      rw [hb.frozen (p := ⟨b, off, none⟩) hlt']
      exact hfz b off hpm
    · intro h; cases h
    · intro y hy _
      simpa using hy
end Go.PE
/-
  The parameters of the laws of this seat, as data; written by a program (gen_law.py). No conditions.
-/
namespace Go.Proofs.Ytblachgndbmhaaa
open Go Go.Abs Go.PE Go.RowKit Go.ChangeShapes Go.WideShapes Go.ChangeAt Go.Proofs
set_option maxRecDepth 100000
theorem tyP3 : TyP Try.prog 3 (.int .i64) := .int Try.underlying3
theorem tyP22 : TyP Try.prog 22 (.list (.int .i64)) := .list Try.underlying22 (by kernel_rfl) tyP3
theorem tyP24 : TyP Try.prog 24 (.pair (.int .i64) (.list (.int .i64))) := .struct Try.underlying24 (by kernel_rfl) (show FsP Try.prog [(0, 3), (1, 22)] 0 (.pair (.int .i64) (.list (.int .i64))) from .cons (by kernel_rfl) tyP3 (.last (by kernel_rfl) tyP22))
theorem tyP63 : TyP Try.prog 63 (.pair (.int .i64) (.int .i64)) := .array Try.underlying63 (by kernel_rfl) (show FsP Try.prog [(0, 3), (1, 3)] 0 (.pair (.int .i64) (.int .i64)) from .cons (by kernel_rfl) tyP3 (.last (by kernel_rfl) tyP3))
theorem tyP25 : TyP Try.prog 25 (.list (.pair (.int .i64) (.int .i64))) := .list Try.underlying25 (by kernel_rfl) tyP63
theorem tyP4 : TyP Try.prog 4 (.bool) := .bool Try.underlying4
theorem tys3 : TysP Try.prog [24, 22, 3, 22, 22, 3, 3, 25, 3, 3, 3, 4] [(.pair (.int .i64) (.list (.int .i64))), (.list (.int .i64)), (.int .i64), (.list (.int .i64)), (.list (.int .i64)), (.int .i64), (.int .i64), (.list (.pair (.int .i64) (.int .i64))), (.int .i64), (.int .i64), (.int .i64), (.bool)] := .cons (by kernel_rfl) (of_decide_eq_true (by kernel_rfl)) tyP24 (.cons (by kernel_rfl) (of_decide_eq_true (by kernel_rfl)) tyP22 (.cons (by kernel_rfl) (of_decide_eq_true (by kernel_rfl)) tyP3 (.cons (by kernel_rfl) (of_decide_eq_true (by kernel_rfl)) tyP22 (.cons (by kernel_rfl) (of_decide_eq_true (by kernel_rfl)) tyP22 (.cons (by kernel_rfl) (of_decide_eq_true (by kernel_rfl)) tyP3 (.cons (by kernel_rfl) (of_decide_eq_true (by kernel_rfl)) tyP3 (.cons (by kernel_rfl) (of_decide_eq_true (by kernel_rfl)) tyP25 (.cons (by kernel_rfl) (of_decide_eq_true (by kernel_rfl)) tyP3 (.cons (by kernel_rfl) (of_decide_eq_true (by kernel_rfl)) tyP3 (.cons (by kernel_rfl) (of_decide_eq_true (by kernel_rfl)) tyP3 (.cons (by kernel_rfl) (of_decide_eq_true (by kernel_rfl)) tyP4 (.nil))))))))))))
theorem tys4 : TysP Try.prog [3, 22, 3, 3, 25, 3] [(.int .i64), (.list (.int .i64)), (.int .i64), (.int .i64), (.list (.pair (.int .i64) (.int .i64))), (.int .i64)] := .cons (by kernel_rfl) (of_decide_eq_true (by kernel_rfl)) tyP3 (.cons (by kernel_rfl) (of_decide_eq_true (by kernel_rfl)) tyP22 (.cons (by kernel_rfl) (of_decide_eq_true (by kernel_rfl)) tyP3 (.cons (by kernel_rfl) (of_decide_eq_true (by kernel_rfl)) tyP3 (.cons (by kernel_rfl) (of_decide_eq_true (by kernel_rfl)) tyP25 (.cons (by kernel_rfl) (of_decide_eq_true (by kernel_rfl)) tyP3 (.nil))))))
theorem tys5 : TysP Try.prog [3, 22, 3, 3, 25, 25] [(.int .i64), (.list (.int .i64)), (.int .i64), (.int .i64), (.list (.pair (.int .i64) (.int .i64))), (.list (.pair (.int .i64) (.int .i64)))] := .cons (by kernel_rfl) (of_decide_eq_true (by kernel_rfl)) tyP3 (.cons (by kernel_rfl) (of_decide_eq_true (by kernel_rfl)) tyP22 (.cons (by kernel_rfl) (of_decide_eq_true (by kernel_rfl)) tyP3 (.cons (by kernel_rfl) (of_decide_eq_true (by kernel_rfl)) tyP3 (.cons (by kernel_rfl) (of_decide_eq_true (by kernel_rfl)) tyP25 (.cons (by kernel_rfl) (of_decide_eq_true (by kernel_rfl)) tyP25 (.nil))))))
theorem tys6 : TysP Try.prog [3, 22, 3, 3, 25, 3, 3, 3] [(.int .i64), (.list (.int .i64)), (.int .i64), (.int .i64), (.list (.pair (.int .i64) (.int .i64))), (.int .i64), (.int .i64), (.int .i64)] := .cons (by kernel_rfl) (of_decide_eq_true (by kernel_rfl)) tyP3 (.cons (by kernel_rfl) (of_decide_eq_true (by kernel_rfl)) tyP22 (.cons (by kernel_rfl) (of_decide_eq_true (by kernel_rfl)) tyP3 (.cons (by kernel_rfl) (of_decide_eq_true (by kernel_rfl)) tyP3 (.cons (by kernel_rfl) (of_decide_eq_true (by kernel_rfl)) tyP25 (.cons (by kernel_rfl) (of_decide_eq_true (by kernel_rfl)) tyP3 (.cons (by kernel_rfl) (of_decide_eq_true (by kernel_rfl)) tyP3 (.cons (by kernel_rfl) (of_decide_eq_true (by kernel_rfl)) tyP3 (.nil))))))))
theorem tys7 : TysP Try.prog [3, 22, 3, 3, 25, 3, 3] [(.int .i64), (.list (.int .i64)), (.int .i64), (.int .i64), (.list (.pair (.int .i64) (.int .i64))), (.int .i64), (.int .i64)] := .cons (by kernel_rfl) (of_decide_eq_true (by kernel_rfl)) tyP3 (.cons (by kernel_rfl) (of_decide_eq_true (by kernel_rfl)) tyP22 (.cons (by kernel_rfl) (of_decide_eq_true (by kernel_rfl)) tyP3 (.cons (by kernel_rfl) (of_decide_eq_true (by kernel_rfl)) tyP3 (.cons (by kernel_rfl) (of_decide_eq_true (by kernel_rfl)) tyP25 (.cons (by kernel_rfl) (of_decide_eq_true (by kernel_rfl)) tyP3 (.cons (by kernel_rfl) (of_decide_eq_true (by kernel_rfl)) tyP3 (.nil)))))))
theorem tys8 : TysP Try.prog [3, 22, 3, 3, 25, 22, 22, 3] [(.int .i64), (.list (.int .i64)), (.int .i64), (.int .i64), (.list (.pair (.int .i64) (.int .i64))), (.list (.int .i64)), (.list (.int .i64)), (.int .i64)] := .cons (by kernel_rfl) (of_decide_eq_true (by kernel_rfl)) tyP3 (.cons (by kernel_rfl) (of_decide_eq_true (by kernel_rfl)) tyP22 (.cons (by kernel_rfl) (of_decide_eq_true (by kernel_rfl)) tyP3 (.cons (by kernel_rfl) (of_decide_eq_true (by kernel_rfl)) tyP3 (.cons (by kernel_rfl) (of_decide_eq_true (by kernel_rfl)) tyP25 (.cons (by kernel_rfl) (of_decide_eq_true (by kernel_rfl)) tyP22 (.cons (by kernel_rfl) (of_decide_eq_true (by kernel_rfl)) tyP22 (.cons (by kernel_rfl) (of_decide_eq_true (by kernel_rfl)) tyP3 (.nil))))))))
theorem tys9 : TysP Try.prog [3, 22, 63, 63, 25, 25] [(.int .i64), (.list (.int .i64)), (.pair (.int .i64) (.int .i64)), (.pair (.int .i64) (.int .i64)), (.list (.pair (.int .i64) (.int .i64))), (.list (.pair (.int .i64) (.int .i64)))] := .cons (by kernel_rfl) (of_decide_eq_true (by kernel_rfl)) tyP3 (.cons (by kernel_rfl) (of_decide_eq_true (by kernel_rfl)) tyP22 (.cons (by kernel_rfl) (of_decide_eq_true (by kernel_rfl)) tyP63 (.cons (by kernel_rfl) (of_decide_eq_true (by kernel_rfl)) tyP63 (.cons (by kernel_rfl) (of_decide_eq_true (by kernel_rfl)) tyP25 (.cons (by kernel_rfl) (of_decide_eq_true (by kernel_rfl)) tyP25 (.nil))))))
theorem tys10 : TysP Try.prog [3, 3, 3] [(.int .i64), (.int .i64), (.int .i64)] := .cons (by kernel_rfl) (of_decide_eq_true (by kernel_rfl)) tyP3 (.cons (by kernel_rfl) (of_decide_eq_true (by kernel_rfl)) tyP3 (.cons (by kernel_rfl) (of_decide_eq_true (by kernel_rfl)) tyP3 (.nil)))
theorem laidOut : laidOutB Try.prog = true := by kernel_rfl
theorem own : ownKnob Try.prog.godebug = none := by kernel_rfl
end Go.Proofs.Ytblachgndbmhaaa
/-
  The type table of this seat and its functions, for the pure machine. Written by a program (gen_tabs.py). No conditions.
-/
namespace Go.Proofs.Ytblachgndbmhaaa
open Go Go.Abs Go.PE
set_option maxRecDepth 100000
set_option linter.unusedSimpArgs false
set_option linter.unusedVariables false
section
variable {S : Cells} {w : World} {η : Eta}
theorem zi (k : IntKind) : CM S w η (.d (.int k) (0 : Int)) (.int k 0) := ⟨rfl, VRep.int.2 ⟨rfl, by unfold IntKind.has; cases k <;> decide⟩⟩
theorem zb : CM S w η (.d .bool false) (.bool false) := ⟨rfl, VRep.bool.2 rfl⟩
theorem zs : CM S w η (.d .str ([] : List UInt8)) (.string ⟨#[]⟩) := ⟨rfl, VRep.str.2 ⟨rfl, Nat.zero_le _⟩⟩
end
abbrev tI : Ty := .int .i64
abbrev ty_api_Rings : Ty := .pair (.int .i64) (.list (.int .i64))
abbrev ty_api_Spot : Ty := .pair (.int .i64) (.int .i64)
abbrev ty_api_Spell : Ty := .pair (.int .i64) (.int .i64)
def tyTab : List (TypeId × TI) := [
  (1, ⟨false, 1, [.l .nilF], none, .fn⟩),
  (2, ⟨false, 1, [.d (.int .i64) (0 : Int)], some (.int .i64), .int .i64⟩),
  (3, ⟨false, 1, [.d (.int .i64) (0 : Int)], some (.int .i64), .int .i64⟩),
  (4, ⟨false, 1, [.d .bool false], some (.bool), .bool⟩),
  (5, ⟨false, 1, [.d (.int .u8) (0 : Int)], some (.int .u8), .int .u8⟩),
  (7, ⟨true, 4, [.d (.int .i64) (0 : Int), .d (.int .i64) (0 : Int), .d .bool false, .d (.int .u8) (0 : Int)], some (.pair (.int .i64) (.pair (.int .i64) (.pair (.bool) (.int .u8)))), .other⟩),
  (9, ⟨false, 1, [.d .str ([] : List UInt8)], some (.str), .str⟩),
  (12, ⟨false, 1, [.d (.int .u64) (0 : Int)], some (.int .u64), .int .u64⟩),
  (13, ⟨true, 2, [.d .str ([] : List UInt8), .d (.int .u64) (0 : Int)], some (.pair (.str) (.int .u64)), .struct [(0, 9, 1), (1, 12, 1)]⟩),
  (15, ⟨false, 1, [.l .nilP], none, .ptr 111⟩),
  (16, ⟨false, 1, [.l .nilP], none, .ptr 114⟩),
  (17, ⟨false, 1, [.l .nilP], none, .ptr 123⟩),
  (18, ⟨true, 1, [.l .nilP], none, .struct [(0, 17, 1)]⟩),
  (20, ⟨false, 1, [.l .nilI], none, .other⟩),
  (21, ⟨false, 1, [.d (.int .i32) (0 : Int)], some (.int .i32), .int .i32⟩),
  (22, ⟨false, 1, [.l .nilS], some (.list (.int .i64)), .slice 3 8⟩),
  (23, ⟨true, 2, [.d (.int .i64) (0 : Int), .l .nilS], some (.pair (.int .i64) (.list (.int .i64))), .struct [(0, 3, 1), (1, 22, 1)]⟩),
  (24, ⟨true, 2, [.d (.int .i64) (0 : Int), .l .nilS], some (ty_api_Rings), .struct [(0, 3, 1), (1, 22, 1)]⟩),
  (25, ⟨false, 1, [.l .nilS], some (.list (.pair (.int .i64) (.int .i64))), .slice 63 16⟩),
  (26, ⟨false, 1, [.l .nilF], none, .fn⟩),
  (27, ⟨false, 1, [.l .nilF], none, .fn⟩),
  (29, ⟨false, 1, [.l .nilF], none, .fn⟩),
  (30, ⟨false, 1, [.l .nilF], none, .fn⟩),
  (31, ⟨false, 1, [.l .nilF], none, .fn⟩),
  (32, ⟨false, 1, [.l .nilS], some (.list (ty_api_Rings)), .slice 24 32⟩),
  (33, ⟨false, 1, [.l .nilF], none, .fn⟩),
  (34, ⟨false, 1, [.l .nilS], some (.list (.list (.int .i64))), .slice 22 24⟩),
  (35, ⟨false, 1, [.l .nilF], none, .fn⟩),
  (36, ⟨false, 1, [.l .nilF], none, .fn⟩),
  (37, ⟨false, 1, [.l .nilF], none, .fn⟩),
  (38, ⟨false, 1, [.l .nilS], some (.list (ty_api_Spot)), .slice 58 16⟩),
  (39, ⟨false, 1, [.d (.int .i64) (0 : Int)], some (.int .i64), .int .i64⟩),
  (41, ⟨false, 1, [.l .nilF], none, .fn⟩),
  (42, ⟨false, 1, [.l .nilF], none, .fn⟩),
  (43, ⟨false, 1, [.l .nilF], none, .fn⟩),
  (45, ⟨false, 1, [.l .nilF], none, .fn⟩),
  (47, ⟨false, 1, [.l .nilF], none, .fn⟩),
  (49, ⟨false, 1, [.l .nilF], none, .fn⟩),
  (50, ⟨true, 2, [.d (.int .i64) (0 : Int), .d (.int .i64) (0 : Int)], some (.pair (.int .i64) (.int .i64)), .struct [(0, 3, 1), (1, 3, 1)]⟩),
  (51, ⟨true, 2, [.d (.int .i64) (0 : Int), .d (.int .i64) (0 : Int)], some (ty_api_Spell), .struct [(0, 3, 1), (1, 3, 1)]⟩),
  (53, ⟨false, 1, [.l .nilF], none, .fn⟩),
  (54, ⟨false, 1, [.l .nilF], none, .fn⟩),
  (55, ⟨false, 1, [.l .nilF], none, .fn⟩),
  (56, ⟨false, 1, [.l .nilS], some (.list (.bool)), .slice 4 1⟩),
  (57, ⟨true, 2, [.d (.int .i64) (0 : Int), .d (.int .i64) (0 : Int)], some (.pair (.int .i64) (.int .i64)), .struct [(0, 3, 1), (1, 3, 1)]⟩),
  (58, ⟨true, 2, [.d (.int .i64) (0 : Int), .d (.int .i64) (0 : Int)], some (ty_api_Spot), .struct [(0, 3, 1), (1, 3, 1)]⟩),
  (59, ⟨false, 1, [.l .nilF], none, .fn⟩),
  (60, ⟨false, 1, [.l .nilF], none, .fn⟩),
  (61, ⟨false, 1, [.l .nilF], none, .fn⟩),
  (62, ⟨false, 1, [.l .nilF], none, .fn⟩),
  (63, ⟨true, 2, [.d (.int .i64) (0 : Int), .d (.int .i64) (0 : Int)], some (.pair (.int .i64) (.int .i64)), .array 2 3⟩),
  (64, ⟨false, 1, [.l .nilF], none, .fn⟩),
  (65, ⟨false, 1, [.l .nilF], none, .fn⟩),
  (66, ⟨false, 1, [.l .nilF], none, .fn⟩),
  (67, ⟨false, 1, [.l .nilF], none, .fn⟩),
  (68, ⟨false, 1, [.l .nilF], none, .fn⟩),
  (69, ⟨false, 1, [.l .nilF], none, .fn⟩),
  (70, ⟨false, 1, [.l .nilF], none, .fn⟩),
  (71, ⟨false, 1, [.l .nilF], none, .fn⟩),
  (72, ⟨false, 1, [.l .nilF], none, .fn⟩),
  (73, ⟨false, 1, [.l .nilF], none, .fn⟩),
  (74, ⟨false, 1, [.l .nilF], none, .fn⟩),
  (75, ⟨false, 1, [.l .nilF], none, .fn⟩),
  (76, ⟨false, 1, [.l .nilF], none, .fn⟩),
  (77, ⟨false, 1, [.l .nilF], none, .fn⟩),
  (78, ⟨false, 1, [.l .nilF], none, .fn⟩),
  (79, ⟨false, 1, [.l .nilF], none, .fn⟩),
  (80, ⟨false, 1, [.l .nilF], none, .fn⟩),
  (81, ⟨false, 1, [.l .nilF], none, .fn⟩),
  (82, ⟨false, 1, [.l .nilF], none, .fn⟩),
  (83, ⟨false, 1, [.l .nilF], none, .fn⟩),
  (84, ⟨false, 1, [.l .nilF], none, .fn⟩),
  (85, ⟨false, 1, [.l .nilF], none, .fn⟩),
  (86, ⟨false, 1, [.d (.int .u64) (0 : Int)], some (.int .u64), .int .u64⟩),
  (87, ⟨false, 1, [.l .nilF], none, .fn⟩),
  (88, ⟨false, 1, [.l .nilF], none, .fn⟩),
  (89, ⟨false, 1, [.d (.int .i64) (0 : Int)], some (.int .i64), .int .i64⟩),
  (91, ⟨false, 1, [.l .nilF], none, .fn⟩),
  (92, ⟨false, 1, [.l .nilF], none, .fn⟩),
  (93, ⟨false, 1, [.l .nilF], none, .fn⟩),
  (95, ⟨false, 1, [.l .nilF], none, .fn⟩),
  (96, ⟨false, 1, [.l .nilF], none, .fn⟩),
  (97, ⟨false, 1, [.d (.int .u32) (0 : Int)], some (.int .u32), .int .u32⟩),
  (98, ⟨false, 1, [.l .nilF], none, .fn⟩),
  (99, ⟨false, 1, [.d (.int .u64) (0 : Int)], some (.int .u64), .int .u64⟩),
  (100, ⟨false, 1, [.d (.int .u64) (0 : Int)], some (.int .u64), .int .u64⟩),
  (101, ⟨false, 1, [.l .nilF], none, .fn⟩),
  (102, ⟨false, 1, [.l .nilF], none, .fn⟩),
  (103, ⟨false, 1, [.l .nilF], none, .fn⟩),
  (104, ⟨false, 1, [.l .nilP], none, .ptr 3⟩),
  (105, ⟨false, 1, [.l .nilF], none, .fn⟩),
  (106, ⟨false, 1, [.l .nilP], none, .ptr 100⟩),
  (108, ⟨false, 1, [.l .nilF], none, .fn⟩),
  (109, ⟨false, 1, [.l .nilF], none, .fn⟩),
  (110, ⟨true, 4, [.l .nilP, .l .nilP, .l .nilP, .d .str ([] : List UInt8)], none, .struct [(0, 17, 1), (1, 17, 1), (2, 17, 1), (3, 9, 1)]⟩),
  (113, ⟨true, 0, [], none, .other⟩),
  (115, ⟨false, 1, [.l .nilF], none, .fn⟩),
  (118, ⟨false, 1, [.l .nilF], none, .fn⟩),
  (119, ⟨false, 1, [.l .nilP], none, .ptr 5⟩),
  (122, ⟨true, 11, [.d (.int .u64) (0 : Int), .d (.int .u64) (0 : Int), .d (.int .u32) (0 : Int), .d (.int .u8) (0 : Int), .d (.int .u8) (0 : Int), .d (.int .u8) (0 : Int), .d (.int .u8) (0 : Int), .l .nilF, .l .nilP, .d (.int .i32) (0 : Int), .d (.int .i32) (0 : Int)], none, .other⟩)]
theorem ti1 : TIok Try.prog 1 ⟨false, 1, [.l .nilF], none, .fn⟩ :=
  ⟨Try.isAgg1, Try.sizeOf1, ⟨_, Try.zeroValue1, ⟨[Value.nilFunc], rfl, fun S w η => .cons (rfl) (.nil)⟩, (fun T h => by cases h)⟩, (fun T h => by cases h), ⟨_, _, _, Try.runUnderlying1⟩⟩
theorem ti2 : TIok Try.prog 2 ⟨false, 1, [.d (.int .i64) (0 : Int)], some (.int .i64), .int .i64⟩ :=
  ⟨Try.isAgg2, Try.sizeOf2, ⟨_, Try.zeroValue2, ⟨[Value.int IntKind.i64 0], rfl, fun S w η => .cons (zi _) (.nil)⟩, (fun T h => by cases h; rfl)⟩, (fun T h => by cases h; exact ⟨rfl, rfl⟩), Try.runUnderlying2⟩
theorem ti3 : TIok Try.prog 3 ⟨false, 1, [.d (.int .i64) (0 : Int)], some (.int .i64), .int .i64⟩ :=
  ⟨Try.isAgg3, Try.sizeOf3, ⟨_, Try.zeroValue3, ⟨[Value.int IntKind.i64 0], rfl, fun S w η => .cons (zi _) (.nil)⟩, (fun T h => by cases h; rfl)⟩, (fun T h => by cases h; exact ⟨rfl, rfl⟩), Try.runUnderlying3⟩
theorem ti4 : TIok Try.prog 4 ⟨false, 1, [.d .bool false], some (.bool), .bool⟩ :=
  ⟨Try.isAgg4, Try.sizeOf4, ⟨_, Try.zeroValue4, ⟨[Value.bool false], rfl, fun S w η => .cons (zb) (.nil)⟩, (fun T h => by cases h; rfl)⟩, (fun T h => by cases h; exact ⟨rfl, rfl⟩), Try.runUnderlying4⟩
theorem ti5 : TIok Try.prog 5 ⟨false, 1, [.d (.int .u8) (0 : Int)], some (.int .u8), .int .u8⟩ :=
  ⟨Try.isAgg5, Try.sizeOf5, ⟨_, Try.zeroValue5, ⟨[Value.int IntKind.u8 0], rfl, fun S w η => .cons (zi _) (.nil)⟩, (fun T h => by cases h; rfl)⟩, (fun T h => by cases h; exact ⟨rfl, rfl⟩), Try.runUnderlying5⟩
theorem ti7 : TIok Try.prog 7 ⟨true, 4, [.d (.int .i64) (0 : Int), .d (.int .i64) (0 : Int), .d .bool false, .d (.int .u8) (0 : Int)], some (.pair (.int .i64) (.pair (.int .i64) (.pair (.bool) (.int .u8)))), .other⟩ :=
  ⟨Try.isAgg7, Try.sizeOf7, ⟨_, Try.zeroValue7, ⟨[Value.int IntKind.i64 0, Value.int IntKind.i64 0, Value.bool false, Value.int IntKind.u8 0], rfl, fun S w η => .cons (zi _) (.cons (zi _) (.cons (zb) (.cons (zi _) (.nil))))⟩, (fun T h => by cases h; rfl)⟩, (fun T h => by cases h; exact ⟨rfl, rfl⟩), trivial⟩
theorem ti9 : TIok Try.prog 9 ⟨false, 1, [.d .str ([] : List UInt8)], some (.str), .str⟩ :=
  ⟨Try.isAgg9, Try.sizeOf9, ⟨_, Try.zeroValue9, ⟨[Value.string ⟨#[]⟩], rfl, fun S w η => .cons (zs) (.nil)⟩, (fun T h => by cases h; rfl)⟩, (fun T h => by cases h; exact ⟨rfl, rfl⟩), Try.runUnderlying9⟩
theorem ti12 : TIok Try.prog 12 ⟨false, 1, [.d (.int .u64) (0 : Int)], some (.int .u64), .int .u64⟩ :=
  ⟨Try.isAgg12, Try.sizeOf12, ⟨_, Try.zeroValue12, ⟨[Value.int IntKind.u64 0], rfl, fun S w η => .cons (zi _) (.nil)⟩, (fun T h => by cases h; rfl)⟩, (fun T h => by cases h; exact ⟨rfl, rfl⟩), Try.runUnderlying12⟩
theorem ti13 : TIok Try.prog 13 ⟨true, 2, [.d .str ([] : List UInt8), .d (.int .u64) (0 : Int)], some (.pair (.str) (.int .u64)), .struct [(0, 9, 1), (1, 12, 1)]⟩ :=
  ⟨Try.isAgg13, Try.sizeOf13, ⟨_, Try.zeroValue13, ⟨[Value.string ⟨#[]⟩, Value.int IntKind.u64 0], rfl, fun S w η => .cons (zs) (.cons (zi _) (.nil))⟩, (fun T h => by cases h; rfl)⟩, (fun T h => by cases h; exact ⟨rfl, rfl⟩), ⟨_, Try.runUnderlying13, rfl, fun w => by simp [Try.sizeOf12, Try.sizeOf9]⟩⟩
theorem ti15 : TIok Try.prog 15 ⟨false, 1, [.l .nilP], none, .ptr 111⟩ :=
  ⟨Try.isAgg15, Try.sizeOf15, ⟨_, Try.zeroValue15, ⟨[Value.pointer none], rfl, fun S w η => .cons (rfl) (.nil)⟩, (fun T h => by cases h)⟩, (fun T h => by cases h), Try.runUnderlying15⟩
theorem ti16 : TIok Try.prog 16 ⟨false, 1, [.l .nilP], none, .ptr 114⟩ :=
  ⟨Try.isAgg16, Try.sizeOf16, ⟨_, Try.zeroValue16, ⟨[Value.pointer none], rfl, fun S w η => .cons (rfl) (.nil)⟩, (fun T h => by cases h)⟩, (fun T h => by cases h), Try.runUnderlying16⟩
theorem ti17 : TIok Try.prog 17 ⟨false, 1, [.l .nilP], none, .ptr 123⟩ :=
  ⟨Try.isAgg17, Try.sizeOf17, ⟨_, Try.zeroValue17, ⟨[Value.pointer none], rfl, fun S w η => .cons (rfl) (.nil)⟩, (fun T h => by cases h)⟩, (fun T h => by cases h), Try.runUnderlying17⟩
theorem ti18 : TIok Try.prog 18 ⟨true, 1, [.l .nilP], none, .struct [(0, 17, 1)]⟩ :=
  ⟨Try.isAgg18, Try.sizeOf18, ⟨_, Try.zeroValue18, ⟨[Value.pointer none], rfl, fun S w η => .cons (rfl) (.nil)⟩, (fun T h => by cases h)⟩, (fun T h => by cases h), ⟨_, Try.runUnderlying18, rfl, fun w => by simp [Try.sizeOf17]⟩⟩
theorem ti20 : TIok Try.prog 20 ⟨false, 1, [.l .nilI], none, .other⟩ :=
  ⟨Try.isAgg20, Try.sizeOf20, ⟨_, Try.zeroValue20, ⟨[Value.nilIface], rfl, fun S w η => .cons (rfl) (.nil)⟩, (fun T h => by cases h)⟩, (fun T h => by cases h), trivial⟩
theorem ti21 : TIok Try.prog 21 ⟨false, 1, [.d (.int .i32) (0 : Int)], some (.int .i32), .int .i32⟩ :=
  ⟨Try.isAgg21, Try.sizeOf21, ⟨_, Try.zeroValue21, ⟨[Value.int IntKind.i32 0], rfl, fun S w η => .cons (zi _) (.nil)⟩, (fun T h => by cases h; rfl)⟩, (fun T h => by cases h; exact ⟨rfl, rfl⟩), Try.runUnderlying21⟩
theorem ti22 : TIok Try.prog 22 ⟨false, 1, [.l .nilS], some (.list (.int .i64)), .slice 3 8⟩ :=
  ⟨Try.isAgg22, Try.sizeOf22, ⟨_, Try.zeroValue22, ⟨[Value.slice none 0 0], rfl, fun S w η => .cons (rfl) (.nil)⟩, (fun T h => by cases h; rfl)⟩, (fun T h => by cases h; exact ⟨rfl, rfl⟩), ⟨Try.underlying22, by decide, Try.t3, _, rfl, rfl, rfl, Try.zeroValue3, Try.sizeOf3⟩⟩
theorem ti23 : TIok Try.prog 23 ⟨true, 2, [.d (.int .i64) (0 : Int), .l .nilS], some (.pair (.int .i64) (.list (.int .i64))), .struct [(0, 3, 1), (1, 22, 1)]⟩ :=
  ⟨Try.isAgg23, Try.sizeOf23, ⟨_, Try.zeroValue23, ⟨[Value.int IntKind.i64 0, Value.slice none 0 0], rfl, fun S w η => .cons (zi _) (.cons (rfl) (.nil))⟩, (fun T h => by cases h; rfl)⟩, (fun T h => by cases h; exact ⟨rfl, rfl⟩), ⟨_, Try.runUnderlying23, rfl, fun w => by simp [Try.sizeOf22, Try.sizeOf3]⟩⟩
theorem ti24 : TIok Try.prog 24 ⟨true, 2, [.d (.int .i64) (0 : Int), .l .nilS], some (ty_api_Rings), .struct [(0, 3, 1), (1, 22, 1)]⟩ :=
  ⟨Try.isAgg24, Try.sizeOf24, ⟨_, Try.zeroValue24, ⟨[Value.int IntKind.i64 0, Value.slice none 0 0], rfl, fun S w η => .cons (zi _) (.cons (rfl) (.nil))⟩, (fun T h => by cases h; rfl)⟩, (fun T h => by cases h; exact ⟨rfl, rfl⟩), ⟨_, Try.runUnderlying24, rfl, fun w => by simp [Try.sizeOf22, Try.sizeOf3]⟩⟩
theorem ti25 : TIok Try.prog 25 ⟨false, 1, [.l .nilS], some (.list (.pair (.int .i64) (.int .i64))), .slice 63 16⟩ :=
  ⟨Try.isAgg25, Try.sizeOf25, ⟨_, Try.zeroValue25, ⟨[Value.slice none 0 0], rfl, fun S w η => .cons (rfl) (.nil)⟩, (fun T h => by cases h; rfl)⟩, (fun T h => by cases h; exact ⟨rfl, rfl⟩), ⟨Try.underlying25, by decide, Try.t63, _, rfl, rfl, rfl, Try.zeroValue63, Try.sizeOf63⟩⟩
theorem ti26 : TIok Try.prog 26 ⟨false, 1, [.l .nilF], none, .fn⟩ :=
  ⟨Try.isAgg26, Try.sizeOf26, ⟨_, Try.zeroValue26, ⟨[Value.nilFunc], rfl, fun S w η => .cons (rfl) (.nil)⟩, (fun T h => by cases h)⟩, (fun T h => by cases h), ⟨_, _, _, Try.runUnderlying26⟩⟩
theorem ti27 : TIok Try.prog 27 ⟨false, 1, [.l .nilF], none, .fn⟩ :=
  ⟨Try.isAgg27, Try.sizeOf27, ⟨_, Try.zeroValue27, ⟨[Value.nilFunc], rfl, fun S w η => .cons (rfl) (.nil)⟩, (fun T h => by cases h)⟩, (fun T h => by cases h), ⟨_, _, _, Try.runUnderlying27⟩⟩
theorem ti29 : TIok Try.prog 29 ⟨false, 1, [.l .nilF], none, .fn⟩ :=
  ⟨Try.isAgg29, Try.sizeOf29, ⟨_, Try.zeroValue29, ⟨[Value.nilFunc], rfl, fun S w η => .cons (rfl) (.nil)⟩, (fun T h => by cases h)⟩, (fun T h => by cases h), ⟨_, _, _, Try.runUnderlying29⟩⟩
theorem ti30 : TIok Try.prog 30 ⟨false, 1, [.l .nilF], none, .fn⟩ :=
  ⟨Try.isAgg30, Try.sizeOf30, ⟨_, Try.zeroValue30, ⟨[Value.nilFunc], rfl, fun S w η => .cons (rfl) (.nil)⟩, (fun T h => by cases h)⟩, (fun T h => by cases h), ⟨_, _, _, Try.runUnderlying30⟩⟩
theorem ti31 : TIok Try.prog 31 ⟨false, 1, [.l .nilF], none, .fn⟩ :=
  ⟨Try.isAgg31, Try.sizeOf31, ⟨_, Try.zeroValue31, ⟨[Value.nilFunc], rfl, fun S w η => .cons (rfl) (.nil)⟩, (fun T h => by cases h)⟩, (fun T h => by cases h), ⟨_, _, _, Try.runUnderlying31⟩⟩
theorem ti32 : TIok Try.prog 32 ⟨false, 1, [.l .nilS], some (.list (ty_api_Rings)), .slice 24 32⟩ :=
  ⟨Try.isAgg32, Try.sizeOf32, ⟨_, Try.zeroValue32, ⟨[Value.slice none 0 0], rfl, fun S w η => .cons (rfl) (.nil)⟩, (fun T h => by cases h; rfl)⟩, (fun T h => by cases h; exact ⟨rfl, rfl⟩), ⟨Try.underlying32, by decide, Try.t24, _, rfl, rfl, rfl, Try.zeroValue24, Try.sizeOf24⟩⟩
theorem ti33 : TIok Try.prog 33 ⟨false, 1, [.l .nilF], none, .fn⟩ :=
  ⟨Try.isAgg33, Try.sizeOf33, ⟨_, Try.zeroValue33, ⟨[Value.nilFunc], rfl, fun S w η => .cons (rfl) (.nil)⟩, (fun T h => by cases h)⟩, (fun T h => by cases h), ⟨_, _, _, Try.runUnderlying33⟩⟩
theorem ti34 : TIok Try.prog 34 ⟨false, 1, [.l .nilS], some (.list (.list (.int .i64))), .slice 22 24⟩ :=
  ⟨Try.isAgg34, Try.sizeOf34, ⟨_, Try.zeroValue34, ⟨[Value.slice none 0 0], rfl, fun S w η => .cons (rfl) (.nil)⟩, (fun T h => by cases h; rfl)⟩, (fun T h => by cases h; exact ⟨rfl, rfl⟩), ⟨Try.underlying34, by decide, Try.t22, _, rfl, rfl, rfl, Try.zeroValue22, Try.sizeOf22⟩⟩
theorem ti35 : TIok Try.prog 35 ⟨false, 1, [.l .nilF], none, .fn⟩ :=
  ⟨Try.isAgg35, Try.sizeOf35, ⟨_, Try.zeroValue35, ⟨[Value.nilFunc], rfl, fun S w η => .cons (rfl) (.nil)⟩, (fun T h => by cases h)⟩, (fun T h => by cases h), ⟨_, _, _, Try.runUnderlying35⟩⟩
theorem ti36 : TIok Try.prog 36 ⟨false, 1, [.l .nilF], none, .fn⟩ :=
  ⟨Try.isAgg36, Try.sizeOf36, ⟨_, Try.zeroValue36, ⟨[Value.nilFunc], rfl, fun S w η => .cons (rfl) (.nil)⟩, (fun T h => by cases h)⟩, (fun T h => by cases h), ⟨_, _, _, Try.runUnderlying36⟩⟩
theorem ti37 : TIok Try.prog 37 ⟨false, 1, [.l .nilF], none, .fn⟩ :=
  ⟨Try.isAgg37, Try.sizeOf37, ⟨_, Try.zeroValue37, ⟨[Value.nilFunc], rfl, fun S w η => .cons (rfl) (.nil)⟩, (fun T h => by cases h)⟩, (fun T h => by cases h), ⟨_, _, _, Try.runUnderlying37⟩⟩
theorem ti38 : TIok Try.prog 38 ⟨false, 1, [.l .nilS], some (.list (ty_api_Spot)), .slice 58 16⟩ :=
  ⟨Try.isAgg38, Try.sizeOf38, ⟨_, Try.zeroValue38, ⟨[Value.slice none 0 0], rfl, fun S w η => .cons (rfl) (.nil)⟩, (fun T h => by cases h; rfl)⟩, (fun T h => by cases h; exact ⟨rfl, rfl⟩), ⟨Try.underlying38, by decide, Try.t58, _, rfl, rfl, rfl, Try.zeroValue58, Try.sizeOf58⟩⟩
theorem ti39 : TIok Try.prog 39 ⟨false, 1, [.d (.int .i64) (0 : Int)], some (.int .i64), .int .i64⟩ :=
  ⟨Try.isAgg39, Try.sizeOf39, ⟨_, Try.zeroValue39, ⟨[Value.int IntKind.i64 0], rfl, fun S w η => .cons (zi _) (.nil)⟩, (fun T h => by cases h; rfl)⟩, (fun T h => by cases h; exact ⟨rfl, rfl⟩), Try.runUnderlying39⟩
theorem ti41 : TIok Try.prog 41 ⟨false, 1, [.l .nilF], none, .fn⟩ :=
  ⟨Try.isAgg41, Try.sizeOf41, ⟨_, Try.zeroValue41, ⟨[Value.nilFunc], rfl, fun S w η => .cons (rfl) (.nil)⟩, (fun T h => by cases h)⟩, (fun T h => by cases h), ⟨_, _, _, Try.runUnderlying41⟩⟩
theorem ti42 : TIok Try.prog 42 ⟨false, 1, [.l .nilF], none, .fn⟩ :=
  ⟨Try.isAgg42, Try.sizeOf42, ⟨_, Try.zeroValue42, ⟨[Value.nilFunc], rfl, fun S w η => .cons (rfl) (.nil)⟩, (fun T h => by cases h)⟩, (fun T h => by cases h), ⟨_, _, _, Try.runUnderlying42⟩⟩
theorem ti43 : TIok Try.prog 43 ⟨false, 1, [.l .nilF], none, .fn⟩ :=
  ⟨Try.isAgg43, Try.sizeOf43, ⟨_, Try.zeroValue43, ⟨[Value.nilFunc], rfl, fun S w η => .cons (rfl) (.nil)⟩, (fun T h => by cases h)⟩, (fun T h => by cases h), ⟨_, _, _, Try.runUnderlying43⟩⟩
theorem ti45 : TIok Try.prog 45 ⟨false, 1, [.l .nilF], none, .fn⟩ :=
  ⟨Try.isAgg45, Try.sizeOf45, ⟨_, Try.zeroValue45, ⟨[Value.nilFunc], rfl, fun S w η => .cons (rfl) (.nil)⟩, (fun T h => by cases h)⟩, (fun T h => by cases h), ⟨_, _, _, Try.runUnderlying45⟩⟩
theorem ti47 : TIok Try.prog 47 ⟨false, 1, [.l .nilF], none, .fn⟩ :=
  ⟨Try.isAgg47, Try.sizeOf47, ⟨_, Try.zeroValue47, ⟨[Value.nilFunc], rfl, fun S w η => .cons (rfl) (.nil)⟩, (fun T h => by cases h)⟩, (fun T h => by cases h), ⟨_, _, _, Try.runUnderlying47⟩⟩
theorem ti49 : TIok Try.prog 49 ⟨false, 1, [.l .nilF], none, .fn⟩ :=
  ⟨Try.isAgg49, Try.sizeOf49, ⟨_, Try.zeroValue49, ⟨[Value.nilFunc], rfl, fun S w η => .cons (rfl) (.nil)⟩, (fun T h => by cases h)⟩, (fun T h => by cases h), ⟨_, _, _, Try.runUnderlying49⟩⟩
theorem ti50 : TIok Try.prog 50 ⟨true, 2, [.d (.int .i64) (0 : Int), .d (.int .i64) (0 : Int)], some (.pair (.int .i64) (.int .i64)), .struct [(0, 3, 1), (1, 3, 1)]⟩ :=
  ⟨Try.isAgg50, Try.sizeOf50, ⟨_, Try.zeroValue50, ⟨[Value.int IntKind.i64 0, Value.int IntKind.i64 0], rfl, fun S w η => .cons (zi _) (.cons (zi _) (.nil))⟩, (fun T h => by cases h; rfl)⟩, (fun T h => by cases h; exact ⟨rfl, rfl⟩), ⟨_, Try.runUnderlying50, rfl, fun w => by simp [Try.sizeOf3]⟩⟩
theorem ti51 : TIok Try.prog 51 ⟨true, 2, [.d (.int .i64) (0 : Int), .d (.int .i64) (0 : Int)], some (ty_api_Spell), .struct [(0, 3, 1), (1, 3, 1)]⟩ :=
  ⟨Try.isAgg51, Try.sizeOf51, ⟨_, Try.zeroValue51, ⟨[Value.int IntKind.i64 0, Value.int IntKind.i64 0], rfl, fun S w η => .cons (zi _) (.cons (zi _) (.nil))⟩, (fun T h => by cases h; rfl)⟩, (fun T h => by cases h; exact ⟨rfl, rfl⟩), ⟨_, Try.runUnderlying51, rfl, fun w => by simp [Try.sizeOf3]⟩⟩
theorem ti53 : TIok Try.prog 53 ⟨false, 1, [.l .nilF], none, .fn⟩ :=
  ⟨Try.isAgg53, Try.sizeOf53, ⟨_, Try.zeroValue53, ⟨[Value.nilFunc], rfl, fun S w η => .cons (rfl) (.nil)⟩, (fun T h => by cases h)⟩, (fun T h => by cases h), ⟨_, _, _, Try.runUnderlying53⟩⟩
theorem ti54 : TIok Try.prog 54 ⟨false, 1, [.l .nilF], none, .fn⟩ :=
  ⟨Try.isAgg54, Try.sizeOf54, ⟨_, Try.zeroValue54, ⟨[Value.nilFunc], rfl, fun S w η => .cons (rfl) (.nil)⟩, (fun T h => by cases h)⟩, (fun T h => by cases h), ⟨_, _, _, Try.runUnderlying54⟩⟩
theorem ti55 : TIok Try.prog 55 ⟨false, 1, [.l .nilF], none, .fn⟩ :=
  ⟨Try.isAgg55, Try.sizeOf55, ⟨_, Try.zeroValue55, ⟨[Value.nilFunc], rfl, fun S w η => .cons (rfl) (.nil)⟩, (fun T h => by cases h)⟩, (fun T h => by cases h), ⟨_, _, _, Try.runUnderlying55⟩⟩
theorem ti56 : TIok Try.prog 56 ⟨false, 1, [.l .nilS], some (.list (.bool)), .slice 4 1⟩ :=
  ⟨Try.isAgg56, Try.sizeOf56, ⟨_, Try.zeroValue56, ⟨[Value.slice none 0 0], rfl, fun S w η => .cons (rfl) (.nil)⟩, (fun T h => by cases h; rfl)⟩, (fun T h => by cases h; exact ⟨rfl, rfl⟩), ⟨Try.underlying56, by decide, Try.t4, _, rfl, rfl, rfl, Try.zeroValue4, Try.sizeOf4⟩⟩
theorem ti57 : TIok Try.prog 57 ⟨true, 2, [.d (.int .i64) (0 : Int), .d (.int .i64) (0 : Int)], some (.pair (.int .i64) (.int .i64)), .struct [(0, 3, 1), (1, 3, 1)]⟩ :=
  ⟨Try.isAgg57, Try.sizeOf57, ⟨_, Try.zeroValue57, ⟨[Value.int IntKind.i64 0, Value.int IntKind.i64 0], rfl, fun S w η => .cons (zi _) (.cons (zi _) (.nil))⟩, (fun T h => by cases h; rfl)⟩, (fun T h => by cases h; exact ⟨rfl, rfl⟩), ⟨_, Try.runUnderlying57, rfl, fun w => by simp [Try.sizeOf3]⟩⟩
theorem ti58 : TIok Try.prog 58 ⟨true, 2, [.d (.int .i64) (0 : Int), .d (.int .i64) (0 : Int)], some (ty_api_Spot), .struct [(0, 3, 1), (1, 3, 1)]⟩ :=
  ⟨Try.isAgg58, Try.sizeOf58, ⟨_, Try.zeroValue58, ⟨[Value.int IntKind.i64 0, Value.int IntKind.i64 0], rfl, fun S w η => .cons (zi _) (.cons (zi _) (.nil))⟩, (fun T h => by cases h; rfl)⟩, (fun T h => by cases h; exact ⟨rfl, rfl⟩), ⟨_, Try.runUnderlying58, rfl, fun w => by simp [Try.sizeOf3]⟩⟩
theorem ti59 : TIok Try.prog 59 ⟨false, 1, [.l .nilF], none, .fn⟩ :=
  ⟨Try.isAgg59, Try.sizeOf59, ⟨_, Try.zeroValue59, ⟨[Value.nilFunc], rfl, fun S w η => .cons (rfl) (.nil)⟩, (fun T h => by cases h)⟩, (fun T h => by cases h), ⟨_, _, _, Try.runUnderlying59⟩⟩
theorem ti60 : TIok Try.prog 60 ⟨false, 1, [.l .nilF], none, .fn⟩ :=
  ⟨Try.isAgg60, Try.sizeOf60, ⟨_, Try.zeroValue60, ⟨[Value.nilFunc], rfl, fun S w η => .cons (rfl) (.nil)⟩, (fun T h => by cases h)⟩, (fun T h => by cases h), ⟨_, _, _, Try.runUnderlying60⟩⟩
theorem ti61 : TIok Try.prog 61 ⟨false, 1, [.l .nilF], none, .fn⟩ :=
  ⟨Try.isAgg61, Try.sizeOf61, ⟨_, Try.zeroValue61, ⟨[Value.nilFunc], rfl, fun S w η => .cons (rfl) (.nil)⟩, (fun T h => by cases h)⟩, (fun T h => by cases h), ⟨_, _, _, Try.runUnderlying61⟩⟩
theorem ti62 : TIok Try.prog 62 ⟨false, 1, [.l .nilF], none, .fn⟩ :=
  ⟨Try.isAgg62, Try.sizeOf62, ⟨_, Try.zeroValue62, ⟨[Value.nilFunc], rfl, fun S w η => .cons (rfl) (.nil)⟩, (fun T h => by cases h)⟩, (fun T h => by cases h), ⟨_, _, _, Try.runUnderlying62⟩⟩
theorem ti63 : TIok Try.prog 63 ⟨true, 2, [.d (.int .i64) (0 : Int), .d (.int .i64) (0 : Int)], some (.pair (.int .i64) (.int .i64)), .array 2 3⟩ :=
  ⟨Try.isAgg63, Try.sizeOf63, ⟨_, Try.zeroValue63, ⟨[Value.int IntKind.i64 0, Value.int IntKind.i64 0], rfl, fun S w η => .cons (zi _) (.cons (zi _) (.nil))⟩, (fun T h => by cases h; rfl)⟩, (fun T h => by cases h; exact ⟨rfl, rfl⟩), Try.runUnderlying63⟩
theorem ti64 : TIok Try.prog 64 ⟨false, 1, [.l .nilF], none, .fn⟩ :=
  ⟨Try.isAgg64, Try.sizeOf64, ⟨_, Try.zeroValue64, ⟨[Value.nilFunc], rfl, fun S w η => .cons (rfl) (.nil)⟩, (fun T h => by cases h)⟩, (fun T h => by cases h), ⟨_, _, _, Try.runUnderlying64⟩⟩
theorem ti65 : TIok Try.prog 65 ⟨false, 1, [.l .nilF], none, .fn⟩ :=
  ⟨Try.isAgg65, Try.sizeOf65, ⟨_, Try.zeroValue65, ⟨[Value.nilFunc], rfl, fun S w η => .cons (rfl) (.nil)⟩, (fun T h => by cases h)⟩, (fun T h => by cases h), ⟨_, _, _, Try.runUnderlying65⟩⟩
theorem ti66 : TIok Try.prog 66 ⟨false, 1, [.l .nilF], none, .fn⟩ :=
  ⟨Try.isAgg66, Try.sizeOf66, ⟨_, Try.zeroValue66, ⟨[Value.nilFunc], rfl, fun S w η => .cons (rfl) (.nil)⟩, (fun T h => by cases h)⟩, (fun T h => by cases h), ⟨_, _, _, Try.runUnderlying66⟩⟩
theorem ti67 : TIok Try.prog 67 ⟨false, 1, [.l .nilF], none, .fn⟩ :=
  ⟨Try.isAgg67, Try.sizeOf67, ⟨_, Try.zeroValue67, ⟨[Value.nilFunc], rfl, fun S w η => .cons (rfl) (.nil)⟩, (fun T h => by cases h)⟩, (fun T h => by cases h), ⟨_, _, _, Try.runUnderlying67⟩⟩
theorem ti68 : TIok Try.prog 68 ⟨false, 1, [.l .nilF], none, .fn⟩ :=
  ⟨Try.isAgg68, Try.sizeOf68, ⟨_, Try.zeroValue68, ⟨[Value.nilFunc], rfl, fun S w η => .cons (rfl) (.nil)⟩, (fun T h => by cases h)⟩, (fun T h => by cases h), ⟨_, _, _, Try.runUnderlying68⟩⟩
theorem ti69 : TIok Try.prog 69 ⟨false, 1, [.l .nilF], none, .fn⟩ :=
  ⟨Try.isAgg69, Try.sizeOf69, ⟨_, Try.zeroValue69, ⟨[Value.nilFunc], rfl, fun S w η => .cons (rfl) (.nil)⟩, (fun T h => by cases h)⟩, (fun T h => by cases h), ⟨_, _, _, Try.runUnderlying69⟩⟩
theorem ti70 : TIok Try.prog 70 ⟨false, 1, [.l .nilF], none, .fn⟩ :=
  ⟨Try.isAgg70, Try.sizeOf70, ⟨_, Try.zeroValue70, ⟨[Value.nilFunc], rfl, fun S w η => .cons (rfl) (.nil)⟩, (fun T h => by cases h)⟩, (fun T h => by cases h), ⟨_, _, _, Try.runUnderlying70⟩⟩
theorem ti71 : TIok Try.prog 71 ⟨false, 1, [.l .nilF], none, .fn⟩ :=
  ⟨Try.isAgg71, Try.sizeOf71, ⟨_, Try.zeroValue71, ⟨[Value.nilFunc], rfl, fun S w η => .cons (rfl) (.nil)⟩, (fun T h => by cases h)⟩, (fun T h => by cases h), ⟨_, _, _, Try.runUnderlying71⟩⟩
theorem ti72 : TIok Try.prog 72 ⟨false, 1, [.l .nilF], none, .fn⟩ :=
  ⟨Try.isAgg72, Try.sizeOf72, ⟨_, Try.zeroValue72, ⟨[Value.nilFunc], rfl, fun S w η => .cons (rfl) (.nil)⟩, (fun T h => by cases h)⟩, (fun T h => by cases h), ⟨_, _, _, Try.runUnderlying72⟩⟩
theorem ti73 : TIok Try.prog 73 ⟨false, 1, [.l .nilF], none, .fn⟩ :=
  ⟨Try.isAgg73, Try.sizeOf73, ⟨_, Try.zeroValue73, ⟨[Value.nilFunc], rfl, fun S w η => .cons (rfl) (.nil)⟩, (fun T h => by cases h)⟩, (fun T h => by cases h), ⟨_, _, _, Try.runUnderlying73⟩⟩
theorem ti74 : TIok Try.prog 74 ⟨false, 1, [.l .nilF], none, .fn⟩ :=
  ⟨Try.isAgg74, Try.sizeOf74, ⟨_, Try.zeroValue74, ⟨[Value.nilFunc], rfl, fun S w η => .cons (rfl) (.nil)⟩, (fun T h => by cases h)⟩, (fun T h => by cases h), ⟨_, _, _, Try.runUnderlying74⟩⟩
theorem ti75 : TIok Try.prog 75 ⟨false, 1, [.l .nilF], none, .fn⟩ :=
  ⟨Try.isAgg75, Try.sizeOf75, ⟨_, Try.zeroValue75, ⟨[Value.nilFunc], rfl, fun S w η => .cons (rfl) (.nil)⟩, (fun T h => by cases h)⟩, (fun T h => by cases h), ⟨_, _, _, Try.runUnderlying75⟩⟩
theorem ti76 : TIok Try.prog 76 ⟨false, 1, [.l .nilF], none, .fn⟩ :=
  ⟨Try.isAgg76, Try.sizeOf76, ⟨_, Try.zeroValue76, ⟨[Value.nilFunc], rfl, fun S w η => .cons (rfl) (.nil)⟩, (fun T h => by cases h)⟩, (fun T h => by cases h), ⟨_, _, _, Try.runUnderlying76⟩⟩
theorem ti77 : TIok Try.prog 77 ⟨false, 1, [.l .nilF], none, .fn⟩ :=
  ⟨Try.isAgg77, Try.sizeOf77, ⟨_, Try.zeroValue77, ⟨[Value.nilFunc], rfl, fun S w η => .cons (rfl) (.nil)⟩, (fun T h => by cases h)⟩, (fun T h => by cases h), ⟨_, _, _, Try.runUnderlying77⟩⟩
theorem ti78 : TIok Try.prog 78 ⟨false, 1, [.l .nilF], none, .fn⟩ :=
  ⟨Try.isAgg78, Try.sizeOf78, ⟨_, Try.zeroValue78, ⟨[Value.nilFunc], rfl, fun S w η => .cons (rfl) (.nil)⟩, (fun T h => by cases h)⟩, (fun T h => by cases h), ⟨_, _, _, Try.runUnderlying78⟩⟩
theorem ti79 : TIok Try.prog 79 ⟨false, 1, [.l .nilF], none, .fn⟩ :=
  ⟨Try.isAgg79, Try.sizeOf79, ⟨_, Try.zeroValue79, ⟨[Value.nilFunc], rfl, fun S w η => .cons (rfl) (.nil)⟩, (fun T h => by cases h)⟩, (fun T h => by cases h), ⟨_, _, _, Try.runUnderlying79⟩⟩
theorem ti80 : TIok Try.prog 80 ⟨false, 1, [.l .nilF], none, .fn⟩ :=
  ⟨Try.isAgg80, Try.sizeOf80, ⟨_, Try.zeroValue80, ⟨[Value.nilFunc], rfl, fun S w η => .cons (rfl) (.nil)⟩, (fun T h => by cases h)⟩, (fun T h => by cases h), ⟨_, _, _, Try.runUnderlying80⟩⟩
theorem ti81 : TIok Try.prog 81 ⟨false, 1, [.l .nilF], none, .fn⟩ :=
  ⟨Try.isAgg81, Try.sizeOf81, ⟨_, Try.zeroValue81, ⟨[Value.nilFunc], rfl, fun S w η => .cons (rfl) (.nil)⟩, (fun T h => by cases h)⟩, (fun T h => by cases h), ⟨_, _, _, Try.runUnderlying81⟩⟩
theorem ti82 : TIok Try.prog 82 ⟨false, 1, [.l .nilF], none, .fn⟩ :=
  ⟨Try.isAgg82, Try.sizeOf82, ⟨_, Try.zeroValue82, ⟨[Value.nilFunc], rfl, fun S w η => .cons (rfl) (.nil)⟩, (fun T h => by cases h)⟩, (fun T h => by cases h), ⟨_, _, _, Try.runUnderlying82⟩⟩
theorem ti83 : TIok Try.prog 83 ⟨false, 1, [.l .nilF], none, .fn⟩ :=
  ⟨Try.isAgg83, Try.sizeOf83, ⟨_, Try.zeroValue83, ⟨[Value.nilFunc], rfl, fun S w η => .cons (rfl) (.nil)⟩, (fun T h => by cases h)⟩, (fun T h => by cases h), ⟨_, _, _, Try.runUnderlying83⟩⟩
theorem ti84 : TIok Try.prog 84 ⟨false, 1, [.l .nilF], none, .fn⟩ :=
  ⟨Try.isAgg84, Try.sizeOf84, ⟨_, Try.zeroValue84, ⟨[Value.nilFunc], rfl, fun S w η => .cons (rfl) (.nil)⟩, (fun T h => by cases h)⟩, (fun T h => by cases h), ⟨_, _, _, Try.runUnderlying84⟩⟩
theorem ti85 : TIok Try.prog 85 ⟨false, 1, [.l .nilF], none, .fn⟩ :=
  ⟨Try.isAgg85, Try.sizeOf85, ⟨_, Try.zeroValue85, ⟨[Value.nilFunc], rfl, fun S w η => .cons (rfl) (.nil)⟩, (fun T h => by cases h)⟩, (fun T h => by cases h), ⟨_, _, _, Try.runUnderlying85⟩⟩
theorem ti86 : TIok Try.prog 86 ⟨false, 1, [.d (.int .u64) (0 : Int)], some (.int .u64), .int .u64⟩ :=
  ⟨Try.isAgg86, Try.sizeOf86, ⟨_, Try.zeroValue86, ⟨[Value.int IntKind.u64 0], rfl, fun S w η => .cons (zi _) (.nil)⟩, (fun T h => by cases h; rfl)⟩, (fun T h => by cases h; exact ⟨rfl, rfl⟩), Try.runUnderlying86⟩
theorem ti87 : TIok Try.prog 87 ⟨false, 1, [.l .nilF], none, .fn⟩ :=
  ⟨Try.isAgg87, Try.sizeOf87, ⟨_, Try.zeroValue87, ⟨[Value.nilFunc], rfl, fun S w η => .cons (rfl) (.nil)⟩, (fun T h => by cases h)⟩, (fun T h => by cases h), ⟨_, _, _, Try.runUnderlying87⟩⟩
theorem ti88 : TIok Try.prog 88 ⟨false, 1, [.l .nilF], none, .fn⟩ :=
  ⟨Try.isAgg88, Try.sizeOf88, ⟨_, Try.zeroValue88, ⟨[Value.nilFunc], rfl, fun S w η => .cons (rfl) (.nil)⟩, (fun T h => by cases h)⟩, (fun T h => by cases h), ⟨_, _, _, Try.runUnderlying88⟩⟩
theorem ti89 : TIok Try.prog 89 ⟨false, 1, [.d (.int .i64) (0 : Int)], some (.int .i64), .int .i64⟩ :=
  ⟨Try.isAgg89, Try.sizeOf89, ⟨_, Try.zeroValue89, ⟨[Value.int IntKind.i64 0], rfl, fun S w η => .cons (zi _) (.nil)⟩, (fun T h => by cases h; rfl)⟩, (fun T h => by cases h; exact ⟨rfl, rfl⟩), Try.runUnderlying89⟩
theorem ti91 : TIok Try.prog 91 ⟨false, 1, [.l .nilF], none, .fn⟩ :=
  ⟨Try.isAgg91, Try.sizeOf91, ⟨_, Try.zeroValue91, ⟨[Value.nilFunc], rfl, fun S w η => .cons (rfl) (.nil)⟩, (fun T h => by cases h)⟩, (fun T h => by cases h), ⟨_, _, _, Try.runUnderlying91⟩⟩
theorem ti92 : TIok Try.prog 92 ⟨false, 1, [.l .nilF], none, .fn⟩ :=
  ⟨Try.isAgg92, Try.sizeOf92, ⟨_, Try.zeroValue92, ⟨[Value.nilFunc], rfl, fun S w η => .cons (rfl) (.nil)⟩, (fun T h => by cases h)⟩, (fun T h => by cases h), ⟨_, _, _, Try.runUnderlying92⟩⟩
theorem ti93 : TIok Try.prog 93 ⟨false, 1, [.l .nilF], none, .fn⟩ :=
  ⟨Try.isAgg93, Try.sizeOf93, ⟨_, Try.zeroValue93, ⟨[Value.nilFunc], rfl, fun S w η => .cons (rfl) (.nil)⟩, (fun T h => by cases h)⟩, (fun T h => by cases h), ⟨_, _, _, Try.runUnderlying93⟩⟩
theorem ti95 : TIok Try.prog 95 ⟨false, 1, [.l .nilF], none, .fn⟩ :=
  ⟨Try.isAgg95, Try.sizeOf95, ⟨_, Try.zeroValue95, ⟨[Value.nilFunc], rfl, fun S w η => .cons (rfl) (.nil)⟩, (fun T h => by cases h)⟩, (fun T h => by cases h), ⟨_, _, _, Try.runUnderlying95⟩⟩
theorem ti96 : TIok Try.prog 96 ⟨false, 1, [.l .nilF], none, .fn⟩ :=
  ⟨Try.isAgg96, Try.sizeOf96, ⟨_, Try.zeroValue96, ⟨[Value.nilFunc], rfl, fun S w η => .cons (rfl) (.nil)⟩, (fun T h => by cases h)⟩, (fun T h => by cases h), ⟨_, _, _, Try.runUnderlying96⟩⟩
theorem ti97 : TIok Try.prog 97 ⟨false, 1, [.d (.int .u32) (0 : Int)], some (.int .u32), .int .u32⟩ :=
  ⟨Try.isAgg97, Try.sizeOf97, ⟨_, Try.zeroValue97, ⟨[Value.int IntKind.u32 0], rfl, fun S w η => .cons (zi _) (.nil)⟩, (fun T h => by cases h; rfl)⟩, (fun T h => by cases h; exact ⟨rfl, rfl⟩), Try.runUnderlying97⟩
theorem ti98 : TIok Try.prog 98 ⟨false, 1, [.l .nilF], none, .fn⟩ :=
  ⟨Try.isAgg98, Try.sizeOf98, ⟨_, Try.zeroValue98, ⟨[Value.nilFunc], rfl, fun S w η => .cons (rfl) (.nil)⟩, (fun T h => by cases h)⟩, (fun T h => by cases h), ⟨_, _, _, Try.runUnderlying98⟩⟩
theorem ti99 : TIok Try.prog 99 ⟨false, 1, [.d (.int .u64) (0 : Int)], some (.int .u64), .int .u64⟩ :=
  ⟨Try.isAgg99, Try.sizeOf99, ⟨_, Try.zeroValue99, ⟨[Value.int IntKind.u64 0], rfl, fun S w η => .cons (zi _) (.nil)⟩, (fun T h => by cases h; rfl)⟩, (fun T h => by cases h; exact ⟨rfl, rfl⟩), Try.runUnderlying99⟩
theorem ti100 : TIok Try.prog 100 ⟨false, 1, [.d (.int .u64) (0 : Int)], some (.int .u64), .int .u64⟩ :=
  ⟨Try.isAgg100, Try.sizeOf100, ⟨_, Try.zeroValue100, ⟨[Value.int IntKind.u64 0], rfl, fun S w η => .cons (zi _) (.nil)⟩, (fun T h => by cases h; rfl)⟩, (fun T h => by cases h; exact ⟨rfl, rfl⟩), Try.runUnderlying100⟩
theorem ti101 : TIok Try.prog 101 ⟨false, 1, [.l .nilF], none, .fn⟩ :=
  ⟨Try.isAgg101, Try.sizeOf101, ⟨_, Try.zeroValue101, ⟨[Value.nilFunc], rfl, fun S w η => .cons (rfl) (.nil)⟩, (fun T h => by cases h)⟩, (fun T h => by cases h), ⟨_, _, _, Try.runUnderlying101⟩⟩
theorem ti102 : TIok Try.prog 102 ⟨false, 1, [.l .nilF], none, .fn⟩ :=
  ⟨Try.isAgg102, Try.sizeOf102, ⟨_, Try.zeroValue102, ⟨[Value.nilFunc], rfl, fun S w η => .cons (rfl) (.nil)⟩, (fun T h => by cases h)⟩, (fun T h => by cases h), ⟨_, _, _, Try.runUnderlying102⟩⟩
theorem ti103 : TIok Try.prog 103 ⟨false, 1, [.l .nilF], none, .fn⟩ :=
  ⟨Try.isAgg103, Try.sizeOf103, ⟨_, Try.zeroValue103, ⟨[Value.nilFunc], rfl, fun S w η => .cons (rfl) (.nil)⟩, (fun T h => by cases h)⟩, (fun T h => by cases h), ⟨_, _, _, Try.runUnderlying103⟩⟩
theorem ti104 : TIok Try.prog 104 ⟨false, 1, [.l .nilP], none, .ptr 3⟩ :=
  ⟨Try.isAgg104, Try.sizeOf104, ⟨_, Try.zeroValue104, ⟨[Value.pointer none], rfl, fun S w η => .cons (rfl) (.nil)⟩, (fun T h => by cases h)⟩, (fun T h => by cases h), Try.runUnderlying104⟩
theorem ti105 : TIok Try.prog 105 ⟨false, 1, [.l .nilF], none, .fn⟩ :=
  ⟨Try.isAgg105, Try.sizeOf105, ⟨_, Try.zeroValue105, ⟨[Value.nilFunc], rfl, fun S w η => .cons (rfl) (.nil)⟩, (fun T h => by cases h)⟩, (fun T h => by cases h), ⟨_, _, _, Try.runUnderlying105⟩⟩
theorem ti106 : TIok Try.prog 106 ⟨false, 1, [.l .nilP], none, .ptr 100⟩ :=
  ⟨Try.isAgg106, Try.sizeOf106, ⟨_, Try.zeroValue106, ⟨[Value.pointer none], rfl, fun S w η => .cons (rfl) (.nil)⟩, (fun T h => by cases h)⟩, (fun T h => by cases h), Try.runUnderlying106⟩
theorem ti108 : TIok Try.prog 108 ⟨false, 1, [.l .nilF], none, .fn⟩ :=
  ⟨Try.isAgg108, Try.sizeOf108, ⟨_, Try.zeroValue108, ⟨[Value.nilFunc], rfl, fun S w η => .cons (rfl) (.nil)⟩, (fun T h => by cases h)⟩, (fun T h => by cases h), ⟨_, _, _, Try.runUnderlying108⟩⟩
theorem ti109 : TIok Try.prog 109 ⟨false, 1, [.l .nilF], none, .fn⟩ :=
  ⟨Try.isAgg109, Try.sizeOf109, ⟨_, Try.zeroValue109, ⟨[Value.nilFunc], rfl, fun S w η => .cons (rfl) (.nil)⟩, (fun T h => by cases h)⟩, (fun T h => by cases h), ⟨_, _, _, Try.runUnderlying109⟩⟩
theorem ti110 : TIok Try.prog 110 ⟨true, 4, [.l .nilP, .l .nilP, .l .nilP, .d .str ([] : List UInt8)], none, .struct [(0, 17, 1), (1, 17, 1), (2, 17, 1), (3, 9, 1)]⟩ :=
  ⟨Try.isAgg110, Try.sizeOf110, ⟨_, Try.zeroValue110, ⟨[Value.pointer none, Value.pointer none, Value.pointer none, Value.string ⟨#[]⟩], rfl, fun S w η => .cons (rfl) (.cons (rfl) (.cons (rfl) (.cons (zs) (.nil))))⟩, (fun T h => by cases h)⟩, (fun T h => by cases h), ⟨_, Try.runUnderlying110, rfl, fun w => by simp [Try.sizeOf17, Try.sizeOf9]⟩⟩
theorem ti113 : TIok Try.prog 113 ⟨true, 0, [], none, .other⟩ :=
  ⟨Try.isAgg113, Try.sizeOf113, ⟨_, Try.zeroValue113, ⟨[], rfl, fun S w η => .nil⟩, (fun T h => by cases h)⟩, (fun T h => by cases h), trivial⟩
theorem ti115 : TIok Try.prog 115 ⟨false, 1, [.l .nilF], none, .fn⟩ :=
  ⟨Try.isAgg115, Try.sizeOf115, ⟨_, Try.zeroValue115, ⟨[Value.nilFunc], rfl, fun S w η => .cons (rfl) (.nil)⟩, (fun T h => by cases h)⟩, (fun T h => by cases h), ⟨_, _, _, Try.runUnderlying115⟩⟩
theorem ti118 : TIok Try.prog 118 ⟨false, 1, [.l .nilF], none, .fn⟩ :=
  ⟨Try.isAgg118, Try.sizeOf118, ⟨_, Try.zeroValue118, ⟨[Value.nilFunc], rfl, fun S w η => .cons (rfl) (.nil)⟩, (fun T h => by cases h)⟩, (fun T h => by cases h), ⟨_, _, _, Try.runUnderlying118⟩⟩
theorem ti119 : TIok Try.prog 119 ⟨false, 1, [.l .nilP], none, .ptr 5⟩ :=
  ⟨Try.isAgg119, Try.sizeOf119, ⟨_, Try.zeroValue119, ⟨[Value.pointer none], rfl, fun S w η => .cons (rfl) (.nil)⟩, (fun T h => by cases h)⟩, (fun T h => by cases h), Try.runUnderlying119⟩
theorem ti122 : TIok Try.prog 122 ⟨true, 11, [.d (.int .u64) (0 : Int), .d (.int .u64) (0 : Int), .d (.int .u32) (0 : Int), .d (.int .u8) (0 : Int), .d (.int .u8) (0 : Int), .d (.int .u8) (0 : Int), .d (.int .u8) (0 : Int), .l .nilF, .l .nilP, .d (.int .i32) (0 : Int), .d (.int .i32) (0 : Int)], none, .other⟩ :=
  ⟨Try.isAgg122, Try.sizeOf122, ⟨_, Try.zeroValue122, ⟨[Value.int IntKind.u64 0, Value.int IntKind.u64 0, Value.int IntKind.u32 0, Value.int IntKind.u8 0, Value.int IntKind.u8 0, Value.int IntKind.u8 0, Value.int IntKind.u8 0, Value.nilFunc, Value.pointer none, Value.int IntKind.i32 0, Value.int IntKind.i32 0], rfl, fun S w η => .cons (zi _) (.cons (zi _) (.cons (zi _) (.cons (zi _) (.cons (zi _) (.cons (zi _) (.cons (zi _) (.cons (rfl) (.cons (rfl) (.cons (zi _) (.cons (zi _) (.nil)))))))))))⟩, (fun T h => by cases h)⟩, (fun T h => by cases h), trivial⟩
theorem tyOK : ∀ id ti, lk tyTab id = some ti → TIok Try.prog id ti := by
  unfold tyTab
  refine lk_all ti1 ?_
  refine lk_all ti2 ?_
  refine lk_all ti3 ?_
  refine lk_all ti4 ?_
  refine lk_all ti5 ?_
  refine lk_all ti7 ?_
  refine lk_all ti9 ?_
  refine lk_all ti12 ?_
  refine lk_all ti13 ?_
  refine lk_all ti15 ?_
  refine lk_all ti16 ?_
  refine lk_all ti17 ?_
  refine lk_all ti18 ?_
  refine lk_all ti20 ?_
  refine lk_all ti21 ?_
  refine lk_all ti22 ?_
  refine lk_all ti23 ?_
  refine lk_all ti24 ?_
  refine lk_all ti25 ?_
  refine lk_all ti26 ?_
  refine lk_all ti27 ?_
  refine lk_all ti29 ?_
  refine lk_all ti30 ?_
  refine lk_all ti31 ?_
  refine lk_all ti32 ?_
  refine lk_all ti33 ?_
  refine lk_all ti34 ?_
  refine lk_all ti35 ?_
  refine lk_all ti36 ?_
  refine lk_all ti37 ?_
  refine lk_all ti38 ?_
  refine lk_all ti39 ?_
  refine lk_all ti41 ?_
  refine lk_all ti42 ?_
  refine lk_all ti43 ?_
  refine lk_all ti45 ?_
  refine lk_all ti47 ?_
  refine lk_all ti49 ?_
  refine lk_all ti50 ?_
  refine lk_all ti51 ?_
  refine lk_all ti53 ?_
  refine lk_all ti54 ?_
  refine lk_all ti55 ?_
  refine lk_all ti56 ?_
  refine lk_all ti57 ?_
  refine lk_all ti58 ?_
  refine lk_all ti59 ?_
  refine lk_all ti60 ?_
  refine lk_all ti61 ?_
  refine lk_all ti62 ?_
  refine lk_all ti63 ?_
  refine lk_all ti64 ?_
  refine lk_all ti65 ?_
  refine lk_all ti66 ?_
  refine lk_all ti67 ?_
  refine lk_all ti68 ?_
  refine lk_all ti69 ?_
  refine lk_all ti70 ?_
  refine lk_all ti71 ?_
  refine lk_all ti72 ?_
  refine lk_all ti73 ?_
  refine lk_all ti74 ?_
  refine lk_all ti75 ?_
  refine lk_all ti76 ?_
  refine lk_all ti77 ?_
  refine lk_all ti78 ?_
  refine lk_all ti79 ?_
  refine lk_all ti80 ?_
  refine lk_all ti81 ?_
  refine lk_all ti82 ?_
  refine lk_all ti83 ?_
  refine lk_all ti84 ?_
  refine lk_all ti85 ?_
  refine lk_all ti86 ?_
  refine lk_all ti87 ?_
  refine lk_all ti88 ?_
  refine lk_all ti89 ?_
  refine lk_all ti91 ?_
  refine lk_all ti92 ?_
  refine lk_all ti93 ?_
  refine lk_all ti95 ?_
  refine lk_all ti96 ?_
  refine lk_all ti97 ?_
  refine lk_all ti98 ?_
  refine lk_all ti99 ?_
  refine lk_all ti100 ?_
  refine lk_all ti101 ?_
  refine lk_all ti102 ?_
  refine lk_all ti103 ?_
  refine lk_all ti104 ?_
  refine lk_all ti105 ?_
  refine lk_all ti106 ?_
  refine lk_all ti108 ?_
  refine lk_all ti109 ?_
  refine lk_all ti110 ?_
  refine lk_all ti113 ?_
  refine lk_all ti115 ?_
  refine lk_all ti118 ?_
  refine lk_all ti119 ?_
  refine lk_all ti122 ?_
  exact lk_none
noncomputable def fnTab : List (FuncId × Func) := [(3, Try.f3), (4, Try.f4), (5, Try.f5), (6, Try.f6), (7, Try.f7), (8, Try.f8), (9, Try.f9), (10, Try.f10), (11, Try.f11), (12, Try.f12), (13, Try.f13), (14, Try.f14), (15, Try.f15), (16, Try.f16), (17, Try.f17), (18, Try.f18), (19, Try.f19), (20, Try.f20), (21, Try.f21), (22, Try.f22), (23, Try.f23), (24, Try.f24), (25, Try.f25), (26, Try.f26), (27, Try.f27), (28, Try.f28), (29, Try.f29), (30, Try.f30), (31, Try.f31), (32, Try.f32), (33, Try.f33), (34, Try.f34), (35, Try.f35), (36, Try.f36), (37, Try.f37), (38, Try.f38), (39, Try.f39), (40, Try.f40), (41, Try.f41), (42, Try.f42), (43, Try.f43), (44, Try.f44), (45, Try.f45), (46, Try.f46), (47, Try.f47), (48, Try.f48), (49, Try.f49), (50, Try.f50), (51, Try.f51), (52, Try.f52), (53, Try.f53), (54, Try.f54), (55, Try.f55), (56, Try.f56), (57, Try.f57), (58, Try.f58), (59, Try.f59), (60, Try.f60), (61, Try.f61), (62, Try.f62), (63, Try.f63), (64, Try.f64), (65, Try.f65), (66, Try.f66), (67, Try.f67), (68, Try.f68), (69, Try.f69), (70, Try.f70), (71, Try.f71), (72, Try.f72), (73, Try.f73)]
theorem fnOK : ∀ f fn, lk fnTab f = some fn → Try.prog.funcs[f]? = some fn ∧ ∀ (args : Array Value) (w : World), (callFunc f args).run Try.prog w = .ok (.enter f args) w := by
  unfold fnTab
  refine lk_all (p := fun f fn => Try.prog.funcs[f]? = some fn ∧ ∀ (args : Array Value) (w : World), (callFunc f args).run Try.prog w = .ok (.enter f args) w) ⟨Try.func3, Try.call3⟩ ?_
  refine lk_all (p := fun f fn => Try.prog.funcs[f]? = some fn ∧ ∀ (args : Array Value) (w : World), (callFunc f args).run Try.prog w = .ok (.enter f args) w) ⟨Try.func4, Try.call4⟩ ?_
  refine lk_all (p := fun f fn => Try.prog.funcs[f]? = some fn ∧ ∀ (args : Array Value) (w : World), (callFunc f args).run Try.prog w = .ok (.enter f args) w) ⟨Try.func5, Try.call5⟩ ?_
  refine lk_all (p := fun f fn => Try.prog.funcs[f]? = some fn ∧ ∀ (args : Array Value) (w : World), (callFunc f args).run Try.prog w = .ok (.enter f args) w) ⟨Try.func6, Try.call6⟩ ?_
  refine lk_all (p := fun f fn => Try.prog.funcs[f]? = some fn ∧ ∀ (args : Array Value) (w : World), (callFunc f args).run Try.prog w = .ok (.enter f args) w) ⟨Try.func7, Try.call7⟩ ?_
  refine lk_all (p := fun f fn => Try.prog.funcs[f]? = some fn ∧ ∀ (args : Array Value) (w : World), (callFunc f args).run Try.prog w = .ok (.enter f args) w) ⟨Try.func8, Try.call8⟩ ?_
  refine lk_all (p := fun f fn => Try.prog.funcs[f]? = some fn ∧ ∀ (args : Array Value) (w : World), (callFunc f args).run Try.prog w = .ok (.enter f args) w) ⟨Try.func9, Try.call9⟩ ?_
  refine lk_all (p := fun f fn => Try.prog.funcs[f]? = some fn ∧ ∀ (args : Array Value) (w : World), (callFunc f args).run Try.prog w = .ok (.enter f args) w) ⟨Try.func10, Try.call10⟩ ?_
  refine lk_all (p := fun f fn => Try.prog.funcs[f]? = some fn ∧ ∀ (args : Array Value) (w : World), (callFunc f args).run Try.prog w = .ok (.enter f args) w) ⟨Try.func11, Try.call11⟩ ?_
  refine lk_all (p := fun f fn => Try.prog.funcs[f]? = some fn ∧ ∀ (args : Array Value) (w : World), (callFunc f args).run Try.prog w = .ok (.enter f args) w) ⟨Try.func12, Try.call12⟩ ?_
  refine lk_all (p := fun f fn => Try.prog.funcs[f]? = some fn ∧ ∀ (args : Array Value) (w : World), (callFunc f args).run Try.prog w = .ok (.enter f args) w) ⟨Try.func13, Try.call13⟩ ?_
  refine lk_all (p := fun f fn => Try.prog.funcs[f]? = some fn ∧ ∀ (args : Array Value) (w : World), (callFunc f args).run Try.prog w = .ok (.enter f args) w) ⟨Try.func14, Try.call14⟩ ?_
  refine lk_all (p := fun f fn => Try.prog.funcs[f]? = some fn ∧ ∀ (args : Array Value) (w : World), (callFunc f args).run Try.prog w = .ok (.enter f args) w) ⟨Try.func15, Try.call15⟩ ?_
  refine lk_all (p := fun f fn => Try.prog.funcs[f]? = some fn ∧ ∀ (args : Array Value) (w : World), (callFunc f args).run Try.prog w = .ok (.enter f args) w) ⟨Try.func16, Try.call16⟩ ?_
  refine lk_all (p := fun f fn => Try.prog.funcs[f]? = some fn ∧ ∀ (args : Array Value) (w : World), (callFunc f args).run Try.prog w = .ok (.enter f args) w) ⟨Try.func17, Try.call17⟩ ?_
  refine lk_all (p := fun f fn => Try.prog.funcs[f]? = some fn ∧ ∀ (args : Array Value) (w : World), (callFunc f args).run Try.prog w = .ok (.enter f args) w) ⟨Try.func18, Try.call18⟩ ?_
  refine lk_all (p := fun f fn => Try.prog.funcs[f]? = some fn ∧ ∀ (args : Array Value) (w : World), (callFunc f args).run Try.prog w = .ok (.enter f args) w) ⟨Try.func19, Try.call19⟩ ?_
  refine lk_all (p := fun f fn => Try.prog.funcs[f]? = some fn ∧ ∀ (args : Array Value) (w : World), (callFunc f args).run Try.prog w = .ok (.enter f args) w) ⟨Try.func20, Try.call20⟩ ?_
  refine lk_all (p := fun f fn => Try.prog.funcs[f]? = some fn ∧ ∀ (args : Array Value) (w : World), (callFunc f args).run Try.prog w = .ok (.enter f args) w) ⟨Try.func21, Try.call21⟩ ?_
  refine lk_all (p := fun f fn => Try.prog.funcs[f]? = some fn ∧ ∀ (args : Array Value) (w : World), (callFunc f args).run Try.prog w = .ok (.enter f args) w) ⟨Try.func22, Try.call22⟩ ?_
  refine lk_all (p := fun f fn => Try.prog.funcs[f]? = some fn ∧ ∀ (args : Array Value) (w : World), (callFunc f args).run Try.prog w = .ok (.enter f args) w) ⟨Try.func23, Try.call23⟩ ?_
  refine lk_all (p := fun f fn => Try.prog.funcs[f]? = some fn ∧ ∀ (args : Array Value) (w : World), (callFunc f args).run Try.prog w = .ok (.enter f args) w) ⟨Try.func24, Try.call24⟩ ?_
  refine lk_all (p := fun f fn => Try.prog.funcs[f]? = some fn ∧ ∀ (args : Array Value) (w : World), (callFunc f args).run Try.prog w = .ok (.enter f args) w) ⟨Try.func25, Try.call25⟩ ?_
  refine lk_all (p := fun f fn => Try.prog.funcs[f]? = some fn ∧ ∀ (args : Array Value) (w : World), (callFunc f args).run Try.prog w = .ok (.enter f args) w) ⟨Try.func26, Try.call26⟩ ?_
  refine lk_all (p := fun f fn => Try.prog.funcs[f]? = some fn ∧ ∀ (args : Array Value) (w : World), (callFunc f args).run Try.prog w = .ok (.enter f args) w) ⟨Try.func27, Try.call27⟩ ?_
  refine lk_all (p := fun f fn => Try.prog.funcs[f]? = some fn ∧ ∀ (args : Array Value) (w : World), (callFunc f args).run Try.prog w = .ok (.enter f args) w) ⟨Try.func28, Try.call28⟩ ?_
  refine lk_all (p := fun f fn => Try.prog.funcs[f]? = some fn ∧ ∀ (args : Array Value) (w : World), (callFunc f args).run Try.prog w = .ok (.enter f args) w) ⟨Try.func29, Try.call29⟩ ?_
  refine lk_all (p := fun f fn => Try.prog.funcs[f]? = some fn ∧ ∀ (args : Array Value) (w : World), (callFunc f args).run Try.prog w = .ok (.enter f args) w) ⟨Try.func30, Try.call30⟩ ?_
  refine lk_all (p := fun f fn => Try.prog.funcs[f]? = some fn ∧ ∀ (args : Array Value) (w : World), (callFunc f args).run Try.prog w = .ok (.enter f args) w) ⟨Try.func31, Try.call31⟩ ?_
  refine lk_all (p := fun f fn => Try.prog.funcs[f]? = some fn ∧ ∀ (args : Array Value) (w : World), (callFunc f args).run Try.prog w = .ok (.enter f args) w) ⟨Try.func32, Try.call32⟩ ?_
  refine lk_all (p := fun f fn => Try.prog.funcs[f]? = some fn ∧ ∀ (args : Array Value) (w : World), (callFunc f args).run Try.prog w = .ok (.enter f args) w) ⟨Try.func33, Try.call33⟩ ?_
  refine lk_all (p := fun f fn => Try.prog.funcs[f]? = some fn ∧ ∀ (args : Array Value) (w : World), (callFunc f args).run Try.prog w = .ok (.enter f args) w) ⟨Try.func34, Try.call34⟩ ?_
  refine lk_all (p := fun f fn => Try.prog.funcs[f]? = some fn ∧ ∀ (args : Array Value) (w : World), (callFunc f args).run Try.prog w = .ok (.enter f args) w) ⟨Try.func35, Try.call35⟩ ?_
  refine lk_all (p := fun f fn => Try.prog.funcs[f]? = some fn ∧ ∀ (args : Array Value) (w : World), (callFunc f args).run Try.prog w = .ok (.enter f args) w) ⟨Try.func36, Try.call36⟩ ?_
  refine lk_all (p := fun f fn => Try.prog.funcs[f]? = some fn ∧ ∀ (args : Array Value) (w : World), (callFunc f args).run Try.prog w = .ok (.enter f args) w) ⟨Try.func37, Try.call37⟩ ?_
  refine lk_all (p := fun f fn => Try.prog.funcs[f]? = some fn ∧ ∀ (args : Array Value) (w : World), (callFunc f args).run Try.prog w = .ok (.enter f args) w) ⟨Try.func38, Try.call38⟩ ?_
  refine lk_all (p := fun f fn => Try.prog.funcs[f]? = some fn ∧ ∀ (args : Array Value) (w : World), (callFunc f args).run Try.prog w = .ok (.enter f args) w) ⟨Try.func39, Try.call39⟩ ?_
  refine lk_all (p := fun f fn => Try.prog.funcs[f]? = some fn ∧ ∀ (args : Array Value) (w : World), (callFunc f args).run Try.prog w = .ok (.enter f args) w) ⟨Try.func40, Try.call40⟩ ?_
  refine lk_all (p := fun f fn => Try.prog.funcs[f]? = some fn ∧ ∀ (args : Array Value) (w : World), (callFunc f args).run Try.prog w = .ok (.enter f args) w) ⟨Try.func41, Try.call41⟩ ?_
  refine lk_all (p := fun f fn => Try.prog.funcs[f]? = some fn ∧ ∀ (args : Array Value) (w : World), (callFunc f args).run Try.prog w = .ok (.enter f args) w) ⟨Try.func42, Try.call42⟩ ?_
  refine lk_all (p := fun f fn => Try.prog.funcs[f]? = some fn ∧ ∀ (args : Array Value) (w : World), (callFunc f args).run Try.prog w = .ok (.enter f args) w) ⟨Try.func43, Try.call43⟩ ?_
  refine lk_all (p := fun f fn => Try.prog.funcs[f]? = some fn ∧ ∀ (args : Array Value) (w : World), (callFunc f args).run Try.prog w = .ok (.enter f args) w) ⟨Try.func44, Try.call44⟩ ?_
  refine lk_all (p := fun f fn => Try.prog.funcs[f]? = some fn ∧ ∀ (args : Array Value) (w : World), (callFunc f args).run Try.prog w = .ok (.enter f args) w) ⟨Try.func45, Try.call45⟩ ?_
  refine lk_all (p := fun f fn => Try.prog.funcs[f]? = some fn ∧ ∀ (args : Array Value) (w : World), (callFunc f args).run Try.prog w = .ok (.enter f args) w) ⟨Try.func46, Try.call46⟩ ?_
  refine lk_all (p := fun f fn => Try.prog.funcs[f]? = some fn ∧ ∀ (args : Array Value) (w : World), (callFunc f args).run Try.prog w = .ok (.enter f args) w) ⟨Try.func47, Try.call47⟩ ?_
  refine lk_all (p := fun f fn => Try.prog.funcs[f]? = some fn ∧ ∀ (args : Array Value) (w : World), (callFunc f args).run Try.prog w = .ok (.enter f args) w) ⟨Try.func48, Try.call48⟩ ?_
  refine lk_all (p := fun f fn => Try.prog.funcs[f]? = some fn ∧ ∀ (args : Array Value) (w : World), (callFunc f args).run Try.prog w = .ok (.enter f args) w) ⟨Try.func49, Try.call49⟩ ?_
  refine lk_all (p := fun f fn => Try.prog.funcs[f]? = some fn ∧ ∀ (args : Array Value) (w : World), (callFunc f args).run Try.prog w = .ok (.enter f args) w) ⟨Try.func50, Try.call50⟩ ?_
  refine lk_all (p := fun f fn => Try.prog.funcs[f]? = some fn ∧ ∀ (args : Array Value) (w : World), (callFunc f args).run Try.prog w = .ok (.enter f args) w) ⟨Try.func51, Try.call51⟩ ?_
  refine lk_all (p := fun f fn => Try.prog.funcs[f]? = some fn ∧ ∀ (args : Array Value) (w : World), (callFunc f args).run Try.prog w = .ok (.enter f args) w) ⟨Try.func52, Try.call52⟩ ?_
  refine lk_all (p := fun f fn => Try.prog.funcs[f]? = some fn ∧ ∀ (args : Array Value) (w : World), (callFunc f args).run Try.prog w = .ok (.enter f args) w) ⟨Try.func53, Try.call53⟩ ?_
  refine lk_all (p := fun f fn => Try.prog.funcs[f]? = some fn ∧ ∀ (args : Array Value) (w : World), (callFunc f args).run Try.prog w = .ok (.enter f args) w) ⟨Try.func54, Try.call54⟩ ?_
  refine lk_all (p := fun f fn => Try.prog.funcs[f]? = some fn ∧ ∀ (args : Array Value) (w : World), (callFunc f args).run Try.prog w = .ok (.enter f args) w) ⟨Try.func55, Try.call55⟩ ?_
  refine lk_all (p := fun f fn => Try.prog.funcs[f]? = some fn ∧ ∀ (args : Array Value) (w : World), (callFunc f args).run Try.prog w = .ok (.enter f args) w) ⟨Try.func56, Try.call56⟩ ?_
  refine lk_all (p := fun f fn => Try.prog.funcs[f]? = some fn ∧ ∀ (args : Array Value) (w : World), (callFunc f args).run Try.prog w = .ok (.enter f args) w) ⟨Try.func57, Try.call57⟩ ?_
  refine lk_all (p := fun f fn => Try.prog.funcs[f]? = some fn ∧ ∀ (args : Array Value) (w : World), (callFunc f args).run Try.prog w = .ok (.enter f args) w) ⟨Try.func58, Try.call58⟩ ?_
  refine lk_all (p := fun f fn => Try.prog.funcs[f]? = some fn ∧ ∀ (args : Array Value) (w : World), (callFunc f args).run Try.prog w = .ok (.enter f args) w) ⟨Try.func59, Try.call59⟩ ?_
  refine lk_all (p := fun f fn => Try.prog.funcs[f]? = some fn ∧ ∀ (args : Array Value) (w : World), (callFunc f args).run Try.prog w = .ok (.enter f args) w) ⟨Try.func60, Try.call60⟩ ?_
  refine lk_all (p := fun f fn => Try.prog.funcs[f]? = some fn ∧ ∀ (args : Array Value) (w : World), (callFunc f args).run Try.prog w = .ok (.enter f args) w) ⟨Try.func61, Try.call61⟩ ?_
  refine lk_all (p := fun f fn => Try.prog.funcs[f]? = some fn ∧ ∀ (args : Array Value) (w : World), (callFunc f args).run Try.prog w = .ok (.enter f args) w) ⟨Try.func62, Try.call62⟩ ?_
  refine lk_all (p := fun f fn => Try.prog.funcs[f]? = some fn ∧ ∀ (args : Array Value) (w : World), (callFunc f args).run Try.prog w = .ok (.enter f args) w) ⟨Try.func63, Try.call63⟩ ?_
  refine lk_all (p := fun f fn => Try.prog.funcs[f]? = some fn ∧ ∀ (args : Array Value) (w : World), (callFunc f args).run Try.prog w = .ok (.enter f args) w) ⟨Try.func64, Try.call64⟩ ?_
  refine lk_all (p := fun f fn => Try.prog.funcs[f]? = some fn ∧ ∀ (args : Array Value) (w : World), (callFunc f args).run Try.prog w = .ok (.enter f args) w) ⟨Try.func65, Try.call65⟩ ?_
  refine lk_all (p := fun f fn => Try.prog.funcs[f]? = some fn ∧ ∀ (args : Array Value) (w : World), (callFunc f args).run Try.prog w = .ok (.enter f args) w) ⟨Try.func66, Try.call66⟩ ?_
  refine lk_all (p := fun f fn => Try.prog.funcs[f]? = some fn ∧ ∀ (args : Array Value) (w : World), (callFunc f args).run Try.prog w = .ok (.enter f args) w) ⟨Try.func67, Try.call67⟩ ?_
  refine lk_all (p := fun f fn => Try.prog.funcs[f]? = some fn ∧ ∀ (args : Array Value) (w : World), (callFunc f args).run Try.prog w = .ok (.enter f args) w) ⟨Try.func68, Try.call68⟩ ?_
  refine lk_all (p := fun f fn => Try.prog.funcs[f]? = some fn ∧ ∀ (args : Array Value) (w : World), (callFunc f args).run Try.prog w = .ok (.enter f args) w) ⟨Try.func69, Try.call69⟩ ?_
  refine lk_all (p := fun f fn => Try.prog.funcs[f]? = some fn ∧ ∀ (args : Array Value) (w : World), (callFunc f args).run Try.prog w = .ok (.enter f args) w) ⟨Try.func70, Try.call70⟩ ?_
  refine lk_all (p := fun f fn => Try.prog.funcs[f]? = some fn ∧ ∀ (args : Array Value) (w : World), (callFunc f args).run Try.prog w = .ok (.enter f args) w) ⟨Try.func71, Try.call71⟩ ?_
  refine lk_all (p := fun f fn => Try.prog.funcs[f]? = some fn ∧ ∀ (args : Array Value) (w : World), (callFunc f args).run Try.prog w = .ok (.enter f args) w) ⟨Try.func72, Try.call72⟩ ?_
  refine lk_all (p := fun f fn => Try.prog.funcs[f]? = some fn ∧ ∀ (args : Array Value) (w : World), (callFunc f args).run Try.prog w = .ok (.enter f args) w) ⟨Try.func73, Try.call73⟩ ?_
  exact lk_none
set_option maxRecDepth 100000 in
theorem eqOK51 : EqOK Try.prog 51 [.int .i64, .int .i64] := by
  refine ⟨by kernel_rfl, fun vs us h1 h2 w => ?_⟩
  rcases h1 with _ | ⟨⟨a0, rfl⟩, _ | ⟨⟨a1, rfl⟩, _ | _⟩⟩
  rcases h2 with _ | ⟨⟨b0, rfl⟩, _ | ⟨⟨b1, rfl⟩, _ | _⟩⟩
  have u3 := Try.underlying3
  have x3 := Try.isAgg3
  have z3 := Try.sizeOf3
  have hS : Try.prog.underlying 51 = some (.struct (Try.prog.fieldsOf 51)) := by kernel_rfl
  have hp : Try.prog.stoodInHeld 51 = false := by kernel_rfl
  rw [show (10000 : Nat) = 9999 + 1 from rfl, run_equalIn_agg w 9999 51 _ _ hS hp]
  simp only [Program.fieldsOf, Try.underlying51]
  go_simp
  by_cases e0 : a0 = b0
  all_goals by_cases e1 : a1 = b1
  all_goals simp [eqVs, eqV, ByteArray.toList_eq, e0, e1]
set_option maxRecDepth 100000 in
theorem eqOK58 : EqOK Try.prog 58 [.int .i64, .int .i64] := by
  refine ⟨by kernel_rfl, fun vs us h1 h2 w => ?_⟩
  rcases h1 with _ | ⟨⟨a0, rfl⟩, _ | ⟨⟨a1, rfl⟩, _ | _⟩⟩
  rcases h2 with _ | ⟨⟨b0, rfl⟩, _ | ⟨⟨b1, rfl⟩, _ | _⟩⟩
  have u3 := Try.underlying3
  have x3 := Try.isAgg3
  have z3 := Try.sizeOf3
  have hS : Try.prog.underlying 58 = some (.struct (Try.prog.fieldsOf 58)) := by kernel_rfl
  have hp : Try.prog.stoodInHeld 58 = false := by kernel_rfl
  rw [show (10000 : Nat) = 9999 + 1 from rfl, run_equalIn_agg w 9999 58 _ _ hS hp]
  simp only [Program.fieldsOf, Try.underlying58]
  go_simp
  by_cases e0 : a0 = b0
  all_goals by_cases e1 : a1 = b1
  all_goals simp [eqVs, eqV, ByteArray.toList_eq, e0, e1]
def eqTab : List (TypeId × List Ty) := [(51, [.int .i64, .int .i64]), (58, [.int .i64, .int .i64])]
theorem eqsOK : ∀ t ks, lk eqTab t = some ks → EqOK Try.prog t ks := by
  unfold eqTab
  refine lk_all (p := fun t ks => EqOK Try.prog t ks) eqOK51 ?_
  refine lk_all (p := fun t ks => EqOK Try.prog t ks) eqOK58 ?_
  exact lk_none
noncomputable def tabs : Tabs := ⟨tyTab, fnTab, [], [], [], eqTab⟩
theorem tabsOK : TabOK Try.prog tabs := ⟨tyOK, fnOK, (fun _ _ h => by cases h), (fun _ _ h => by cases h), by kernel_rfl, (fun _ h => by cases h), eqsOK⟩
end Go.Proofs.Ytblachgndbmhaaa
/-
  Models of the functions of this seat, and that the functions compute them (printed by gen_models.py). No conditions.
-/
namespace Go.Proofs.Ytblachgndbmhaaa
open Go Go.Abs Go.PE Go.Proofs
set_option linter.unusedVariables false
set_option maxRecDepth 100000

/-! putlog/ring.isIn -/
def as37 : List Ty := [tI, tI, tI]
def rs37 : List Ty := [.bool]
noncomputable def an37 : Ann := .a
noncomputable def m37 : (Int × Int × Int) → Option (Bool) :=
  fun (x : Int × Int × Int) => some (PE.andM (leM x.2.1 x.1) (leM x.1 x.2.2))
theorem c37 : SpecOK Try.prog 37 ⟨as37, rs37, m37⟩ :=
  fnM_ok (own := []) (an := an37) (n := 400) tabsOK (F := OPS) OPS_sound OPS_nice (f := 37) (fn := Try.f37) (code := Try.f37.body.getD .skip) (by kernel_rfl) (by kernel_rfl) (by kernel_rfl) fun x => by kernel_rfl
noncomputable def tabs37 : Tabs := Tabs.add tabs 37 ⟨as37, rs37, m37⟩
theorem tabs37OK : TabOK Try.prog tabs37 := TabOK.add tabsOK c37 Try.call37

/-! putlog/ring.areWidths$1 -/
def as47 : List Ty := [tI]
def rs47 : List Ty := [.bool]
noncomputable def an47 : Ann := .a
noncomputable def m47 : Int → Option (Bool) :=
  fun (x : Int) => Option.bind (m37 (x, (1 : Int), (9999 : Int))) fun (r : Bool) => some (PE.notM r)
theorem c47 : SpecOK Try.prog 47 ⟨as47, rs47, m47⟩ :=
  fnM_ok (own := []) (an := an47) (n := 400) tabs37OK (F := OPS) OPS_sound OPS_nice (f := 47) (fn := Try.f47) (code := Try.f47.body.getD .skip) (by kernel_rfl) (by kernel_rfl) (by kernel_rfl) fun x => by kernel_rfl
noncomputable def tabs47 : Tabs := Tabs.add tabs37 47 ⟨as47, rs47, m47⟩
theorem tabs47OK : TabOK Try.prog tabs47 := TabOK.add tabs37OK c47 Try.call47

/-! putlog/ring.areWidths -/
def as36 : List Ty := [(.list tI), tI]
def rs36 : List Ty := [.bool]
noncomputable def an36 : Ann := .seq (.a) (.seq (.a) (.seq (.reg [] [] [.s [] [], .s [] [], .s [] [], .s [] [], .s [] [], .s [] [], .s [] [], .r, .s [] [], .s [] [], .s [] []] (.call [] [(.norm, ⟨[(13, .r (.c (.d (.d .bool))))], [], [], []⟩)] (.seq (.a) (.seq (.reg [] [] [.s [] [], .s [] [], .r, .s [] [], .s [] []] (.call [] [(.norm, ⟨[(7, .r (.c (.d (.d tI))))], [], [], []⟩)] (.seq (.a) (.seq (.seq (.a) (.block (.loop ⟨[(8, .r (.c (.d (.d tI))))], [5, 9, 10, 11, 12, 13, 14, 15, 16, 18], [], []⟩ [(.exit 0, ⟨[], [5, 8, 9, 10, 11, 12, 13, 14, 15, 16, 18], [], []⟩), (.ret, ⟨[(4, .r (.c (.d (.d tI))))], [5, 8, 9, 10, 11, 12, 13, 14, 15, 16, 17, 18], [], []⟩)] (.a)))) (.a))) (.a))) (.a))) (.a))) (.a)))
noncomputable def m36 : (List Int × Int) → Option (Bool) :=
  fun (x : List Int × Int) =>
    Option.bind (m37 (lenM x.1, (2 : Int), x.2)) fun (r : Bool) =>
      Option.bind
        (bif r then
          Option.bind
            (Option.bind
              (loopM
                (fun (s : Int) =>
                  bif ltM s (lenM x.1) then
                    Option.bind (idxM x.1 s) fun (r_1 : Int) =>
                      Option.bind (m47 r_1) fun (r : Bool) =>
                        bif r then some (Sum.inr (Sum.inr s))
                        else some (Sum.inl (IntKind.wrap IntKind.i64 (s + (1 : Int))))
                  else some (Sum.inr (Sum.inl ())))
                (0 : Int))
              fun (o : Unit ⊕ Int) => Sum.elim (fun (t : Unit) => some (-1 : Int)) (fun (t : Int) => some t) o)
            fun (ov : Int) => some (leM (0 : Int) ov)
        else some false)
        fun (ov : Bool) => some (PE.andM r (PE.notM ov))
theorem c36 : SpecOK Try.prog 36 ⟨as36, rs36, m36⟩ :=
  fnM_ok (own := []) (an := an36) (n := 400) tabs47OK (F := OPS) OPS_sound OPS_nice (f := 36) (fn := Try.f36) (code := Try.f36.body.getD .skip) (by kernel_rfl) (by kernel_rfl) (by kernel_rfl) fun x => by kernel_rfl
noncomputable def tabs36 : Tabs := Tabs.add tabs47 36 ⟨as36, rs36, m36⟩
theorem tabs36OK : TabOK Try.prog tabs36 := TabOK.add tabs47OK c36 Try.call36

/-! putlog/ring.Valid -/
def as17 : List Ty := [(.pair tI (.list tI))]
def rs17 : List Ty := [.bool]
noncomputable def an17 : Ann := .a
noncomputable def m17 : (Int × List Int) → Option (Bool) :=
  fun (x : Int × List Int) =>
    Option.bind (m36 (x.2, (200 : Int))) fun (r : Bool) =>
      Option.bind (bif r then m37 (x.1, (0 : Int), IntKind.wrap IntKind.i64 ((2101 : Int) - lenM x.2)) else some false)
        fun (r_1 : Bool) => some (PE.andM r r_1)
theorem c17 : SpecOK Try.prog 17 ⟨as17, rs17, m17⟩ :=
  fnM_ok (own := []) (an := an17) (n := 400) tabs36OK (F := OPS) OPS_sound OPS_nice (f := 17) (fn := Try.f17) (code := Try.f17.body.getD .skip) (by kernel_rfl) (by kernel_rfl) (by kernel_rfl) fun x => by kernel_rfl
noncomputable def tabs17 : Tabs := Tabs.add tabs36 17 ⟨as17, rs17, m17⟩
theorem tabs17OK : TabOK Try.prog tabs17 := TabOK.add tabs36OK c17 Try.call17

/-! putlog/ring.Sample -/
def as25 : List Ty := [(.list tI)]
def rs25 : List Ty := [.bool]
noncomputable def an25 : Ann := .a
noncomputable def m25 : List Int → Option (Bool) :=
  fun (x : List Int) => Option.bind (m36 (x, (60 : Int))) fun (r : Bool) => some r
theorem c25 : SpecOK Try.prog 25 ⟨as25, rs25, m25⟩ :=
  fnM_ok (own := []) (an := an25) (n := 400) tabs17OK (F := OPS) OPS_sound OPS_nice (f := 25) (fn := Try.f25) (code := Try.f25.body.getD .skip) (by kernel_rfl) (by kernel_rfl) (by kernel_rfl) fun x => by kernel_rfl
noncomputable def tabs25 : Tabs := Tabs.add tabs17 25 ⟨as25, rs25, m25⟩
theorem tabs25OK : TabOK Try.prog tabs25 := TabOK.add tabs17OK c25 Try.call25

/-! cmp.isNaN[int] -/
def as55 : List Ty := [tI]
def rs55 : List Ty := [.bool]
noncomputable def an55 : Ann := .a
noncomputable def m55 : Int → Option (Bool) :=
  fun (x : Int) => some (PE.notM (eqM x x))
theorem c55 : SpecOK Try.prog 55 ⟨as55, rs55, m55⟩ :=
  fnM_ok (own := []) (an := an55) (n := 400) tabs25OK (F := OPS) OPS_sound OPS_nice (f := 55) (fn := Try.f55) (code := Try.f55.body.getD .skip) (by kernel_rfl) (by kernel_rfl) (by kernel_rfl) fun x => by kernel_rfl
noncomputable def tabs55 : Tabs := Tabs.add tabs25 55 ⟨as55, rs55, m55⟩
theorem tabs55OK : TabOK Try.prog tabs55 := TabOK.add tabs25OK c55 Try.call55

/-! cmp.Compare[int] -/
def as45 : List Ty := [tI, tI]
def rs45 : List Ty := [tI]
noncomputable def an45 : Ann := .a
noncomputable def m45 : (Int × Int) → Option (Int) :=
  fun (x : Int × Int) =>
    Option.bind (m55 x.1) fun (r : Bool) =>
      Option.bind (m55 x.2) fun (r_1 : Bool) =>
        bif r then bif r_1 then some (0 : Int) else some (-1 : Int)
        else
          bif r_1 then some (1 : Int)
          else bif ltM x.1 x.2 then some (-1 : Int) else bif ltM x.2 x.1 then some (1 : Int) else some (0 : Int)
theorem c45 : SpecOK Try.prog 45 ⟨as45, rs45, m45⟩ :=
  fnM_ok (own := []) (an := an45) (n := 400) tabs55OK (F := OPS) OPS_sound OPS_nice (f := 45) (fn := Try.f45) (code := Try.f45.body.getD .skip) (by kernel_rfl) (by kernel_rfl) (by kernel_rfl) fun x => by kernel_rfl
noncomputable def tabs45 : Tabs := Tabs.add tabs55 45 ⟨as45, rs45, m45⟩
theorem tabs45OK : TabOK Try.prog tabs45 := TabOK.add tabs55OK c45 Try.call45

/-! putlog/ring.differ$1 -/
def as52 : List Ty := [(.pair tI tI)]
def rs52 : List Ty := [.bool]
noncomputable def an52 : Ann := .a
noncomputable def m52 : (Int × Int) → Option (Bool) :=
  fun (x : Int × Int) => some (PE.notM (eqM x.1 x.2))
theorem c52 : SpecOK Try.prog 52 ⟨as52, rs52, m52⟩ :=
  fnM_ok (own := []) (an := an52) (n := 400) tabs45OK (F := OPS) OPS_sound OPS_nice (f := 52) (fn := Try.f52) (code := Try.f52.body.getD .skip) (by kernel_rfl) (by kernel_rfl) (by kernel_rfl) fun x => by kernel_rfl
noncomputable def tabs52 : Tabs := Tabs.add tabs45 52 ⟨as52, rs52, m52⟩
theorem tabs52OK : TabOK Try.prog tabs52 := TabOK.add tabs45OK c52 Try.call52

/-! putlog/ring.differ -/
def as41 : List Ty := [(.list tI), (.list tI)]
def rs41 : List Ty := [tI]
noncomputable def an41 : Ann := .seq (.a) (.seq (.reg [] [] [.s [] [], .s [] [], .r, .r, .s [] []] (.call [] [] (.seq (.a) (.a)) (.call [] [] (.seq (.a) (.seq (.a) (.seq (.seq (.a) (.block (.call [] [] (.seq (.a) (.seq (.reg [] [] [.s [0] [], .r] (.call [] [] (.seq (.a) (.a)) (.a))) (.block (.call [] [] (.seq (.a) (.block (.loop ⟨[(3, .r (.c (.d (.d tI))))], [4, 5, 6, 7, 8, 9, 10, 11, 12, 13, 14, 15, 16, 17, 18, 19, 20, 21, 22, 23, 24], [(3, .box [.d (.d tI)]), (4, .lp .ready), (7, .lp .ready)], []⟩ [(.exit 0, ⟨[], [3, 4, 5, 6, 7, 8, 9, 10, 11, 12, 13, 14, 15, 16, 17, 18, 19, 20, 21, 22, 23, 24], [(3, .box [.d (.d tI)]), (4, .lp .ready), (7, .lp .ready)], []⟩)] (.seq (.a) (.seq (.block (.seq (.reg [0, 0, 2, 0, 0, 24, 56, 0, 0, 256, 896, 1920, 4088, 8191, 16383] [0, 1, 2, 3, 4, 5, 6, 7, 8, 9, 10, 11, 12, 13, 14] [.s [] [], .s [] [], .s [] [], .s [6] [], .s [] [], .s [] [], .s [] [], .s [6] [], .s [] [], .s [] [], .s [] [], .s [] [], .s [] [], .r, .s [] []] (.call [] [] (.seq (.a) (.block (.seq (.reg [0, 0, 0, 0, 8, 28, 60, 0, 0, 384, 896, 2044, 4094, 8191, 16383] [0, 1, 2, 3, 4, 5, 6, 7, 8, 9, 10, 11, 12, 13, 14] [.s [5] [], .s [] [], .s [1] [], .s [] [], .s [] [], .s [] [], .s [] [], .s [1] [], .s [] [], .s [] [], .s [] [], .s [] [], .s [] [], .r, .s [] []] (.call [] [] (.seq (.a) (.a)) (.a))) (.a)))) (.a))) (.a))) (.a)))))) (.a))))) (.a)))) (.a)))) (.a)))) (.a))
noncomputable def m41 : (List Int × List Int) → Option (Int) :=
  fun (x : List Int × List Int) =>
    Option.bind
      (loopM
        (fun (s : Int × Int) =>
          bif ltM s.1 (lenM x.1) then
            Option.bind (idxM x.1 s.1) fun (r : Int) =>
              Option.bind (idxM x.1 (IntKind.wrap IntKind.i64 (s.1 - (1 : Int)))) fun (r_1 : Int) =>
                Option.bind (m45 (r, r_1)) fun (r_2 : Int) =>
                  Option.bind
                    (idxM x.2 (IntKind.wrap IntKind.i64 (IntKind.wrap IntKind.i64 (s.1 - (1 : Int)) + (1 : Int))))
                    fun (r_3 : Int) =>
                    Option.bind (idxM x.2 (IntKind.wrap IntKind.i64 (s.1 - (1 : Int)))) fun (r_4 : Int) =>
                      Option.bind (m45 (r_3, r_4)) fun (r_5 : Int) =>
                        Option.bind (m52 (r_2, r_5)) fun (r : Bool) =>
                          bif r then
                            bif PE.notM true then bif PE.notM false then none else none
                            else
                              bif PE.notM true then none
                              else
                                some
                                  (Sum.inl
                                    (IntKind.wrap IntKind.i64 (s.1 + (1 : Int)),
                                      IntKind.wrap IntKind.i64 (s.2 + (1 : Int))))
                          else
                            bif PE.notM true then bif PE.notM false then none else none
                            else
                              bif PE.notM true then none
                              else some (Sum.inl (IntKind.wrap IntKind.i64 (s.1 + (1 : Int)), s.2))
          else some (Sum.inr s.2))
        ((1 : Int), (0 : Int)))
      fun (o : Int) => some o
theorem c41 : SpecOK Try.prog 41 ⟨as41, rs41, m41⟩ :=
  fnM_ok (own := []) (an := an41) (n := 400) tabs52OK (F := OPS) OPS_sound OPS_nice (f := 41) (fn := Try.f41) (code := Try.f41.body.getD .skip) (by kernel_rfl) (by kernel_rfl) (by kernel_rfl) fun x => by kernel_rfl
noncomputable def tabs41 : Tabs := Tabs.add tabs52 41 ⟨as41, rs41, m41⟩
theorem tabs41OK : TabOK Try.prog tabs41 := TabOK.add tabs52OK c41 Try.call41

/-! putlog/ring.Errors -/
def as27 : List Ty := [(.pair tI (.list tI)), (.list tI), tI]
def rs27 : List Ty := [tI, tI]
noncomputable def an27 : Ann := .a
noncomputable def m27 : ((Int × List Int) × List Int × Int) → Option (Int × Int) :=
  fun (x : (Int × List Int) × List Int × Int) =>
    Option.bind (m17 (x.1.1, x.1.2)) fun (r : Bool) =>
      Option.bind (bif PE.notM (PE.notM r) then m25 x.2.1 else some false) fun (r_1 : Bool) =>
        Option.bind
          (bif PE.notM (PE.orM (PE.notM r) (PE.notM r_1)) then
            m37 (x.2.2, (0 : Int), IntKind.wrap IntKind.i64 (lenM x.1.2 - lenM x.2.1))
          else some false)
          fun (r_2 : Bool) =>
          bif PE.orM (PE.orM (PE.notM r) (PE.notM r_1)) (PE.notM r_2) then some ((0 : Int), (210 : Int))
          else
            Option.bind (sliceM x.1.2 x.2.2 (IntKind.wrap IntKind.i64 (x.2.2 + lenM x.2.1))) fun (r_3 : List Int) =>
              Option.bind (m41 (x.2.1, r_3)) fun (r : Int) => some (r, (0 : Int))
theorem c27 : SpecOK Try.prog 27 ⟨as27, rs27, m27⟩ :=
  fnM_ok (own := []) (an := an27) (n := 400) tabs41OK (F := OPS) OPS_sound OPS_nice (f := 27) (fn := Try.f27) (code := Try.f27.body.getD .skip) (by kernel_rfl) (by kernel_rfl) (by kernel_rfl) fun x => by kernel_rfl
noncomputable def tabs27 : Tabs := Tabs.add tabs41 27 ⟨as27, rs27, m27⟩
theorem tabs27OK : TabOK Try.prog tabs27 := TabOK.add tabs41OK c27 Try.call27

/-! cmp.Or[int] -/
def as44 : List Ty := [(.list tI)]
def rs44 : List Ty := [tI]
noncomputable def an44 : Ann := .seq (.a) (.seq (.a) (.seq (.seq (.a) (.block (.loop ⟨[(8, .r (.c (.d (.d tI))))], [5, 9, 10, 11, 12, 13, 14, 16], [], []⟩ [(.exit 0, ⟨[], [5, 8, 9, 10, 11, 12, 13, 14, 16], [], []⟩), (.ret, ⟨[(2, .r (.c (.d (.d tI))))], [5, 8, 9, 10, 11, 12, 13, 14, 15, 16], [], []⟩)] (.a)))) (.a)))
noncomputable def m44 : List Int → Option (Int) :=
  fun (x : List Int) =>
    Option.bind
      (loopM
        (fun (s : Int) =>
          bif ltM s (lenM x) then
            Option.bind (idxM x s) fun (r : Int) =>
              bif PE.notM (eqM r (0 : Int)) then some (Sum.inr (Sum.inr r))
              else some (Sum.inl (IntKind.wrap IntKind.i64 (s + (1 : Int))))
          else some (Sum.inr (Sum.inl ())))
        (0 : Int))
      fun (o : Unit ⊕ Int) => Sum.elim (fun (t : Unit) => some (0 : Int)) (fun (t : Int) => some t) o
theorem c44 : SpecOK Try.prog 44 ⟨as44, rs44, m44⟩ :=
  fnM_ok (own := []) (an := an44) (n := 400) tabs27OK (F := OPS) OPS_sound OPS_nice (f := 44) (fn := Try.f44) (code := Try.f44.body.getD .skip) (by kernel_rfl) (by kernel_rfl) (by kernel_rfl) fun x => by kernel_rfl
noncomputable def tabs44 : Tabs := Tabs.add tabs27 44 ⟨as44, rs44, m44⟩
theorem tabs44OK : TabOK Try.prog tabs44 := TabOK.add tabs27OK c44 Try.call44

/-! putlog/ring.Match$1 -/
def as43 : List Ty := [(.pair tI tI), (.pair tI tI)]
def rs43 : List Ty := [tI]
noncomputable def an43 : Ann := .seq (.a) (.seq (.reg [0, 1, 0, 4, 15, 0, 32, 0, 128, 511, 1023, 2047, 4095] [0, 1, 2, 3, 4, 5, 6, 7, 8, 9, 10, 11, 12] [.s [] [], .s [0] [], .s [] [], .s [1] [], .s [] [], .s [] [], .s [0] [], .s [] [], .s [1] [], .s [] [], .s [] [], .s [] [], .s [] []] (.a)) (.a))
noncomputable def m43 : ((Int × Int) × Int × Int) → Option (Int) :=
  fun (x : (Int × Int) × Int × Int) =>
    Option.bind (m45 (x.1.2, x.2.2)) fun (r : Int) =>
      Option.bind (m45 (x.1.1, x.2.1)) fun (r_1 : Int) => Option.bind (m44 [r, r_1]) fun (r : Int) => some r
theorem c43 : SpecOK Try.prog 43 ⟨as43, rs43, m43⟩ :=
  fnM_ok (own := []) (an := an43) (n := 400) tabs44OK (F := OPS) OPS_sound OPS_nice (f := 43) (fn := Try.f43) (code := Try.f43.body.getD .skip) (by kernel_rfl) (by kernel_rfl) (by kernel_rfl) fun x => by kernel_rfl
noncomputable def tabs43 : Tabs := Tabs.add tabs44 43 ⟨as43, rs43, m43⟩
theorem tabs43OK : TabOK Try.prog tabs43 := TabOK.add tabs44OK c43 Try.call43
end Go.Proofs.Ytblachgndbmhaaa
/-
  The pure machine: slices.SortFunc at structs without memory, out of the library's contract.
  Conditions: none; it holds over any program P.
-/
namespace Go.PE
open Go Go.RowKit Go.Abs Go.Sort
open Go.Proofs (ltOf)
set_option linter.unusedVariables false
set_option linter.unusedSimpArgs false

/-- A datum put into its range. -/
def clampT : (t : Ty) → t.den → t.den
  | .int k, x => k.wrap x
  | .bool, x => x
  | .str, x => List.take maxLen x
  | .list _, x => x
  | .one t, x => clampT t x
  | .pair a b, x => (clampT a x.1, clampT b x.2)
/-- The cells of a datum without memory. -/
def encF : (t : Ty) → t.den → List Value
  | .int k, x => [.int k x]
  | .bool, x => [.bool x]
  | .str, x => [.string ⟨List.toArray x⟩]
  | .list _, _ => [.slice none 0 0]
  | .one t, x => encF t x
  | .pair a b, x => encF a x.1 ++ encF b x.2
def encT (t : Ty) (x : t.den) : List Value := encF t (clampT t x)
theorem encF_length : ∀ (t : Ty) (x : t.den), (encF t x).length = t.size
  | .int _, _ => rfl
  | .bool, _ => rfl
  | .str, _ => rfl
  | .list _, _ => rfl
  | .one t, x => encF_length t x
  | .pair a b, x => by
    show (encF a x.1 ++ encF b x.2).length = a.size + b.size
    rw [List.length_append, encF_length, encF_length]
theorem encF_one : ∀ (t : Ty) (x : t.den), ∀ v ∈ encF t x, v.oneCell' = true
  | .int _, _, v, h => by simp [encF] at h; subst h; rfl
  | .bool, _, v, h => by simp [encF] at h; subst h; rfl
  | .str, _, v, h => by simp [encF] at h; subst h; rfl
  | .list _, _, v, h => by simp [encF] at h; subst h; rfl
  | .one t, x, v, h => encF_one t x v h
  | .pair a b, x, v, h => by
    rcases List.mem_append.1 h with h | h
    · exact encF_one a x.1 v h
    · exact encF_one b x.2 v h
section
variable {S : Cells} {w : World} {η : Eta}
theorem rep_encF : ∀ {t : Ty} (x : t.den), t.flat = true → Rep S w t (clampT t x) (encF t (clampT t x))
  | .int k, x, _ => ⟨rfl, wrap_has k x⟩
  | .bool, _, _ => rfl
  | .str, x, _ => ⟨rfl, by show (List.take maxLen x).length ≤ maxLen; rw [List.length_take]; exact Nat.min_le_left _ _⟩
  | .list _, _, h => by cases h
  | .one t, x, h => rep_encF (t := t) x h
  | .pair a b, x, h => by
    simp only [Ty.flat, Bool.and_eq_true] at h
    exact ⟨_, _, rfl, rep_encF x.1 h.1, rep_encF x.2 h.2⟩
theorem rep_flat : ∀ {t : Ty} {x : t.den} {cs : List Value}, t.flat = true → Rep S w t x cs → clampT t x = x ∧ cs = encF t x
  | .int k, x, cs, _, h => ⟨has_wrap h.2, h.1⟩
  | .bool, _, _, _, h => ⟨rfl, h⟩
  | .str, x, cs, _, h => ⟨List.take_of_length_le h.2, h.1⟩
  | .list _, _, _, h, _ => by cases h
  | .one t, x, cs, hf, h => by
    have h' : Rep S w t x cs := h
    exact rep_flat (t := t) hf h'
  | .pair a b, x, cs, hf, h => by
    simp only [Ty.flat, Bool.and_eq_true] at hf
    obtain ⟨c1, c2, rfl, h1, h2⟩ := h
    obtain ⟨g1, g2⟩ := rep_flat hf.1 h1
    obtain ⟨g3, g4⟩ := rep_flat hf.2 h2
    refine ⟨?_, by rw [g2, g4]; rfl⟩
    show (clampT a x.1, clampT b x.2) = x
    rw [g1, g3]
end
/-- The comparison, on data put into range. -/
def cmpC (t : Ty) (cf : t.den → t.den → Int) (x y : t.den) : Int := cf (clampT t x) (clampT t y)
/-- What slices.SortFunc leaves. -/
def sortM (t : Ty) (cf : t.den → t.den → Int) (xs : List t.den) : Option (List t.den) := match decide (xs.length < 4611686018427387904) with
  | true => some (pdq (ltOf (cmpC t cf)) xs.toArray 0 xs.length (Lib.bitLen xs.length) true true).toList
  | false => none
theorem swo_cmpC {t : Ty} {cf : t.den → t.den → Int} (h : SWO (ltOf cf)) : SWO (ltOf (cmpC t cf)) :=
  ⟨fun x => h.irrefl _, fun x y z => h.trans _ _ _, fun x y z => h.ntrans _ _ _⟩
/-- A world that has only grown. -/
theorem grow_of {w w' : World} (h : Below w.heap.size w w') (hd : w.drawn ≤ w'.drawn) : ∃ q os, w' = grow (w.drewN q) os := by
  refine ⟨w'.drawn - w.drawn, w'.heap.extract w.heap.size w'.heap.size, ?_⟩
  have hh : w'.heap = w.heap ++ w'.heap.extract w.heap.size w'.heap.size := by
    apply Array.ext_getElem?
    intro k
    by_cases hk : k < w.heap.size
    · rw [Array.getElem?_append_left hk, h.block k hk]
    · rw [Array.getElem?_append_right (by omega)]
      have hs := h.size
      by_cases hk2 : k < w'.heap.size
      · simp [Array.getElem?_extract, show w.heap.size + (k - w.heap.size) = k by omega]
        omega
      · rw [Array.getElem?_eq_none (by omega), Array.getElem?_eq_none (by simp; omega)]
  obtain ⟨h1, h2, h3, _, _⟩ := h
  cases w
  cases w'
  simp only [grow, World.drewN] at *
  subst h1 h2 h3
  rw [← hh]
  congr 1
  omega
theorem cmpLays_of {P : Program} {g : FuncId} {t : Ty} (hf : t.flat = true) (ha : t.agg = true) {mg : Tup ([t, t].map .d) → Option (Tup ([Ty.int .i64].map .d))} (hg : SpecOK P g ⟨[t, t], [.int .i64], mg⟩) {cf : t.den → t.den → Int} (hm : ∀ x y, mg (x, y) = some (cf x y)) (blk off size : Nat) (w : World) :
    Go.Proofs.CmpLays P g #[] (encT t) t.size (cmpC t cf) blk off size w := by
  intro m os dk hs x y
  have hv : ∀ z : t.den, RM (fun _ _ => False) (Go.Proofs.sortWorldK (encT t) t.size w blk off m dk os) (fun _ => none) (t.rv (clampT t z)) (.agg (encT t z).toArray) := fun z => by
    refine VRep.rm ⟨encT t z, rep_encF z hf, ?_⟩
    unfold Ty.wrap
    rw [ha]; rfl
  have h := hg (clampT t x, clampT t y) (cmpC t cf x y) (hm _ _) (fun _ _ => False) (Go.Proofs.sortWorldK (encT t) t.size w blk off m dk os) (fun _ => none) [.agg (encT t x).toArray, .agg (encT t y).toArray] (fun _ _ h => h.elim) (.cons (hv x) (.cons (hv y) .nil))
  refine h.mono fun en w' ⟨v, S', he, hgr, hp⟩ => ?_
  have hp' : PM S' w' (fun _ => none) (.c (.d (.int .i64) (cmpC t cf x y))) v := hp
  obtain ⟨hv, _⟩ := PM.int.1 hp'
  exact ⟨by rw [he, hv], grow_of hgr.below hgr.lk.drawn⟩
theorem rep_world {t : Ty} {S S' : Cells} {w w' : World} {x : t.den} {cs : List Value} (hf : t.flat = true) (h : Rep S w t x cs) : Rep S' w' t x cs := Rep.flat hf h
theorem div_mul_mod (j k : Nat) : j / k * k + j % k = j := by
  have := Nat.div_add_mod j k
  rw [Nat.mul_comm] at this
  exact this
theorem getB {α : Type} [Inhabited α] {a : Array α} {i : Nat} (h : i < a.size) : a[i]! = a[i] := getElem!_pos a i h
theorem getLB {α : Type} [Inhabited α] {a : List α} {i : Nat} {v : α} (h : a[i]? = some v) : a[i]! = v := by
  obtain ⟨h1, h2⟩ := List.getElem?_eq_some_iff.1 h
  rw [getElem!_pos a i h1, h2]
/-- slices.SortFunc at a struct without memory, by a comparison that has a contract. -/
theorem sortOK_of {P : Program} {ρ : Go.Shelf.Ren} (L : Go.Proofs.SlLaysF0.n6 P ρ) {f g : FuncId} (hfid : ρ.f 6 = f) {t : Ty} (hf : t.flat = true) (ha : t.agg = true)
    (aE : ∀ w, (isAgg (ρ.t 24)).run P w = .ok true w) (zE : ∀ w, (Go.sizeOf (ρ.t 24)).run P w = .ok t.size w)
    (ef : ∀ (args : Array Value) (w : World), (callFunc f args).run P w = .ok (.enter f args) w) (eg : ∀ (args : Array Value) (w : World), (callFunc g args).run P w = .ok (.enter g args) w)
    {mg : Tup ([t, t].map .d) → Option (Tup ([Ty.int .i64].map .d))} (hg : SpecOK P g ⟨[t, t], [.int .i64], mg⟩) {cf : t.den → t.den → Int} (hm : ∀ x y, mg (x, y) = some (cf x y)) (hO : SWO (ltOf cf)) : SortOK P ⟨f, g, t, sortM t cf⟩ := by
  refine ⟨ef, fun xs ys h B S F w u hB hin hF hA => ?_⟩
  have h : sortM t cf xs = some ys := h
  have hA : ArrH F S w u t xs := hA
  show Calls P f #[u, .func (.func g) #[] #[]] w fun en w' => en = .returned (.tuple #[]) ∧ Grow B S w S w' ∧ ArrH F S w' u t ys ∧ _ ∧ _
  unfold sortM at h
  split at h
  · rename_i hlt
    have hlt := of_decide_eq_true hlt
    have hy := Option.some.inj h
    have hsort := Go.Sort.pdq_sorts (ltOf (cmpC t cf)) (swo_cmpC hO) xs.toArray 0 xs.length (Lib.bitLen xs.length) true true (Nat.zero_le _) (by simp) (Or.inl rfl)
    have hperm := hsort.1
    generalize hd' : pdq (ltOf (cmpC t cf)) xs.toArray 0 xs.length (Lib.bitLen xs.length) true true = d' at hy hperm
    have hsz : d'.size = xs.length := by have := hperm.1; simpa using this
    have hyl : ys.length = xs.length := by rw [← hy]; simpa using hsz
    obtain ⟨base, cap, rfl, c1, c2, c3⟩ := hA
    by_cases hn : xs.length = 0
    · have hxs : xs = [] := List.eq_nil_of_length_eq_zero hn
      have hys : ys = [] := List.eq_nil_of_length_eq_zero (by omega)
      subst hxs hys
      have hc := Go.Proofs.AnyF.slices_SortFunc_none L base cap (.func (.func g) #[] #[]) w
      rw [hfid] at hc
      exact hc.mono fun en w' ⟨he, hw⟩ => by
        subst hw
        exact ⟨he, Grow.refl hin, ⟨base, cap, rfl, c1, c2, c3⟩, fun _ _ _ _ => ⟨rfl, rfl⟩, fun _ _ _ => rfl⟩
    · rcases c3 with c3 | ⟨b, off, rfl, hFe, ht, hx⟩
      · omega
      have hpos := t.size_pos
      have hmul : xs.length * t.size ≤ cap * t.size := Nat.mul_le_mul_right _ c1
      have hmul1 : 1 * 1 ≤ xs.length * t.size := Nat.mul_le_mul (by omega) hpos
      have hin1 : ∀ j, j < xs.length * t.size → F b (off + j) := fun j hj => (hFe _ _).2 ⟨rfl, by omega, by omega⟩
      obtain ⟨hBb, hblk, _⟩ := hF b (off + 0) (hin1 0 (by omega))
      have hflat : ∀ (d : Array t.den), (∀ i (hi : i < d.size), clampT t d[i] = d[i]) → ∀ j, j < d.size * t.size → (flatK (encT t) t.size d)[j]! = (encF t d[j / t.size]!)[j % t.size]! := fun d hd j hj => by
        have hi : j / t.size < d.size := Nat.div_lt_of_lt_mul (by rw [Nat.mul_comm]; exact hj)
        rw [get_flatK _ _ _ _ hj, getB hi]
        unfold encT
        rw [hd _ hi]
      have hxin : ∀ i (hi : i < xs.length), ∃ es, Rep S w t xs[i] es ∧ (∀ j v, es[j]? = some v → w.cell? ⟨b, off + i * t.size + j, none⟩ = some v) := fun i hi => hx i xs[i] (List.getElem?_eq_getElem hi)
      have hH : HoldsK (encT t) t.size w b off xs.toArray := by
        intro j hj
        rw [size_flatK] at hj
        have hj' : j < xs.length * t.size := by simpa using hj
        have hi : j / t.size < xs.length := Nat.div_lt_of_lt_mul (by rw [Nat.mul_comm]; exact hj')
        have hm' : j % t.size < t.size := Nat.mod_lt _ hpos
        obtain ⟨es, he, hc⟩ := hxin _ hi
        obtain ⟨k1, k2⟩ := rep_flat hf he
        refine ⟨?_, (ht (off + j) (by omega) (by omega)).2⟩
        rw [hflat xs.toArray (fun i hi => by
          have hi' : i < xs.length := by simpa using hi
          obtain ⟨es, he, _⟩ := hxin _ hi'
          simpa using (rep_flat hf he).1) j hj, getB (by simpa using hi)]
        have hcell := hc (j % t.size) (es[j % t.size]'(by rw [he.length]; exact hm')) (List.getElem?_eq_getElem _)
        rw [Nat.add_assoc, div_mul_mod] at hcell
        rw [hcell]
        congr 1
        have : (encF t xs[j / t.size])[j % t.size]? = some (es[j % t.size]'(by rw [he.length]; exact hm')) := by rw [← k2]; exact List.getElem?_eq_getElem _
        simpa using (getLB this).symm
      have hcon := Go.Proofs.AnyQ.slices_SortFunc_eq L t.size aE zE (encT t) (fun x => encF_length t _) (fun x => encF_one t _) (cmpC t cf) (swo_cmpC hO) g #[] b off cap xs.toArray w (fun args w => eg args w) (cmpLays_of hf ha hg hm b off xs.toArray.size w) hH hblk (by simpa using hlt)
      rw [hfid] at hcon
      have hse : xs.toArray.size = xs.length := by simp
      rw [hse, hd'] at hcon
      refine hcon.mono fun en w' ⟨he, n, os, hw⟩ => ⟨he, ?_⟩
      -- the world behind
      have hH1 : Holds id (Go.Sort.ahead w n) b off (flatK (encT t) t.size xs.toArray) := hH
      have hfs : (flatK (encT t) t.size d').size = (flatK (encT t) t.size xs.toArray).size := by rw [size_flatK, size_flatK, hsz, hse]
      have hfn : (flatK (encT t) t.size d').size = xs.length * t.size := by rw [size_flatK, hsz]
      have hw : w' = grow (putRow id (Go.Sort.ahead w n) b off (flatK (encT t) t.size d')) os := hw
      have hps : (putRow id (Go.Sort.ahead w n) b off (flatK (encT t) t.size d')).heap.size = w.heap.size := by rw [size_putRow]; rfl
      have cin : ∀ j, j < xs.length * t.size → w'.cell? ⟨b, off + j, none⟩ = some (flatK (encT t) t.size d')[j]! := fun j hj => by
        rw [hw, cell?_grow _ _ _ (by rw [hps]; exact hblk)]
        exact cell?_putRow id _ b off _ _ hH1 hfs j (by rw [hfn]; exact hj)
      have cout : ∀ b' o, b' < w.heap.size → (b' ≠ b ∨ o < off ∨ off + xs.length * t.size ≤ o) → w'.cell? ⟨b', o, none⟩ = w.cell? ⟨b', o, none⟩ := fun b' o hb' ho => by
        rw [hw, cell?_grow _ _ _ (by rw [hps]; exact hb'), cell?_putRow_other id _ b off _ _ (by rw [hfn]; exact ho)]
        rfl
      have fout : ∀ b' o, b' < w.heap.size → w'.frozen? ⟨b', o, none⟩ = w.frozen? ⟨b', o, none⟩ := fun b' o hb' => by
        rw [hw, frozen?_grow _ _ _ (by rw [hps]; exact hb'), frozen?_putRow]
        rfl
      have hout : ∀ b', b' < w.heap.size → b' ≠ b → w'.heap[b']? = w.heap[b']? := fun b' hb' hne => by
        rw [hw, heap_grow_old _ _ (by rw [hps]; exact hb')]
        show (w.heap.modify b _)[b']? = _
        rw [Array.getElem?_modify, if_neg (Ne.symm hne)]
      have hcut : ∀ b' o, ¬ F b' o → (b' ≠ b ∨ o < off ∨ off + xs.length * t.size ≤ o) := fun b' o hno => by
        by_cases e : b' = b
        · subst e
          refine .inr ?_
          rcases Nat.lt_or_ge o off with h1 | h1
          · exact .inl h1
          · rcases Nat.lt_or_ge o (off + xs.length * t.size) with h2 | h2
            · have := hin1 (o - off) (by omega)
              rw [show off + (o - off) = o by omega] at this
              exact absurd this hno
            · exact .inr h2
        · exact .inl e
      have hkeep : Keep S w S w' := ⟨fun _ _ h => h, fun b' o hs => cout b' o (hin b' o hs) (hcut b' o fun hf' => (hF b' o hf').2.2 hs)⟩
      have hcells : ∃ c e fr, w.heap[b]? = some (.cells c e fr) := by
        obtain ⟨⟨v, hv⟩, _⟩ := ht (off + 0) (by omega) (by omega)
        obtain ⟨c, e, fr, h1, _⟩ := cells_of_cell? hv
        exact ⟨c, e, fr, h1⟩
      have hgr : Grow B S w S w' := by
        refine ⟨⟨by rw [hw]; rfl, by rw [hw]; rfl, by rw [hw]; rfl, by rw [hw, size_grow, hps]; omega, fun k hk => hout k (by omega) (by omega)⟩, hkeep, fun b' o hs => ?_, fun _ _ h => .inl h, .of ?_ fun b' o ho hne => ?_⟩
        · have := hin b' o hs
          rw [hw, size_grow, hps]; omega
        · rw [hw]
          show w.drawn ≤ w.drawn + n
          omega
        · by_cases e : b' = b
          · subst e
            obtain ⟨c, el, fr, hc⟩ := hcells
            rw [hc] at ho
            exact absurd (Option.some.inj ho).symm (hne _ _ _)
          · rw [hout b' (Array.getElem?_eq_some_iff.1 ho).1 e]; exact ho
      -- what the array holds
      have hmem : ∀ i (hi : i < d'.size), ∃ j, ∃ hj : j < xs.length, d'[i] = xs[j] := fun i hi => by
        have hp := hperm.2.2
        have h1 : d'.extract 0 xs.length = d' := by rw [← hsz]; simp
        have h2 : xs.toArray.extract 0 xs.length = xs.toArray := by rw [← hse]; simp
        rw [h1, h2] at hp
        have : d'[i] ∈ d'.toList := by simp
        have := hp.mem_iff.1 this
        obtain ⟨j, hj, e⟩ := List.mem_iff_getElem.1 this
        exact ⟨j, by simpa using hj, by simpa using e.symm⟩
      have hcl : ∀ i (hi : i < d'.size), clampT t d'[i] = d'[i] := fun i hi => by
        obtain ⟨j, hj, e⟩ := hmem i hi
        obtain ⟨es, he, _⟩ := hxin j hj
        rw [e]; exact (rep_flat hf he).1
      have hyi : ∀ (i : Nat) (y : t.den), ys[i]? = some y → ∃ hi : i < d'.size, d'[i] = y := fun i y hi => by
        rw [← hy] at hi
        obtain ⟨h1, h2⟩ := List.getElem?_eq_some_iff.1 hi
        exact ⟨by simpa using h1, by simpa using h2⟩
      refine ⟨hgr, ⟨some ⟨b, off, none⟩, cap, by rw [hyl], by omega, c2, .inr ⟨b, off, rfl, hFe, fun o h1 h2 => ?_, fun i y hi => ?_⟩⟩, fun b' o hb' hno => ⟨cout b' o hb' (hcut b' o hno), fout b' o hb'⟩, fun b' hb' hno => hout b' hb' fun e => ?_⟩
      · refine ⟨?_, by rw [fout b o hblk]; exact (ht o h1 h2).2⟩
        by_cases ho : o < off + xs.length * t.size
        · have := cin (o - off) (by omega)
          rw [show off + (o - off) = o by omega] at this
          exact ⟨_, this⟩
        · rw [cout b o hblk (.inr (.inr (by omega)))]
          exact (ht o h1 h2).1
      · obtain ⟨hi', e⟩ := hyi i y hi
        obtain ⟨j, hj, e2⟩ := hmem i hi'
        obtain ⟨es, he, _⟩ := hxin j hj
        have hes := (rep_flat hf he).2
        refine ⟨es, ?_, fun m v hm' => ?_⟩
        · rw [← e, e2]; exact rep_world hf he
        · have hml : m < t.size := by rw [← he.length]; exact (List.getElem?_eq_some_iff.1 hm').1
          have hlt2 : i * t.size + m < xs.length * t.size := by
            have := Nat.mul_le_mul_right t.size (show i + 1 ≤ xs.length by omega)
            rw [Nat.add_mul] at this
            omega
          have e3 : (i * t.size + m) / t.size = i := by
            rw [Nat.mul_comm, Nat.mul_add_div hpos, Nat.div_eq_of_lt hml, Nat.add_zero]
          have e4 : (i * t.size + m) % t.size = m := by
            rw [Nat.mul_comm, Nat.mul_add_mod, Nat.mod_eq_of_lt hml]
          have := cin (i * t.size + m) hlt2
          rw [← Nat.add_assoc] at this
          rw [this, hflat d' hcl _ (by rw [hsz]; exact hlt2), e3, e4, getB hi', e2, ← hes]
          congr 1
          exact getLB hm'
      · subst e
        exact hno _ (hin1 0 (by omega))
  · cases h
end Go.PE
/-
  Ring: the comparison by which positions are sorted, and the library's sort.
  No conditions.
-/
namespace Go.Proofs
open Go.Shelf
def Try.lays42_ren : Go.Shelf.Ren := ⟨fun | 6 => 42 | 15 => 54 | 14 => 53 | 28 => 66 | 29 => 67 | 20 => 58 | 21 => 59 | 22 => 60 | 23 => 61 | 24 => 62 | 25 => 63 | 26 => 64 | 27 => 65 | 46 => 68 | 47 => 69 | 48 => 70 | 49 => 71 | 50 => 72 | 57 => 73 | n => n, fun | 22 => 38 | 24 => 58 | 25 => 74 | 3 => 3 | 39 => 86 | 0 => 0 | 53 => 97 | 55 => 99 | 4 => 4 | 46 => 90 | 45 => 89 | 50 => 94 | 5 => 5 | 9 => 9 | 66 => 100 | 70 => 104 | 76 => 106 | 77 => 107 | n => n, fun | n => n⟩
theorem Try.lays42 : Go.Proofs.SlLaysF0.n6 Try.prog Try.lays42_ren := {
  mixed := by kernel_rfl
  f6 := ⟨Try.f42.name, by decide, Try.func42.trans (congrArg some (by kernel_rfl))⟩
  f14 := ⟨Try.f53.name, by decide, Try.func53.trans (congrArg some (by kernel_rfl))⟩
  f15 := Try.func54.trans (congrArg some (by kernel_rfl))
  f20 := ⟨Try.f58.name, by decide, Try.func58.trans (congrArg some (by kernel_rfl))⟩
  f21 := ⟨Try.f59.name, by decide, Try.func59.trans (congrArg some (by kernel_rfl))⟩
  f22 := ⟨Try.f60.name, by decide, Try.func60.trans (congrArg some (by kernel_rfl))⟩
  f23 := ⟨Try.f61.name, by decide, Try.func61.trans (congrArg some (by kernel_rfl))⟩
  f24 := ⟨Try.f62.name, by decide, Try.func62.trans (congrArg some (by kernel_rfl))⟩
  f25 := ⟨Try.f63.name, by decide, Try.func63.trans (congrArg some (by kernel_rfl))⟩
  f26 := ⟨Try.f64.name, by decide, Try.func64.trans (congrArg some (by kernel_rfl))⟩
  f27 := ⟨Try.f65.name, by decide, Try.func65.trans (congrArg some (by kernel_rfl))⟩
  f28 := Try.func66.trans (congrArg some (by kernel_rfl))
  f29 := Try.func67.trans (congrArg some (by kernel_rfl))
  f46 := ⟨Try.f68.name, by decide, Try.func68.trans (congrArg some (by kernel_rfl))⟩
  f47 := Try.func69.trans (congrArg some (by kernel_rfl))
  f48 := Try.func70.trans (congrArg some (by kernel_rfl))
  f49 := ⟨Try.f71.name, by decide, Try.func71.trans (congrArg some (by kernel_rfl))⟩
  f50 := ⟨Try.f72.name, by decide, Try.func72.trans (congrArg some (by kernel_rfl))⟩
  f57 := ⟨Try.f73.name, by decide, Try.func73.trans (congrArg some (by kernel_rfl))⟩
  t0 := Try.underlying0
  a0 := Try.isAgg0
  z0 := Try.sizeOf0
  v0 := Try.zeroValue0
  t3 := Try.underlying3
  a3 := Try.isAgg3
  z3 := Try.sizeOf3
  v3 := Try.zeroValue3
  t4 := Try.underlying4
  a4 := Try.isAgg4
  z4 := Try.sizeOf4
  v4 := Try.zeroValue4
  t5 := Try.underlying5
  a5 := Try.isAgg5
  z5 := Try.sizeOf5
  v5 := Try.zeroValue5
  t9 := Try.underlying9
  a9 := Try.isAgg9
  z9 := Try.sizeOf9
  v9 := Try.zeroValue9
  t22 := Try.underlying38
  a22 := Try.isAgg38
  z22 := Try.sizeOf38
  v22 := Try.zeroValue38
  t25 := Try.underlying74
  a25 := Try.isAgg74
  z25 := Try.sizeOf74
  v25 := Try.zeroValue74
  t39 := Try.underlying86
  a39 := Try.isAgg86
  z39 := Try.sizeOf86
  v39 := Try.zeroValue86
  t45 := Try.underlying89
  a45 := Try.isAgg89
  z45 := Try.sizeOf89
  v45 := Try.zeroValue89
  t46 := Try.underlying90
  a46 := Try.isAgg90
  z46 := Try.sizeOf90
  v46 := Try.zeroValue90
  t50 := Try.underlying94
  a50 := Try.isAgg94
  z50 := Try.sizeOf94
  v50 := Try.zeroValue94
  t53 := Try.underlying97
  a53 := Try.isAgg97
  z53 := Try.sizeOf97
  v53 := Try.zeroValue97
  t55 := Try.underlying99
  a55 := Try.isAgg99
  z55 := Try.sizeOf99
  v55 := Try.zeroValue99
  t66 := Try.underlying100
  a66 := Try.isAgg100
  z66 := Try.sizeOf100
  v66 := Try.zeroValue100
  t70 := Try.underlying104
  a70 := Try.isAgg104
  z70 := Try.sizeOf104
  v70 := Try.zeroValue104
  t76 := Try.underlying106
  a76 := Try.isAgg106
  z76 := Try.sizeOf106
  v76 := Try.zeroValue106
  t77 := Try.underlying107
  a77 := Try.isAgg107
  z77 := Try.sizeOf107
  v77 := Try.zeroValue107 }
end Go.Proofs
namespace Go.Proofs.Ytblachgndbmhaaa
open Go Go.Abs Go.PE Go.Sort
open Go.Proofs (ltOf)
def cmpI (a b : Int) : Int := if a < b then -1 else if b < a then 1 else 0
theorem m55_eq (a : Int) : m55 a = some false := by
  show some (PE.notM (eqM a a)) = some false
  have : eqM a a = true := decide_eq_true rfl
  rw [this]; rfl
theorem m45_eq (a b : Int) : m45 (a, b) = some (cmpI a b) := by
  unfold m45 cmpI
  dsimp only
  rw [m55_eq, m55_eq]
  show (bif ltM a b then some (-1 : Int) else bif ltM b a then some (1 : Int) else some (0 : Int)) = _
  by_cases h1 : a < b
  · have e1 : ltM a b = true := decide_eq_true h1
    rw [e1, if_pos h1]; rfl
  · have e1 : ltM a b = false := decide_eq_false h1
    rw [e1, if_neg h1]
    by_cases h2 : b < a
    · have e2 : ltM b a = true := decide_eq_true h2
      rw [e2, if_pos h2]; rfl
    · have e2 : ltM b a = false := decide_eq_false h2
      rw [e2, if_neg h2]; rfl
theorem m44_two (a b : Int) : m44 [a, b] = some (if a = 0 then b else a) := by
  unfold m44
  rw [loopM_eq]
  show Option.bind (Option.bind (bif PE.notM (eqM a 0) then some (Sum.inr (Sum.inr a)) else some (Sum.inl (1 : Int))) (Sum.elim (loopM _) some)) _ = _
  by_cases h1 : a = 0
  · have n1 : eqM a 0 = true := decide_eq_true h1
    rw [n1, if_pos h1]
    show Option.bind (loopM _ (1 : Int)) _ = _
    rw [loopM_eq]
    show Option.bind (Option.bind (bif PE.notM (eqM b 0) then some (Sum.inr (Sum.inr b)) else some (Sum.inl (2 : Int))) (Sum.elim (loopM _) some)) _ = _
    by_cases h2 : b = 0
    · have n2 : eqM b 0 = true := decide_eq_true h2
      rw [n2, h2]
      show Option.bind (loopM _ (2 : Int)) _ = _
      rw [loopM_eq]
      rfl
    · have n2 : eqM b 0 = false := decide_eq_false h2
      rw [n2]
      rfl
  · have n1 : eqM a 0 = false := decide_eq_false h1
    rw [n1, if_neg h1]
    rfl
def cf43 (x y : Int × Int) : Int := if cmpI x.2 y.2 = 0 then cmpI x.1 y.1 else cmpI x.2 y.2
theorem hm43 (x y : Int × Int) : m43 (x, y) = some (cf43 x y) := by
  unfold m43 cf43
  dsimp only
  rw [m45_eq, m45_eq, Option.bind_some, Option.bind_some, m44_two]
  rfl
theorem lt43 (x y : Int × Int) : ltOf cf43 x y = decide (x.2 < y.2 ∨ (x.2 = y.2 ∧ x.1 < y.1)) := by
  unfold ltOf cf43 cmpI
  rcases Int.lt_trichotomy x.2 y.2 with h | h | h
  · simp [h]
  · rcases Int.lt_trichotomy x.1 y.1 with g | g | g
    · simp [h, g]
    · simp [h, g]
    · have : ¬ x.1 < y.1 := by omega
      simp [h, g, this]
  · have h1 : ¬ x.2 < y.2 := by omega
    have h2 : ¬ x.2 = y.2 := by omega
    simp [h, h1, h2]
theorem swo43 : SWO (ltOf cf43) where
  irrefl x := by rw [lt43]; simp
  trans x y z h1 h2 := by
    rw [lt43] at *
    have h1 := of_decide_eq_true h1
    have h2 := of_decide_eq_true h2
    exact decide_eq_true (by omega)
  ntrans x y z h1 h2 := by
    rw [lt43] at *
    have h1 := of_decide_eq_false h1
    have h2 := of_decide_eq_false h2
    exact decide_eq_false (by omega)
end Go.Proofs.Ytblachgndbmhaaa
namespace Go.Proofs.Ytblachgndbmhaaa
open Go Go.Abs Go.PE Go.Proofs
theorem sort43 : SortOK Try.prog ⟨42, 43, (.pair tI tI), sortM (.pair tI tI) cf43⟩ := sortOK_of (t := (.pair tI tI)) (cf := cf43) Try.lays42 rfl rfl rfl Try.isAgg58 Try.sizeOf58 Try.call42 Try.call43 c43 hm43 swo43
noncomputable def tabsS43 : Tabs := Tabs.addSo tabs43 ⟨42, 43, (.pair tI tI), sortM (.pair tI tI) cf43⟩
theorem tabsS43OK : TabOK Try.prog tabsS43 := TabOK.addSo tabs43OK sort43
end Go.Proofs.Ytblachgndbmhaaa
/-
  Models of the functions of this seat, and that the functions compute them (printed by gen_models.py). No conditions.
-/
namespace Go.Proofs.Ytblachgndbmhaaa
open Go Go.Abs Go.PE Go.Proofs
set_option linter.unusedVariables false
set_option maxRecDepth 100000

/-! putlog/ring.Match -/
def as22 : List Ty := [(.pair tI (.list tI)), (.list tI)]
def rs22 : List Ty := [(.list (.pair tI tI)), tI]
noncomputable def an22 : Ann := .seq (.a) (.seq (.a) (.seq (.a) (.seq (.seq (.a) (.block (.loop ⟨[(6, .r (.c (.h 1))), (7, .r (.c (.d (.d tI))))], [16, 17, 18, 19, 20, 21, 22, 23, 24, 25, 26, 27, 28, 29, 30, 31, 32, 33, 34, 35, 36, 37, 38, 39, 40], [], [.arr (.pair tI tI)]⟩ [(.exit 0, ⟨[(6, .r (.c (.h 1)))], [7, 16, 17, 18, 19, 20, 21, 22, 23, 24, 25, 26, 27, 28, 29, 30, 31, 32, 33, 34, 35, 36, 37, 38, 39, 40], [], [.arr (.pair tI tI)]⟩)] (.a)))) (.a))))
noncomputable def m22 : ((Int × List Int) × List Int) → Option ((List (Int × Int)) × Int) :=
  fun (x : (Int × List Int) × List Int) =>
    Option.bind (m17 (x.1.1, x.1.2)) fun (r : Bool) =>
      Option.bind (bif PE.notM (PE.notM r) then m25 x.2 else some false) fun (r_1 : Bool) =>
        bif PE.orM (PE.notM r) (PE.notM r_1) then some ([], (210 : Int))
        else
          Option.bind
            (loopM
              (fun (s : Int × List (Int × Int)) =>
                bif leM (IntKind.wrap IntKind.i64 (s.1 + lenM x.2)) (lenM x.1.2) then
                  Option.bind (sliceM x.1.2 s.1 (IntKind.wrap IntKind.i64 (s.1 + lenM x.2))) fun (r_2 : List Int) =>
                    Option.bind (m41 (x.2, r_2)) fun (r_3 : Int) =>
                      Option.bind (appM (nat_lit 16) s.2 [(s.1, r_3)]) fun (r : List (Int × Int)) =>
                        some (Sum.inl (IntKind.wrap IntKind.i64 (s.1 + (1 : Int)), r))
                else some (Sum.inr s.2))
              ((0 : Int), []))
            fun (o : List (Int × Int)) =>
            Option.bind (sortM (Ty.pair (Ty.int IntKind.i64) (Ty.int IntKind.i64)) cf43 o) fun (r : List (Int × Int)) =>
              some (r, (0 : Int))
theorem c22 : SpecOK Try.prog 22 ⟨as22, rs22, m22⟩ :=
  fnM_ok (own := []) (an := an22) (n := 400) tabsS43OK (F := OPS) OPS_sound OPS_nice (f := 22) (fn := Try.f22) (code := Try.f22.body.getD .skip) (by kernel_rfl) (by kernel_rfl) (by kernel_rfl) fun x => by kernel_rfl
noncomputable def tabs22 : Tabs := Tabs.add tabsS43 22 ⟨as22, rs22, m22⟩
theorem tabs22OK : TabOK Try.prog tabs22 := TabOK.add tabsS43OK c22 Try.call22

/-! putlog/ring.Dated -/
def as29 : List Ty := [(.pair tI (.list tI)), (.list tI), tI]
def rs29 : List Ty := [tI, .bool, tI]
noncomputable def an29 : Ann := .seq (.a) (.seq (.a) (.seq (.a) (.seq (.seq (.reg [0, 1, 3, 7, 15, 31, 63, 127, 255, 511, 1023, 2047, 255, 4351, 12543, 28927, 65535, 255, 262143, 524287, 1048575] [0, 1, 2, 3, 4, 5, 6, 7, 8, 9, 10, 11, 12, 13, 14, 15, 16, 17, 18, 19, 20] [.s [] [], .s [] [], .s [] [], .s [] [], .s [] [], .s [] [], .s [] [], .s [] [], .s [] [], .s [] [], .s [] [], .s [] [], .s [] [], .s [] [], .s [] [], .s [] [], .s [] [], .s [] [], .s [] [], .s [] [], .s [] []] (.a)) (.a)) (.seq (.reg [0, 1, 0, 4, 12, 28, 63, 127, 255, 511] [0, 1, 2, 3, 4, 5, 6, 7, 8, 9] [.s [] [], .s [0] [], .s [] [], .s [] [], .s [] [], .s [] [], .s [] [], .s [] [], .s [] [], .s [] []] (.a)) (.a)))))
noncomputable def m29 : ((Int × List Int) × List Int × Int) → Option (Int × Bool × Int) :=
  fun (x : (Int × List Int) × List Int × Int) =>
    Option.bind (m22 ((x.1.1, x.1.2), x.2.1)) fun (r : List (Int × Int) × Int) =>
      Option.bind (bif PE.notM (PE.notM (eqM r.2 (0 : Int))) then m37 (x.2.2, (1 : Int), (60 : Int)) else some false)
        fun (r_1 : Bool) =>
        bif PE.orM (PE.notM (eqM r.2 (0 : Int))) (PE.notM r_1) then some ((0 : Int), false, (210 : Int))
        else
          Option.bind
            (bif PE.andM (PE.notM (eqM (lenM r.1) (0 : Int))) (ltM (1 : Int) (lenM r.1)) then idxM r.1 (1 : Int)
            else some ((0 : Int), (0 : Int)))
            fun (r_2 : Int × Int) =>
            Option.bind
              (bif PE.andM (PE.notM (eqM (lenM r.1) (0 : Int))) (ltM (1 : Int) (lenM r.1)) then idxM r.1 (0 : Int)
              else some ((0 : Int), (0 : Int)))
              fun (r_3 : Int × Int) =>
              bif
                  PE.orM (eqM (lenM r.1) (0 : Int))
                    (PE.andM (ltM (1 : Int) (lenM r.1)) (ltM (IntKind.wrap IntKind.i64 (r_2.2 - r_3.2)) x.2.2)) then
                some ((0 : Int), false, (0 : Int))
              else
                Option.bind (idxM r.1 (0 : Int)) fun (r : Int × Int) =>
                  some (IntKind.wrap IntKind.i64 (x.1.1 + r.1), true, (0 : Int))
theorem c29 : SpecOK Try.prog 29 ⟨as29, rs29, m29⟩ :=
  fnM_ok (own := []) (an := an29) (n := 400) tabs22OK (F := OPS) OPS_sound OPS_nice (f := 29) (fn := Try.f29) (code := Try.f29.body.getD .skip) (by kernel_rfl) (by kernel_rfl) (by kernel_rfl) fun x => by kernel_rfl
noncomputable def tabs29 : Tabs := Tabs.add tabs22 29 ⟨as29, rs29, m29⟩
theorem tabs29OK : TabOK Try.prog tabs29 := TabOK.add tabs22OK c29 Try.call29

/-! putlog/ring.Cross -/
def as31 : List Ty := [(.pair tI (.list tI)), (.pair tI (.list tI))]
def rs31 : List Ty := [tI, tI, tI]
noncomputable def an31 : Ann := .seq (.a) (.seq (.a) (.seq (.a) (.seq (.a) (.seq (.a) (.seq (.reg [0, 0, 3, 7, 0, 16, 0, 0, 128, 448, 0, 0, 2048, 7168, 16368, 0, 32768, 0, 0, 262144, 917504, 0, 0, 4194304, 14680064, 33521664, 67108848, 134217727, 268435455, 536870911] [0, 1, 2, 3, 4, 5, 6, 7, 8, 9, 10, 11, 12, 13, 14, 15, 16, 17, 18, 19, 20, 21, 22, 23, 24, 25, 26, 27, 28, 29] [.s [] [], .s [] [], .s [] [], .s [] [], .s [] [], .s [0] [], .s [] [], .s [] [], .s [0] [], .s [] [], .s [] [], .s [] [], .s [0] [], .s [] [], .s [] [], .s [] [], .s [1] [], .s [] [], .s [] [], .s [1] [], .s [] [], .s [] [], .s [] [], .s [1] [], .s [] [], .s [] [], .s [] [], .s [] [], .s [] [], .s [] []] (.a)) (.a))))))
noncomputable def m31 : ((Int × List Int) × Int × List Int) → Option (Int × Int × Int) :=
  fun (x : (Int × List Int) × Int × List Int) =>
    Option.bind (m17 (x.1.1, x.1.2)) fun (r : Bool) =>
      Option.bind (bif PE.notM (PE.notM r) then m17 (x.2.1, x.2.2) else some false) fun (r_1 : Bool) =>
        bif PE.orM (PE.notM r) (PE.notM r_1) then some ((0 : Int), (0 : Int), (210 : Int))
        else
          bif
              ltM
                (IntKind.wrap IntKind.i64
                  (min (IntKind.wrap IntKind.i64 (x.1.1 + lenM x.1.2)) (IntKind.wrap IntKind.i64 (x.2.1 + lenM x.2.2)) -
                    max x.1.1 x.2.1))
                (2 : Int) then
            some ((0 : Int), (0 : Int), (0 : Int))
          else
            Option.bind
              (sliceM x.1.2 (IntKind.wrap IntKind.i64 (max x.1.1 x.2.1 - x.1.1))
                (IntKind.wrap IntKind.i64
                  (min (IntKind.wrap IntKind.i64 (x.1.1 + lenM x.1.2)) (IntKind.wrap IntKind.i64 (x.2.1 + lenM x.2.2)) -
                    x.1.1)))
              fun (r_2 : List Int) =>
              Option.bind
                (sliceM x.2.2 (IntKind.wrap IntKind.i64 (max x.1.1 x.2.1 - x.2.1))
                  (IntKind.wrap IntKind.i64
                    (min (IntKind.wrap IntKind.i64 (x.1.1 + lenM x.1.2)) (IntKind.wrap IntKind.i64 (x.2.1 + lenM x.2.2)) -
                      x.2.1)))
                fun (r_3 : List Int) =>
                Option.bind (m41 (r_2, r_3)) fun (r : Int) =>
                  some
                    (IntKind.wrap IntKind.i64
                        (IntKind.wrap IntKind.i64
                            (min (IntKind.wrap IntKind.i64 (x.1.1 + lenM x.1.2))
                                (IntKind.wrap IntKind.i64 (x.2.1 + lenM x.2.2)) -
                              max x.1.1 x.2.1) -
                          (1 : Int)),
                      r, (0 : Int))
theorem c31 : SpecOK Try.prog 31 ⟨as31, rs31, m31⟩ :=
  fnM_ok (own := []) (an := an31) (n := 400) tabs29OK (F := OPS) OPS_sound OPS_nice (f := 31) (fn := Try.f31) (code := Try.f31.body.getD .skip) (by kernel_rfl) (by kernel_rfl) (by kernel_rfl) fun x => by kernel_rfl
noncomputable def tabs31 : Tabs := Tabs.add tabs29 31 ⟨as31, rs31, m31⟩
theorem tabs31OK : TabOK Try.prog tabs31 := TabOK.add tabs29OK c31 Try.call31

/-! putlog/ring.Felled -/
def as33 : List Ty := [tI, tI, .bool]
def rs33 : List Ty := [(.pair tI tI), tI]
noncomputable def an33 : Ann := .seq (.a) (.seq (.a) (.seq (.a) (.seq (.join [(.norm, ⟨[(8, .r (.c (.d (.d tI)))), (9, .r (.c (.d (.d tI))))], [21, 22, 23, 24, 25, 26, 27, 28, 29, 30, 31, 32, 33, 34, 35, 36], [], []⟩)] (.a)) (.a))))
noncomputable def m33 : (Int × Int × Bool) → Option ((Int × Int) × Int) :=
  fun (x : Int × Int × Bool) =>
    Option.bind (m37 (x.1, (0 : Int), (2100 : Int))) fun (r : Bool) =>
      Option.bind (bif PE.notM (PE.notM r) then m37 (x.2.1, (0 : Int), (41 : Int)) else some false) fun (r_1 : Bool) =>
        bif PE.orM (PE.notM r) (PE.notM r_1) then some (((0 : Int), (0 : Int)), (210 : Int))
        else
          Option.bind
            (bif x.2.2 then some (x.1, x.1)
            else
              bif eqM x.2.1 (0 : Int) then some (IntKind.wrap IntKind.i64 (x.1 + (9 : Int)), (2100 : Int))
              else
                some
                  (IntKind.wrap IntKind.i64 (x.1 + max (0 : Int) (IntKind.wrap IntKind.i64 ((9 : Int) - x.2.1))),
                    IntKind.wrap IntKind.i64 (IntKind.wrap IntKind.i64 (x.1 + (41 : Int)) - x.2.1)))
            fun (o : Int × Int) =>
            bif ltM (min o.2 (2100 : Int)) o.1 then some (((0 : Int), (0 : Int)), (210 : Int))
            else some ((o.1, IntKind.wrap IntKind.i64 (min o.2 (2100 : Int) + (1 : Int))), (0 : Int))
theorem c33 : SpecOK Try.prog 33 ⟨as33, rs33, m33⟩ :=
  fnM_ok (own := []) (an := an33) (n := 400) tabs31OK (F := OPS) OPS_sound OPS_nice (f := 33) (fn := Try.f33) (code := Try.f33.body.getD .skip) (by kernel_rfl) (by kernel_rfl) (by kernel_rfl) fun x => by kernel_rfl
noncomputable def tabs33 : Tabs := Tabs.add tabs31 33 ⟨as33, rs33, m33⟩
theorem tabs33OK : TabOK Try.prog tabs33 := TabOK.add tabs31OK c33 Try.call33

/-! putlog/putlogref21.Same -/
def as24 : List Ty := [(.list (.pair tI tI)), (.list (.pair tI tI))]
def rs24 : List Ty := [.bool]
noncomputable def an24 : Ann := .seq (.a) (.seq (.a) (.seq (.seq (.a) (.block (.loop ⟨[(5, .r (.c (.d (.d tI))))], [11, 12, 13, 14, 15, 16, 17, 18, 19, 20, 21, 22, 23, 24, 25], [], []⟩ [(.exit 0, ⟨[], [5, 11, 12, 13, 14, 15, 16, 17, 18, 19, 20, 21, 22, 23, 24, 25], [], []⟩), (.ret, ⟨[(4, .r (.c (.d (.d .bool))))], [5, 11, 12, 13, 14, 15, 16, 17, 18, 19, 20, 21, 22, 23, 24, 25], [], []⟩)] (.seq (.a) (.seq (.block (.seq (.reg [0, 0, 3, 7, 0, 0, 48, 112, 255] [0, 1, 2, 3, 4, 5, 6, 7, 8] [.s [] [], .s [] [], .s [] [], .s [] [], .s [] [], .s [] [], .s [] [], .s [] [], .s [] []] (.a)) (.a))) (.a)))))) (.a)))
noncomputable def m24 : ((List (Int × Int)) × List (Int × Int)) → Option (Bool) :=
  fun (x : List (Int × Int) × List (Int × Int)) =>
    bif PE.notM (eqM (lenM x.1) (lenM x.2)) then some false
    else
      Option.bind
        (loopM
          (fun (s : Int) =>
            bif ltM s (lenM x.1) then
              Option.bind (idxM x.1 s) fun (r : Int × Int) =>
                Option.bind (idxM x.2 s) fun (r_1 : Int × Int) =>
                  bif PE.notM (PE.andM (eqM r.1 r_1.1) (eqM r.2 r_1.2)) then some (Sum.inr (Sum.inr false))
                  else some (Sum.inl (IntKind.wrap IntKind.i64 (s + (1 : Int))))
            else some (Sum.inr (Sum.inl ())))
          (0 : Int))
        fun (o : Unit ⊕ Bool) => Sum.elim (fun (t : Unit) => some true) (fun (t : Bool) => some t) o
theorem c24 : SpecOK Try.prog 24 ⟨as24, rs24, m24⟩ :=
  fnM_ok (own := []) (an := an24) (n := 400) tabs33OK (F := OPS) OPS_sound OPS_nice (f := 24) (fn := Try.f24) (code := Try.f24.body.getD .skip) (by kernel_rfl) (by kernel_rfl) (by kernel_rfl) fun x => by kernel_rfl
noncomputable def tabs24 : Tabs := Tabs.add tabs33 24 ⟨as24, rs24, m24⟩
theorem tabs24OK : TabOK Try.prog tabs24 := TabOK.add tabs33OK c24 Try.call24

/-! putlog/ring.Trends -/
def as20 : List Ty := [(.list tI)]
def rs20 : List Ty := [(.list tI)]
noncomputable def an20 : Ann := .seq (.a) (.seq (.a) (.seq (.a) (.seq (.seq (.reg [] [] [.s [] [], .r] (.call [] [] (.seq (.a) (.a)) (.a))) (.block (.call [] [] (.seq (.a) (.block (.loop ⟨[(3, .r (.c (.d (.d tI))))], [4, 5, 6, 7, 8, 9, 10, 11, 12, 13, 14, 15, 16, 17, 18, 19, 20, 21, 22, 23, 24], [(0, .box [.h 3]), (2, .lp .ready)], [.arr tI]⟩ [(.exit 0, ⟨[], [3, 4, 5, 6, 7, 8, 9, 10, 11, 12, 13, 14, 15, 16, 17, 18, 19, 20, 21, 22, 23, 24], [(0, .box [.h 3]), (2, .lp .ready)], [.arr tI]⟩)] (.seq (.a) (.seq (.block (.seq (.reg [0, 0, 2, 0, 0, 24, 56, 0, 0, 256, 896, 1920, 4088, 8191, 16383] [0, 1, 2, 3, 4, 5, 6, 7, 8, 9, 10, 11, 12, 13, 14] [.s [] [], .s [] [], .s [] [], .s [1] [], .s [] [], .s [] [], .s [] [], .s [1] [], .s [] [], .s [] [], .s [] [], .s [] [], .s [] [], .r, .s [] []] (.call [] [] (.seq (.a) (.a)) (.a))) (.a))) (.a)))))) (.a)))) (.a))))
noncomputable def m20 : List Int → Option (List Int) :=
  fun (x : List Int) =>
    Option.bind (m36 (x, (200 : Int))) fun (r : Bool) =>
      bif PE.notM r then some []
      else
        Option.bind
          (loopM
            (fun (s : Int × List Int) =>
              bif ltM s.1 (lenM x) then
                Option.bind (idxM x s.1) fun (r_1 : Int) =>
                  Option.bind (idxM x (IntKind.wrap IntKind.i64 (s.1 - (1 : Int)))) fun (r_2 : Int) =>
                    Option.bind (m45 (r_1, r_2)) fun (r_3 : Int) =>
                      Option.bind (appM (nat_lit 8) s.2 [r_3]) fun (r : List Int) =>
                        bif PE.notM true then none else some (Sum.inl (IntKind.wrap IntKind.i64 (s.1 + (1 : Int)), r))
              else some (Sum.inr s.2))
            ((1 : Int), []))
          fun (o : List Int) => some o
theorem c20 : SpecOK Try.prog 20 ⟨as20, rs20, m20⟩ :=
  fnM_ok (own := []) (an := an20) (n := 400) tabs24OK (F := OPS) OPS_sound OPS_nice (f := 20) (fn := Try.f20) (code := Try.f20.body.getD .skip) (by kernel_rfl) (by kernel_rfl) (by kernel_rfl) fun x => by kernel_rfl
noncomputable def tabs20 : Tabs := Tabs.add tabs24 20 ⟨as20, rs20, m20⟩
theorem tabs20OK : TabOK Try.prog tabs20 := TabOK.add tabs24OK c20 Try.call20

/-! putlog/putlogref21.Ints -/
def as19 : List Ty := [(.list tI), (.list tI)]
def rs19 : List Ty := [.bool]
noncomputable def an19 : Ann := .seq (.a) (.seq (.a) (.seq (.seq (.a) (.block (.loop ⟨[(5, .r (.c (.d (.d tI))))], [11, 12, 13, 14, 15, 16, 17, 18, 19, 20, 21, 22, 23, 24, 25], [], []⟩ [(.exit 0, ⟨[], [5, 11, 12, 13, 14, 15, 16, 17, 18, 19, 20, 21, 22, 23, 24, 25], [], []⟩), (.ret, ⟨[(4, .r (.c (.d (.d .bool))))], [5, 11, 12, 13, 14, 15, 16, 17, 18, 19, 20, 21, 22, 23, 24, 25], [], []⟩)] (.seq (.a) (.seq (.block (.seq (.reg [0, 0, 3, 7, 0, 0, 48, 112, 255] [0, 1, 2, 3, 4, 5, 6, 7, 8] [.s [] [], .s [] [], .s [] [], .s [] [], .s [] [], .s [] [], .s [] [], .s [] [], .s [] []] (.a)) (.a))) (.a)))))) (.a)))
noncomputable def m19 : (List Int × List Int) → Option (Bool) :=
  fun (x : List Int × List Int) =>
    bif PE.notM (eqM (lenM x.1) (lenM x.2)) then some false
    else
      Option.bind
        (loopM
          (fun (s : Int) =>
            bif ltM s (lenM x.1) then
              Option.bind (idxM x.1 s) fun (r : Int) =>
                Option.bind (idxM x.2 s) fun (r_1 : Int) =>
                  bif PE.notM (eqM r r_1) then some (Sum.inr (Sum.inr false))
                  else some (Sum.inl (IntKind.wrap IntKind.i64 (s + (1 : Int))))
            else some (Sum.inr (Sum.inl ())))
          (0 : Int))
        fun (o : Unit ⊕ Bool) => Sum.elim (fun (t : Unit) => some true) (fun (t : Bool) => some t) o
theorem c19 : SpecOK Try.prog 19 ⟨as19, rs19, m19⟩ :=
  fnM_ok (own := []) (an := an19) (n := 400) tabs20OK (F := OPS) OPS_sound OPS_nice (f := 19) (fn := Try.f19) (code := Try.f19.body.getD .skip) (by kernel_rfl) (by kernel_rfl) (by kernel_rfl) fun x => by kernel_rfl
noncomputable def tabs19 : Tabs := Tabs.add tabs20 19 ⟨as19, rs19, m19⟩
theorem tabs19OK : TabOK Try.prog tabs19 := TabOK.add tabs20OK c19 Try.call19

/-! putlog/putloglaw21.sane -/
def as11 : List Ty := []
def rs11 : List Ty := [.bool]
noncomputable def an11 : Ann := .a
noncomputable def m11 : Unit → Option (Bool) :=
  fun (x : Unit) =>
    Option.bind
      (m27
        (((1400 : Int),
            [(10 : Int), (12 : Int), (11 : Int), (15 : Int), (14 : Int), (13 : Int), (16 : Int), (18 : Int), (12 : Int)]),
          [(5 : Int), (4 : Int), (9 : Int)], (0 : Int)))
      fun (r : Int × Int) =>
      Option.bind
        (m27
          (((1400 : Int),
              [(10 : Int), (12 : Int), (11 : Int), (15 : Int), (14 : Int), (13 : Int), (16 : Int), (18 : Int),
                (12 : Int)]),
            [(5 : Int), (4 : Int), (9 : Int)], (1 : Int)))
        fun (r_1 : Int × Int) =>
        Option.bind
          (m27
            (((1400 : Int),
                [(10 : Int), (12 : Int), (11 : Int), (15 : Int), (14 : Int), (13 : Int), (16 : Int), (18 : Int),
                  (12 : Int)]),
              [(5 : Int), (4 : Int), (9 : Int)], (7 : Int)))
          fun (r_2 : Int × Int) =>
          Option.bind
            (m22
              (((1400 : Int),
                  [(10 : Int), (12 : Int), (11 : Int), (15 : Int), (14 : Int), (13 : Int), (16 : Int), (18 : Int),
                    (12 : Int)]),
                [(5 : Int), (4 : Int), (3 : Int), (9 : Int)]))
            fun (r_3 : List (Int × Int) × Int) =>
            Option.bind
              (m29
                (((1400 : Int),
                    [(10 : Int), (12 : Int), (11 : Int), (15 : Int), (14 : Int), (13 : Int), (16 : Int), (18 : Int),
                      (12 : Int)]),
                  [(5 : Int), (4 : Int), (3 : Int), (9 : Int)], (1 : Int)))
              fun (r_4 : Int × Bool × Int) =>
              Option.bind
                (m29
                  (((1400 : Int),
                      [(10 : Int), (12 : Int), (11 : Int), (15 : Int), (14 : Int), (13 : Int), (16 : Int), (18 : Int),
                        (12 : Int)]),
                    [(5 : Int), (4 : Int), (3 : Int), (9 : Int)], (2 : Int)))
                fun (r_5 : Int × Bool × Int) =>
                Option.bind
                  (m31
                    (((1400 : Int),
                        [(10 : Int), (12 : Int), (11 : Int), (15 : Int), (14 : Int), (13 : Int), (16 : Int), (18 : Int),
                          (12 : Int)]),
                      (1403 : Int), [(1 : Int), (2 : Int), (3 : Int)]))
                  fun (r_6 : Int × Int × Int) =>
                  Option.bind (m33 ((1500 : Int), (12 : Int), false)) fun (r_7 : (Int × Int) × Int) =>
                    Option.bind (m33 ((1500 : Int), (0 : Int), false)) fun (r_8 : (Int × Int) × Int) =>
                      Option.bind
                        (m24
                          (r_3.1,
                            [((3 : Int), (0 : Int)), ((0 : Int), (1 : Int)), ((4 : Int), (1 : Int)),
                              ((1 : Int), (2 : Int)), ((2 : Int), (2 : Int)), ((5 : Int), (3 : Int))]))
                        fun (r_9 : Bool) =>
                        Option.bind
                          (bif
                              PE.andM
                                (PE.andM
                                  (PE.andM
                                    (PE.andM
                                      (PE.andM
                                        (PE.andM
                                          (PE.andM
                                            (PE.andM
                                              (PE.andM
                                                (PE.andM
                                                  (PE.andM (PE.andM (eqM r.2 (0 : Int)) (eqM r_1.2 (0 : Int)))
                                                    (eqM r_2.2 (210 : Int)))
                                                  (eqM r_3.2 (0 : Int)))
                                                (eqM r_4.2.2 (0 : Int)))
                                              (eqM r_5.2.2 (0 : Int)))
                                            (eqM r_6.2.2 (0 : Int)))
                                          (eqM r_7.2 (0 : Int)))
                                        (eqM r_8.2 (0 : Int)))
                                      (eqM r.1 (2 : Int)))
                                    (eqM r_1.1 (0 : Int)))
                                  r_9)
                                (PE.andM
                                  (PE.andM
                                    (PE.andM
                                      (PE.andM (PE.andM (PE.andM (eqM r_4.1 (1403 : Int)) r_4.2.1) (PE.notM r_5.2.1))
                                        (eqM r_6.1 (2 : Int)))
                                      (eqM r_6.2.1 (2 : Int)))
                                    (PE.andM (eqM r_7.1.1 (1500 : Int)) (eqM r_7.1.2 (1530 : Int))))
                                  (PE.andM (eqM r_8.1.1 (1509 : Int)) (eqM r_8.1.2 (2101 : Int)))) then
                            m20
                              [(10 : Int), (12 : Int), (11 : Int), (15 : Int), (14 : Int), (13 : Int), (16 : Int),
                                (18 : Int), (12 : Int)]
                          else some [])
                          fun (r_10 : List Int) =>
                          Option.bind
                            (bif
                                PE.andM
                                  (PE.andM
                                    (PE.andM
                                      (PE.andM
                                        (PE.andM
                                          (PE.andM
                                            (PE.andM
                                              (PE.andM
                                                (PE.andM
                                                  (PE.andM
                                                    (PE.andM (PE.andM (eqM r.2 (0 : Int)) (eqM r_1.2 (0 : Int)))
                                                      (eqM r_2.2 (210 : Int)))
                                                    (eqM r_3.2 (0 : Int)))
                                                  (eqM r_4.2.2 (0 : Int)))
                                                (eqM r_5.2.2 (0 : Int)))
                                              (eqM r_6.2.2 (0 : Int)))
                                            (eqM r_7.2 (0 : Int)))
                                          (eqM r_8.2 (0 : Int)))
                                        (eqM r.1 (2 : Int)))
                                      (eqM r_1.1 (0 : Int)))
                                    r_9)
                                  (PE.andM
                                    (PE.andM
                                      (PE.andM
                                        (PE.andM (PE.andM (PE.andM (eqM r_4.1 (1403 : Int)) r_4.2.1) (PE.notM r_5.2.1))
                                          (eqM r_6.1 (2 : Int)))
                                        (eqM r_6.2.1 (2 : Int)))
                                      (PE.andM (eqM r_7.1.1 (1500 : Int)) (eqM r_7.1.2 (1530 : Int))))
                                    (PE.andM (eqM r_8.1.1 (1509 : Int)) (eqM r_8.1.2 (2101 : Int)))) then
                              m19
                                (r_10,
                                  [(1 : Int), (-1 : Int), (1 : Int), (-1 : Int), (-1 : Int), (1 : Int), (1 : Int),
                                    (-1 : Int)])
                            else some false)
                            fun (r_11 : Bool) =>
                            Option.bind
                              (bif
                                  PE.andM
                                    (PE.andM
                                      (PE.andM
                                        (PE.andM
                                          (PE.andM
                                            (PE.andM
                                              (PE.andM
                                                (PE.andM
                                                  (PE.andM
                                                    (PE.andM
                                                      (PE.andM
                                                        (PE.andM (PE.andM (eqM r.2 (0 : Int)) (eqM r_1.2 (0 : Int)))
                                                          (eqM r_2.2 (210 : Int)))
                                                        (eqM r_3.2 (0 : Int)))
                                                      (eqM r_4.2.2 (0 : Int)))
                                                    (eqM r_5.2.2 (0 : Int)))
                                                  (eqM r_6.2.2 (0 : Int)))
                                                (eqM r_7.2 (0 : Int)))
                                              (eqM r_8.2 (0 : Int)))
                                            (eqM r.1 (2 : Int)))
                                          (eqM r_1.1 (0 : Int)))
                                        r_9)
                                      (PE.andM
                                        (PE.andM
                                          (PE.andM
                                            (PE.andM
                                              (PE.andM (PE.andM (eqM r_4.1 (1403 : Int)) r_4.2.1) (PE.notM r_5.2.1))
                                              (eqM r_6.1 (2 : Int)))
                                            (eqM r_6.2.1 (2 : Int)))
                                          (PE.andM (eqM r_7.1.1 (1500 : Int)) (eqM r_7.1.2 (1530 : Int))))
                                        (PE.andM (eqM r_8.1.1 (1509 : Int)) (eqM r_8.1.2 (2101 : Int)))))
                                    r_11 then
                                m17
                                  ((1400 : Int),
                                    [(10 : Int), (12 : Int), (11 : Int), (15 : Int), (14 : Int), (13 : Int), (16 : Int),
                                      (18 : Int), (12 : Int)])
                              else some false)
                              fun (r_12 : Bool) =>
                              Option.bind
                                (bif
                                    PE.andM
                                      (PE.andM
                                        (PE.andM
                                          (PE.andM
                                            (PE.andM
                                              (PE.andM
                                                (PE.andM
                                                  (PE.andM
                                                    (PE.andM
                                                      (PE.andM
                                                        (PE.andM
                                                          (PE.andM
                                                            (PE.andM (PE.andM (eqM r.2 (0 : Int)) (eqM r_1.2 (0 : Int)))
                                                              (eqM r_2.2 (210 : Int)))
                                                            (eqM r_3.2 (0 : Int)))
                                                          (eqM r_4.2.2 (0 : Int)))
                                                        (eqM r_5.2.2 (0 : Int)))
                                                      (eqM r_6.2.2 (0 : Int)))
                                                    (eqM r_7.2 (0 : Int)))
                                                  (eqM r_8.2 (0 : Int)))
                                                (eqM r.1 (2 : Int)))
                                              (eqM r_1.1 (0 : Int)))
                                            r_9)
                                          (PE.andM
                                            (PE.andM
                                              (PE.andM
                                                (PE.andM
                                                  (PE.andM (PE.andM (eqM r_4.1 (1403 : Int)) r_4.2.1) (PE.notM r_5.2.1))
                                                  (eqM r_6.1 (2 : Int)))
                                                (eqM r_6.2.1 (2 : Int)))
                                              (PE.andM (eqM r_7.1.1 (1500 : Int)) (eqM r_7.1.2 (1530 : Int))))
                                            (PE.andM (eqM r_8.1.1 (1509 : Int)) (eqM r_8.1.2 (2101 : Int)))))
                                        r_11)
                                      r_12 then
                                  m17 ((2100 : Int), [(1 : Int), (2 : Int)])
                                else some false)
                                fun (r_13 : Bool) =>
                                Option.bind
                                  (bif
                                      PE.andM
                                        (PE.andM
                                          (PE.andM
                                            (PE.andM
                                              (PE.andM
                                                (PE.andM
                                                  (PE.andM
                                                    (PE.andM
                                                      (PE.andM
                                                        (PE.andM
                                                          (PE.andM
                                                            (PE.andM
                                                              (PE.andM
                                                                (PE.andM
                                                                  (PE.andM (eqM r.2 (0 : Int)) (eqM r_1.2 (0 : Int)))
                                                                  (eqM r_2.2 (210 : Int)))
                                                                (eqM r_3.2 (0 : Int)))
                                                              (eqM r_4.2.2 (0 : Int)))
                                                            (eqM r_5.2.2 (0 : Int)))
                                                          (eqM r_6.2.2 (0 : Int)))
                                                        (eqM r_7.2 (0 : Int)))
                                                      (eqM r_8.2 (0 : Int)))
                                                    (eqM r.1 (2 : Int)))
                                                  (eqM r_1.1 (0 : Int)))
                                                r_9)
                                              (PE.andM
                                                (PE.andM
                                                  (PE.andM
                                                    (PE.andM
                                                      (PE.andM (PE.andM (eqM r_4.1 (1403 : Int)) r_4.2.1)
                                                        (PE.notM r_5.2.1))
                                                      (eqM r_6.1 (2 : Int)))
                                                    (eqM r_6.2.1 (2 : Int)))
                                                  (PE.andM (eqM r_7.1.1 (1500 : Int)) (eqM r_7.1.2 (1530 : Int))))
                                                (PE.andM (eqM r_8.1.1 (1509 : Int)) (eqM r_8.1.2 (2101 : Int)))))
                                            r_11)
                                          r_12)
                                        (PE.notM r_13) then
                                    m25 [(1 : Int), (2 : Int)]
                                  else some false)
                                  fun (r_14 : Bool) =>
                                  Option.bind
                                    (bif
                                        PE.andM
                                          (PE.andM
                                            (PE.andM
                                              (PE.andM
                                                (PE.andM
                                                  (PE.andM
                                                    (PE.andM
                                                      (PE.andM
                                                        (PE.andM
                                                          (PE.andM
                                                            (PE.andM
                                                              (PE.andM
                                                                (PE.andM
                                                                  (PE.andM
                                                                    (PE.andM
                                                                      (PE.andM (eqM r.2 (0 : Int)) (eqM r_1.2 (0 : Int)))
                                                                      (eqM r_2.2 (210 : Int)))
                                                                    (eqM r_3.2 (0 : Int)))
                                                                  (eqM r_4.2.2 (0 : Int)))
                                                                (eqM r_5.2.2 (0 : Int)))
                                                              (eqM r_6.2.2 (0 : Int)))
                                                            (eqM r_7.2 (0 : Int)))
                                                          (eqM r_8.2 (0 : Int)))
                                                        (eqM r.1 (2 : Int)))
                                                      (eqM r_1.1 (0 : Int)))
                                                    r_9)
                                                  (PE.andM
                                                    (PE.andM
                                                      (PE.andM
                                                        (PE.andM
                                                          (PE.andM (PE.andM (eqM r_4.1 (1403 : Int)) r_4.2.1)
                                                            (PE.notM r_5.2.1))
                                                          (eqM r_6.1 (2 : Int)))
                                                        (eqM r_6.2.1 (2 : Int)))
                                                      (PE.andM (eqM r_7.1.1 (1500 : Int)) (eqM r_7.1.2 (1530 : Int))))
                                                    (PE.andM (eqM r_8.1.1 (1509 : Int)) (eqM r_8.1.2 (2101 : Int)))))
                                                r_11)
                                              r_12)
                                            (PE.notM r_13))
                                          r_14 then
                                      m25 [(1 : Int)]
                                    else some false)
                                    fun (r_15 : Bool) =>
                                    some
                                      (PE.andM
                                        (PE.andM
                                          (PE.andM
                                            (PE.andM
                                              (PE.andM
                                                (PE.andM
                                                  (PE.andM
                                                    (PE.andM
                                                      (PE.andM
                                                        (PE.andM
                                                          (PE.andM
                                                            (PE.andM
                                                              (PE.andM
                                                                (PE.andM
                                                                  (PE.andM
                                                                    (PE.andM
                                                                      (PE.andM (eqM r.2 (0 : Int)) (eqM r_1.2 (0 : Int)))
                                                                      (eqM r_2.2 (210 : Int)))
                                                                    (eqM r_3.2 (0 : Int)))
                                                                  (eqM r_4.2.2 (0 : Int)))
                                                                (eqM r_5.2.2 (0 : Int)))
                                                              (eqM r_6.2.2 (0 : Int)))
                                                            (eqM r_7.2 (0 : Int)))
                                                          (eqM r_8.2 (0 : Int)))
                                                        (eqM r.1 (2 : Int)))
                                                      (eqM r_1.1 (0 : Int)))
                                                    r_9)
                                                  (PE.andM
                                                    (PE.andM
                                                      (PE.andM
                                                        (PE.andM
                                                          (PE.andM (PE.andM (eqM r_4.1 (1403 : Int)) r_4.2.1)
                                                            (PE.notM r_5.2.1))
                                                          (eqM r_6.1 (2 : Int)))
                                                        (eqM r_6.2.1 (2 : Int)))
                                                      (PE.andM (eqM r_7.1.1 (1500 : Int)) (eqM r_7.1.2 (1530 : Int))))
                                                    (PE.andM (eqM r_8.1.1 (1509 : Int)) (eqM r_8.1.2 (2101 : Int)))))
                                                r_11)
                                              r_12)
                                            (PE.notM r_13))
                                          r_14)
                                        (PE.notM r_15))
theorem c11 : SpecOK Try.prog 11 ⟨as11, rs11, m11⟩ :=
  fnM_ok (own := []) (an := an11) (n := 400) tabs19OK (F := OPS) OPS_sound OPS_nice (f := 11) (fn := Try.f11) (code := Try.f11.body.getD .skip) (by kernel_rfl) (by kernel_rfl) (by kernel_rfl) fun x => by kernel_rfl
noncomputable def tabs11 : Tabs := Tabs.add tabs19 11 ⟨as11, rs11, m11⟩
theorem tabs11OK : TabOK Try.prog tabs11 := TabOK.add tabs19OK c11 Try.call11

/-! putlog/putlogref21.pick -/
def as35 : List Ty := [tI, tI]
def rs35 : List Ty := [tI]
noncomputable def an35 : Ann := .seq (.a) (.seq (.join [(.norm, ⟨[(0, .r (.c (.d (.d tI))))], [5, 6, 7, 8, 9], [], []⟩)] (.a)) (.a))
noncomputable def m35 : (Int × Int) → Option (Int) :=
  fun (x : Int × Int) =>
    Option.bind
      (bif ltM x.1 (0 : Int) then some (IntKind.wrap IntKind.i64 (negM (IntKind.wrap IntKind.i64 (x.1 + (1 : Int)))))
      else some x.1)
      fun (o : Int) => Option.bind (remM o x.2) fun (r : Int) => some r
theorem c35 : SpecOK Try.prog 35 ⟨as35, rs35, m35⟩ :=
  fnM_ok (own := []) (an := an35) (n := 400) tabs11OK (F := OPS) OPS_sound OPS_nice (f := 35) (fn := Try.f35) (code := Try.f35.body.getD .skip) (by kernel_rfl) (by kernel_rfl) (by kernel_rfl) fun x => by kernel_rfl
noncomputable def tabs35 : Tabs := Tabs.add tabs11 35 ⟨as35, rs35, m35⟩
theorem tabs35OK : TabOK Try.prog tabs35 := TabOK.add tabs11OK c35 Try.call35

/-! putlog/putlogref21.Series -/
def as15 : List Ty := [(.list tI), tI]
def rs15 : List Ty := [(.list tI)]
noncomputable def an15 : Ann := .seq (.a) (.seq (.a) (.seq (.seq (.a) (.block (.loop ⟨[(5, .r (.c (.h 0))), (6, .r (.c (.d (.d tI))))], [7, 8, 9, 10, 11, 12, 13, 14, 15, 16, 17, 18, 19, 20, 21, 22, 23, 24, 25, 26, 27, 28, 29, 30, 31, 32, 33, 34, 35, 36, 37, 38], [], [.arr tI]⟩ [(.exit 0, ⟨[(5, .r (.c (.h 0)))], [6, 7, 8, 9, 10, 11, 12, 13, 14, 15, 16, 17, 18, 19, 20, 21, 22, 23, 24, 25, 26, 27, 28, 29, 30, 31, 32, 33, 34, 35, 36, 37, 38], [], [.arr tI]⟩)] (.seq (.a) (.seq (.block (.seq (.a) (.seq (.join [(.norm, ⟨[(7, .r (.c (.d (.d tI))))], [25, 26, 27, 28, 29, 30, 31, 32], [], []⟩)] (.a)) (.a)))) (.a)))))) (.a)))
noncomputable def m15 : (List Int × Int) → Option (List Int) :=
  fun (x : List Int × Int) =>
    Option.bind
      (loopM
        (fun (s : Int × List Int) =>
          bif PE.orM (ltM s.1 x.2) (PE.andM (ltM s.1 (lenM x.1)) (ltM s.1 (80 : Int))) then
            Option.bind
              (bif ltM s.1 (lenM x.1) then Option.bind (idxM x.1 s.1) fun (r : Int) => some r
              else some (IntKind.wrap IntKind.i64 ((17 : Int) * s.1)))
              fun (o : Int) =>
              Option.bind (m35 (o, (40 : Int))) fun (r : Int) =>
                Option.bind (appM (nat_lit 8) s.2 [IntKind.wrap IntKind.i64 ((100 : Int) + r)]) fun (r : List Int) =>
                  some (Sum.inl (IntKind.wrap IntKind.i64 (s.1 + (1 : Int)), r))
          else some (Sum.inr s.2))
        ((0 : Int), []))
      fun (o : List Int) => some o
theorem c15 : SpecOK Try.prog 15 ⟨as15, rs15, m15⟩ :=
  fnM_ok (own := []) (an := an15) (n := 400) tabs35OK (F := OPS) OPS_sound OPS_nice (f := 15) (fn := Try.f15) (code := Try.f15.body.getD .skip) (by kernel_rfl) (by kernel_rfl) (by kernel_rfl) fun x => by kernel_rfl
noncomputable def tabs15 : Tabs := Tabs.add tabs35 15 ⟨as15, rs15, m15⟩
theorem tabs15OK : TabOK Try.prog tabs15 := TabOK.add tabs35OK c15 Try.call15

/-! putlog/putlogref21.Made -/
def as12 : List Ty := [tI, (.list tI)]
def rs12 : List Ty := [(.pair tI (.list tI))]
noncomputable def an12 : Ann := .a
noncomputable def m12 : (Int × List Int) → Option (Int × List Int) :=
  fun (x : Int × List Int) =>
    Option.bind (m35 (x.1, (1900 : Int))) fun (r : Int) =>
      Option.bind (m15 (x.2, (30 : Int))) fun (r_1 : List Int) => some (r, r_1)
theorem c12 : SpecOK Try.prog 12 ⟨as12, rs12, m12⟩ :=
  fnM_ok (own := []) (an := an12) (n := 400) tabs15OK (F := OPS) OPS_sound OPS_nice (f := 12) (fn := Try.f12) (code := Try.f12.body.getD .skip) (by kernel_rfl) (by kernel_rfl) (by kernel_rfl) fun x => by kernel_rfl
noncomputable def tabs12 : Tabs := Tabs.add tabs15 12 ⟨as12, rs12, m12⟩
theorem tabs12OK : TabOK Try.prog tabs12 := TabOK.add tabs15OK c12 Try.call12

/-! putlog/putlogref21.Part -/
def as13 : List Ty := [(.pair tI (.list tI)), tI, tI]
def rs13 : List Ty := [(.list tI), tI]
noncomputable def an13 : Ann := .a
noncomputable def m13 : ((Int × List Int) × Int × Int) → Option (List Int × Int) :=
  fun (x : (Int × List Int) × Int × Int) =>
    Option.bind (m35 (x.2.2, (20 : Int))) fun (r : Int) =>
      Option.bind
        (m35
          (x.2.1,
            IntKind.wrap IntKind.i64
              (IntKind.wrap IntKind.i64 (lenM x.1.2 - IntKind.wrap IntKind.i64 ((3 : Int) + r)) + (1 : Int))))
        fun (r_1 : Int) =>
        Option.bind (sliceM x.1.2 r_1 (IntKind.wrap IntKind.i64 (r_1 + IntKind.wrap IntKind.i64 ((3 : Int) + r))))
          fun (r_2 : List Int) => Option.bind (appM (nat_lit 8) [] r_2) fun (r : List Int) => some (r, r_1)
theorem c13 : SpecOK Try.prog 13 ⟨as13, rs13, m13⟩ :=
  fnM_ok (own := []) (an := an13) (n := 400) tabs12OK (F := OPS) OPS_sound OPS_nice (f := 13) (fn := Try.f13) (code := Try.f13.body.getD .skip) (by kernel_rfl) (by kernel_rfl) (by kernel_rfl) fun x => by kernel_rfl
noncomputable def tabs13 : Tabs := Tabs.add tabs12 13 ⟨as13, rs13, m13⟩
theorem tabs13OK : TabOK Try.prog tabs13 := TabOK.add tabs12OK c13 Try.call13

/-! putlog/putloglaw21.pick -/
def as14 : List Ty := [tI, tI]
def rs14 : List Ty := [tI]
noncomputable def an14 : Ann := .seq (.a) (.seq (.join [(.norm, ⟨[(0, .r (.c (.d (.d tI))))], [5, 6, 7, 8, 9], [], []⟩)] (.a)) (.a))
noncomputable def m14 : (Int × Int) → Option (Int) :=
  fun (x : Int × Int) =>
    Option.bind
      (bif ltM x.1 (0 : Int) then some (IntKind.wrap IntKind.i64 (negM (IntKind.wrap IntKind.i64 (x.1 + (1 : Int)))))
      else some x.1)
      fun (o : Int) => Option.bind (remM o x.2) fun (r : Int) => some r
theorem c14 : SpecOK Try.prog 14 ⟨as14, rs14, m14⟩ :=
  fnM_ok (own := []) (an := an14) (n := 400) tabs13OK (F := OPS) OPS_sound OPS_nice (f := 14) (fn := Try.f14) (code := Try.f14.body.getD .skip) (by kernel_rfl) (by kernel_rfl) (by kernel_rfl) fun x => by kernel_rfl
noncomputable def tabs14 : Tabs := Tabs.add tabs13 14 ⟨as14, rs14, m14⟩
theorem tabs14OK : TabOK Try.prog tabs14 := TabOK.add tabs13OK c14 Try.call14

/-! putlog/putlogref21.Spoiled -/
def as16 : List Ty := [(.list tI), (.list (.pair tI tI))]
def rs16 : List Ty := [(.list tI)]
noncomputable def an16 : Ann := .seq (.a) (.seq (.a) (.seq (.seq (.a) (.block (.loop ⟨[(6, .r (.c (.d (.d tI))))], [10, 11, 12, 13, 14, 15, 16, 17, 18, 19, 20, 21, 22, 23, 24, 25, 26, 27, 28, 29, 30, 31, 32, 33, 34, 35, 36], [(0, .arr tI)], []⟩ [(.exit 0, ⟨[], [6, 10, 11, 12, 13, 14, 15, 16, 17, 18, 19, 20, 21, 22, 23, 24, 25, 26, 27, 28, 29, 30, 31, 32, 33, 34, 35, 36], [(0, .arr tI)], []⟩)] (.seq (.a) (.seq (.block (.reg [0, 0, 0, 6, 14, 30, 0, 64, 254, 0, 0, 1536, 3584, 7680, 16382, 32766, 65535, 131071] [0, 1, 2, 3, 4, 5, 6, 7, 8, 9, 10, 11, 12, 13, 14, 15, 16, 17] [.s [] [], .s [] [], .s [] [], .s [] [], .s [] [], .s [] [], .s [] [], .s [0] [], .s [] [], .s [] [], .s [] [], .s [] [], .s [] [], .s [] [], .s [] [], .s [] [], .s [0] [], .s [0] [0]] (.a))) (.a)))))) (.a)))
noncomputable def m16 : (List Int × List (Int × Int)) → Option (List Int) :=
  fun (x : List Int × List (Int × Int)) =>
    Option.bind (appM (nat_lit 8) [] x.1) fun (r : List Int) =>
      Option.bind
        (loopM
          (fun (s : Int × List Int) =>
            bif PE.andM (ltM s.1 (lenM x.2)) (ltM s.1 (6 : Int)) then
              Option.bind (idxM x.2 s.1) fun (r_1 : Int × Int) =>
                Option.bind (m35 (r_1.1, lenM s.2)) fun (r_2 : Int) =>
                  Option.bind (idxM x.2 s.1) fun (r_3 : Int × Int) =>
                    Option.bind (m35 (r_3.2, (80 : Int))) fun (r_4 : Int) =>
                      Option.bind (chkM r_2 (lenM s.2)) fun (r_5 : Unit) =>
                        Option.bind (setM s.2 r_2 fun (x : Int) => some (IntKind.wrap IntKind.i64 ((80 : Int) + r_4)))
                          fun (r : List Int) => some (Sum.inl (IntKind.wrap IntKind.i64 (s.1 + (1 : Int)), r))
            else some (Sum.inr s.2))
          ((0 : Int), r))
        fun (o : List Int) => some o
theorem c16 : SpecOK Try.prog 16 ⟨as16, rs16, m16⟩ :=
  fnM_ok (own := []) (an := an16) (n := 400) tabs14OK (F := OPS) OPS_sound OPS_nice (f := 16) (fn := Try.f16) (code := Try.f16.body.getD .skip) (by kernel_rfl) (by kernel_rfl) (by kernel_rfl) fun x => by kernel_rfl
noncomputable def tabs16 : Tabs := Tabs.add tabs14 16 ⟨as16, rs16, m16⟩
theorem tabs16OK : TabOK Try.prog tabs16 := TabOK.add tabs14OK c16 Try.call16

/-! putlog/putlogref21.widths -/
def as38 : List Ty := [(.list tI), tI]
def rs38 : List Ty := [.bool]
noncomputable def an38 : Ann := .seq (.a) (.seq (.seq (.a) (.block (.loop ⟨[(5, .r (.c (.d (.d tI))))], [6, 7, 8, 9, 10, 11, 12, 13, 14, 15, 16, 17, 18, 19, 20, 21, 22, 23], [], []⟩ [(.exit 0, ⟨[], [5, 6, 7, 8, 9, 10, 11, 12, 13, 14, 15, 16, 17, 18, 19, 20, 21, 22, 23], [], []⟩), (.ret, ⟨[(4, .r (.c (.d (.d .bool))))], [5, 6, 7, 8, 9, 10, 11, 12, 13, 14, 15, 16, 17, 18, 19, 20, 21, 22, 23], [], []⟩)] (.a)))) (.a))
noncomputable def m38 : (List Int × Int) → Option (Bool) :=
  fun (x : List Int × Int) =>
    Option.bind
      (loopM
        (fun (s : Int) =>
          bif ltM s (lenM x.1) then
            Option.bind (idxM x.1 s) fun (r : Int) =>
              Option.bind (bif PE.notM (ltM r (1 : Int)) then idxM x.1 s else some (0 : Int)) fun (r_1 : Int) =>
                bif PE.orM (ltM r (1 : Int)) (ltM (9999 : Int) r_1) then some (Sum.inr (Sum.inr false))
                else some (Sum.inl (IntKind.wrap IntKind.i64 (s + (1 : Int))))
          else some (Sum.inr (Sum.inl ())))
        (0 : Int))
      fun (o : Unit ⊕ Bool) =>
      Sum.elim (fun (t : Unit) => some (PE.andM (leM (2 : Int) (lenM x.1)) (leM (lenM x.1) x.2)))
        (fun (t : Bool) => some t) o
theorem c38 : SpecOK Try.prog 38 ⟨as38, rs38, m38⟩ :=
  fnM_ok (own := []) (an := an38) (n := 400) tabs16OK (F := OPS) OPS_sound OPS_nice (f := 38) (fn := Try.f38) (code := Try.f38.body.getD .skip) (by kernel_rfl) (by kernel_rfl) (by kernel_rfl) fun x => by kernel_rfl
noncomputable def tabs38 : Tabs := Tabs.add tabs16 38 ⟨as38, rs38, m38⟩
theorem tabs38OK : TabOK Try.prog tabs38 := TabOK.add tabs16OK c38 Try.call38

/-! putlog/putlogref21.Valid -/
def as18 : List Ty := [(.pair tI (.list tI))]
def rs18 : List Ty := [.bool]
noncomputable def an18 : Ann := .a
noncomputable def m18 : (Int × List Int) → Option (Bool) :=
  fun (x : Int × List Int) =>
    Option.bind (m38 (x.2, (200 : Int))) fun (r : Bool) =>
      some
        (PE.andM (PE.andM (PE.andM r (leM (0 : Int) x.1)) (leM x.1 (2100 : Int)))
          (leM (IntKind.wrap IntKind.i64 (IntKind.wrap IntKind.i64 (x.1 + lenM x.2) - (1 : Int))) (2100 : Int)))
theorem c18 : SpecOK Try.prog 18 ⟨as18, rs18, m18⟩ :=
  fnM_ok (own := []) (an := an18) (n := 400) tabs38OK (F := OPS) OPS_sound OPS_nice (f := 18) (fn := Try.f18) (code := Try.f18.body.getD .skip) (by kernel_rfl) (by kernel_rfl) (by kernel_rfl) fun x => by kernel_rfl
noncomputable def tabs18 : Tabs := Tabs.add tabs38 18 ⟨as18, rs18, m18⟩
theorem tabs18OK : TabOK Try.prog tabs18 := TabOK.add tabs38OK c18 Try.call18

/-! putlog/putlogref21.trend -/
def as40 : List Ty := [(.list tI), tI]
def rs40 : List Ty := [tI]
noncomputable def an40 : Ann := .seq (.a) (.seq (.seq (.reg [0, 0, 2, 7, 15, 0, 0, 96, 224, 511] [0, 1, 2, 3, 4, 5, 6, 7, 8, 9] [.s [] [], .s [] [], .s [] [], .s [] [], .s [] [], .s [] [], .s [] [], .s [] [], .s [] [], .s [] []] (.a)) (.a)) (.seq (.seq (.reg [0, 0, 2, 7, 15, 0, 0, 96, 224, 511] [0, 1, 2, 3, 4, 5, 6, 7, 8, 9] [.s [] [], .s [] [], .s [] [], .s [] [], .s [] [], .s [] [], .s [] [], .s [] [], .s [] [], .s [] []] (.a)) (.a)) (.a)))
noncomputable def m40 : (List Int × Int) → Option (Int) :=
  fun (x : List Int × Int) =>
    Option.bind (idxM x.1 (IntKind.wrap IntKind.i64 (x.2 + (1 : Int)))) fun (r : Int) =>
      Option.bind (idxM x.1 x.2) fun (r_1 : Int) =>
        bif ltM r_1 r then some (1 : Int)
        else
          Option.bind (idxM x.1 (IntKind.wrap IntKind.i64 (x.2 + (1 : Int)))) fun (r_2 : Int) =>
            Option.bind (idxM x.1 x.2) fun (r : Int) => bif ltM r_2 r then some (-1 : Int) else some (0 : Int)
theorem c40 : SpecOK Try.prog 40 ⟨as40, rs40, m40⟩ :=
  fnM_ok (own := []) (an := an40) (n := 400) tabs18OK (F := OPS) OPS_sound OPS_nice (f := 40) (fn := Try.f40) (code := Try.f40.body.getD .skip) (by kernel_rfl) (by kernel_rfl) (by kernel_rfl) fun x => by kernel_rfl
noncomputable def tabs40 : Tabs := Tabs.add tabs18 40 ⟨as40, rs40, m40⟩
theorem tabs40OK : TabOK Try.prog tabs40 := TabOK.add tabs18OK c40 Try.call40

/-! putlog/putlogref21.Trends -/
def as21 : List Ty := [(.list tI)]
def rs21 : List Ty := [(.list tI)]
noncomputable def an21 : Ann := .seq (.a) (.seq (.a) (.seq (.a) (.seq (.seq (.a) (.block (.loop ⟨[(3, .r (.c (.h 0))), (4, .r (.c (.d (.d tI))))], [8, 9, 10, 11, 12, 13, 14, 15, 16, 17, 18, 19, 20], [], [.arr tI]⟩ [(.exit 0, ⟨[(3, .r (.c (.h 0)))], [4, 8, 9, 10, 11, 12, 13, 14, 15, 16, 17, 18, 19, 20], [], [.arr tI]⟩)] (.a)))) (.a))))
noncomputable def m21 : List Int → Option (List Int) :=
  fun (x : List Int) =>
    Option.bind (m38 (x, (200 : Int))) fun (r : Bool) =>
      bif PE.notM r then some []
      else
        Option.bind
          (loopM
            (fun (s : Int × List Int) =>
              bif ltM (IntKind.wrap IntKind.i64 (s.1 + (1 : Int))) (lenM x) then
                Option.bind (m40 (x, s.1)) fun (r_1 : Int) =>
                  Option.bind (appM (nat_lit 8) s.2 [r_1]) fun (r : List Int) =>
                    some (Sum.inl (IntKind.wrap IntKind.i64 (s.1 + (1 : Int)), r))
              else some (Sum.inr s.2))
            ((0 : Int), []))
          fun (o : List Int) => some o
theorem c21 : SpecOK Try.prog 21 ⟨as21, rs21, m21⟩ :=
  fnM_ok (own := []) (an := an21) (n := 400) tabs40OK (F := OPS) OPS_sound OPS_nice (f := 21) (fn := Try.f21) (code := Try.f21.body.getD .skip) (by kernel_rfl) (by kernel_rfl) (by kernel_rfl) fun x => by kernel_rfl
noncomputable def tabs21 : Tabs := Tabs.add tabs40 21 ⟨as21, rs21, m21⟩
theorem tabs21OK : TabOK Try.prog tabs21 := TabOK.add tabs40OK c21 Try.call21

/-! putlog/putlogref21.Sample -/
def as26 : List Ty := [(.list tI)]
def rs26 : List Ty := [.bool]
noncomputable def an26 : Ann := .a
noncomputable def m26 : List Int → Option (Bool) :=
  fun (x : List Int) => Option.bind (m38 (x, (60 : Int))) fun (r : Bool) => some r
theorem c26 : SpecOK Try.prog 26 ⟨as26, rs26, m26⟩ :=
  fnM_ok (own := []) (an := an26) (n := 400) tabs21OK (F := OPS) OPS_sound OPS_nice (f := 26) (fn := Try.f26) (code := Try.f26.body.getD .skip) (by kernel_rfl) (by kernel_rfl) (by kernel_rfl) fun x => by kernel_rfl
noncomputable def tabs26 : Tabs := Tabs.add tabs21 26 ⟨as26, rs26, m26⟩
theorem tabs26OK : TabOK Try.prog tabs26 := TabOK.add tabs21OK c26 Try.call26

/-! putlog/putlogref21.errors -/
def as46 : List Ty := [(.pair tI (.list tI)), (.list tI), tI]
def rs46 : List Ty := [tI]
noncomputable def an46 : Ann := .seq (.a) (.seq (.a) (.seq (.seq (.a) (.block (.loop ⟨[(7, .r (.c (.d (.d tI)))), (8, .r (.c (.d (.d tI))))], [9, 10, 11, 12, 13, 14, 15, 16, 17, 18, 19, 20, 21, 22, 23, 24, 25, 26, 27], [], []⟩ [(.exit 0, ⟨[(7, .r (.c (.d (.d tI))))], [8, 9, 10, 11, 12, 13, 14, 15, 16, 17, 18, 19, 20, 21, 22, 23, 24, 25, 26, 27], [], []⟩)] (.seq (.a) (.seq (.join [(.norm, ⟨[(7, .r (.c (.d (.d tI))))], [16, 17, 18, 19, 20, 21, 22, 23, 24, 25, 26, 27], [], []⟩)] (.block (.seq (.reg [0, 0, 3, 0, 8, 0, 0, 96, 255, 511] [0, 1, 2, 3, 4, 5, 6, 7, 8, 9] [.s [] [], .s [] [], .s [] [], .s [] [], .s [0] [], .s [] [], .s [] [], .s [] [], .s [] [], .s [] []] (.a)) (.a)))) (.a)))))) (.a)))
noncomputable def m46 : ((Int × List Int) × List Int × Int) → Option (Int) :=
  fun (x : (Int × List Int) × List Int × Int) =>
    Option.bind
      (loopM
        (fun (s : Int × Int) =>
          bif ltM (IntKind.wrap IntKind.i64 (s.2 + (1 : Int))) (lenM x.2.1) then
            Option.bind
              (Option.bind (m40 (x.2.1, s.2)) fun (r : Int) =>
                Option.bind (m40 (x.1.2, IntKind.wrap IntKind.i64 (x.2.2 + s.2))) fun (r_1 : Int) =>
                  bif PE.notM (eqM r r_1) then some (IntKind.wrap IntKind.i64 (s.1 + (1 : Int))) else some s.1)
              fun (o : Int) => some (Sum.inl (o, IntKind.wrap IntKind.i64 (s.2 + (1 : Int))))
          else some (Sum.inr s.1))
        ((0 : Int), (0 : Int)))
      fun (o : Int) => some o
theorem c46 : SpecOK Try.prog 46 ⟨as46, rs46, m46⟩ :=
  fnM_ok (own := []) (an := an46) (n := 400) tabs26OK (F := OPS) OPS_sound OPS_nice (f := 46) (fn := Try.f46) (code := Try.f46.body.getD .skip) (by kernel_rfl) (by kernel_rfl) (by kernel_rfl) fun x => by kernel_rfl
noncomputable def tabs46 : Tabs := Tabs.add tabs26 46 ⟨as46, rs46, m46⟩
theorem tabs46OK : TabOK Try.prog tabs46 := TabOK.add tabs26OK c46 Try.call46

/-! putlog/putlogref21.Match -/
def as23 : List Ty := [(.pair tI (.list tI)), (.list tI)]
def rs23 : List Ty := [(.list (.pair tI tI)), tI]
noncomputable def an23 : Ann := .seq (.a) (.seq (.a) (.seq (.a) (.seq (.seq (.a) (.block (.loop ⟨[(6, .r (.c (.h 1))), (7, .r (.c (.d (.d tI))))], [8, 17, 18, 19, 20, 21, 22, 23, 24, 25, 26, 27, 28, 29, 30, 31, 32, 33, 34, 35, 36, 37, 38, 39, 40, 41, 42, 43, 44], [], [.arr (.pair tI tI)]⟩ [(.exit 0, ⟨[(6, .r (.c (.h 1)))], [7, 8, 17, 18, 19, 20, 21, 22, 23, 24, 25, 26, 27, 28, 29, 30, 31, 32, 33, 34, 35, 36, 37, 38, 39, 40, 41, 42, 43, 44], [], [.arr (.pair tI tI)]⟩)] (.seq (.a) (.seq (.block (.seq (.a) (.block (.loop ⟨[(6, .r (.c (.h 2))), (8, .r (.c (.d (.d tI))))], [23, 24, 25, 26, 27, 28, 29, 30, 31, 32, 33, 34, 35, 36, 37, 38, 39, 40, 41, 42, 43, 44], [(1, .gone)], [.arr (.pair tI tI)]⟩ [(.exit 2, ⟨[(6, .r (.c (.h 2)))], [8, 23, 24, 25, 26, 27, 28, 29, 30, 31, 32, 33, 34, 35, 36, 37, 38, 39, 40, 41, 42, 43, 44], [(1, .gone)], [.arr (.pair tI tI)]⟩)] (.a))))) (.a)))))) (.a))))
noncomputable def m23 : ((Int × List Int) × List Int) → Option ((List (Int × Int)) × Int) :=
  fun (x : (Int × List Int) × List Int) =>
    Option.bind (m18 (x.1.1, x.1.2)) fun (r : Bool) =>
      Option.bind (bif PE.notM (PE.notM r) then m26 x.2 else some false) fun (r_1 : Bool) =>
        bif PE.orM (PE.notM r) (PE.notM r_1) then some ([], (210 : Int))
        else
          Option.bind
            (loopM
              (fun (s : Int × List (Int × Int)) =>
                bif ltM s.1 (lenM x.2) then
                  Option.bind
                    (loopM
                      (fun (s_1 : Int × List (Int × Int)) =>
                        bif leM s_1.1 (IntKind.wrap IntKind.i64 (lenM x.1.2 - lenM x.2)) then
                          Option.bind (m46 ((x.1.1, x.1.2), x.2, s_1.1)) fun (r_2 : Int) =>
                            bif eqM r_2 s.1 then
                              Option.bind (appM (nat_lit 16) s_1.2 [(s_1.1, s.1)]) fun (r : List (Int × Int)) =>
                                some (Sum.inl (IntKind.wrap IntKind.i64 (s_1.1 + (1 : Int)), r))
                            else some (Sum.inl (IntKind.wrap IntKind.i64 (s_1.1 + (1 : Int)), s_1.2))
                        else some (Sum.inr s_1.2))
                      ((0 : Int), s.2))
                    fun (o : List (Int × Int)) => some (Sum.inl (IntKind.wrap IntKind.i64 (s.1 + (1 : Int)), o))
                else some (Sum.inr s.2))
              ((0 : Int), []))
            fun (o : List (Int × Int)) => some (o, (0 : Int))
theorem c23 : SpecOK Try.prog 23 ⟨as23, rs23, m23⟩ :=
  fnM_ok (own := []) (an := an23) (n := 400) tabs46OK (F := OPS) OPS_sound OPS_nice (f := 23) (fn := Try.f23) (code := Try.f23.body.getD .skip) (by kernel_rfl) (by kernel_rfl) (by kernel_rfl) fun x => by kernel_rfl
noncomputable def tabs23 : Tabs := Tabs.add tabs46 23 ⟨as23, rs23, m23⟩
theorem tabs23OK : TabOK Try.prog tabs23 := TabOK.add tabs46OK c23 Try.call23

/-! putlog/putlogref21.Errors -/
def as28 : List Ty := [(.pair tI (.list tI)), (.list tI), tI]
def rs28 : List Ty := [tI, tI]
noncomputable def an28 : Ann := .a
noncomputable def m28 : ((Int × List Int) × List Int × Int) → Option (Int × Int) :=
  fun (x : (Int × List Int) × List Int × Int) =>
    Option.bind (m18 (x.1.1, x.1.2)) fun (r : Bool) =>
      Option.bind (bif PE.notM (PE.notM r) then m26 x.2.1 else some false) fun (r_1 : Bool) =>
        bif
            PE.orM (PE.orM (PE.orM (PE.notM r) (PE.notM r_1)) (ltM x.2.2 (0 : Int)))
              (ltM (IntKind.wrap IntKind.i64 (lenM x.1.2 - lenM x.2.1)) x.2.2) then
          some ((0 : Int), (210 : Int))
        else Option.bind (m46 ((x.1.1, x.1.2), x.2.1, x.2.2)) fun (r : Int) => some (r, (0 : Int))
theorem c28 : SpecOK Try.prog 28 ⟨as28, rs28, m28⟩ :=
  fnM_ok (own := []) (an := an28) (n := 400) tabs23OK (F := OPS) OPS_sound OPS_nice (f := 28) (fn := Try.f28) (code := Try.f28.body.getD .skip) (by kernel_rfl) (by kernel_rfl) (by kernel_rfl) fun x => by kernel_rfl
noncomputable def tabs28 : Tabs := Tabs.add tabs23 28 ⟨as28, rs28, m28⟩
theorem tabs28OK : TabOK Try.prog tabs28 := TabOK.add tabs23OK c28 Try.call28

/-! putlog/putlogref21.Dated -/
def as30 : List Ty := [(.pair tI (.list tI)), (.list tI), tI]
def rs30 : List Ty := [tI, .bool, tI]
noncomputable def an30 : Ann := .seq (.a) (.seq (.a) (.seq (.a) (.seq (.seq (.reg [0, 1, 3, 7, 15, 31, 63, 127, 255, 511, 1023, 2047, 255, 4351, 12543, 28927, 255, 127231, 262143, 524287, 1048575] [0, 1, 2, 3, 4, 5, 6, 7, 8, 9, 10, 11, 12, 13, 14, 15, 16, 17, 18, 19, 20] [.s [] [], .s [] [], .s [] [], .s [] [], .s [] [], .s [] [], .s [] [], .s [] [], .s [] [], .s [] [], .s [] [], .s [] [], .s [] [], .s [] [], .s [] [], .s [] [], .s [] [], .s [] [], .s [] [], .s [] [], .s [] []] (.a)) (.a)) (.seq (.reg [0, 1, 0, 4, 12, 28, 63, 127, 255, 511] [0, 1, 2, 3, 4, 5, 6, 7, 8, 9] [.s [] [], .s [0] [], .s [] [], .s [] [], .s [] [], .s [] [], .s [] [], .s [] [], .s [] [], .s [] []] (.a)) (.a)))))
noncomputable def m30 : ((Int × List Int) × List Int × Int) → Option (Int × Bool × Int) :=
  fun (x : (Int × List Int) × List Int × Int) =>
    Option.bind (m23 ((x.1.1, x.1.2), x.2.1)) fun (r : List (Int × Int) × Int) =>
      bif PE.orM (PE.orM (PE.notM (eqM r.2 (0 : Int))) (ltM x.2.2 (1 : Int))) (ltM (60 : Int) x.2.2) then
        some ((0 : Int), false, (210 : Int))
      else
        Option.bind
          (bif PE.andM (PE.notM (eqM (lenM r.1) (0 : Int))) (ltM (1 : Int) (lenM r.1)) then idxM r.1 (1 : Int)
          else some ((0 : Int), (0 : Int)))
          fun (r_1 : Int × Int) =>
          Option.bind
            (bif PE.andM (PE.notM (eqM (lenM r.1) (0 : Int))) (ltM (1 : Int) (lenM r.1)) then idxM r.1 (0 : Int)
            else some ((0 : Int), (0 : Int)))
            fun (r_2 : Int × Int) =>
            bif
                PE.orM (eqM (lenM r.1) (0 : Int))
                  (PE.andM (ltM (1 : Int) (lenM r.1)) (ltM r_1.2 (IntKind.wrap IntKind.i64 (r_2.2 + x.2.2)))) then
              some ((0 : Int), false, (0 : Int))
            else
              Option.bind (idxM r.1 (0 : Int)) fun (r : Int × Int) =>
                some (IntKind.wrap IntKind.i64 (x.1.1 + r.1), true, (0 : Int))
theorem c30 : SpecOK Try.prog 30 ⟨as30, rs30, m30⟩ :=
  fnM_ok (own := []) (an := an30) (n := 400) tabs28OK (F := OPS) OPS_sound OPS_nice (f := 30) (fn := Try.f30) (code := Try.f30.body.getD .skip) (by kernel_rfl) (by kernel_rfl) (by kernel_rfl) fun x => by kernel_rfl
noncomputable def tabs30 : Tabs := Tabs.add tabs28 30 ⟨as30, rs30, m30⟩
theorem tabs30OK : TabOK Try.prog tabs30 := TabOK.add tabs28OK c30 Try.call30
end Go.Proofs.Ytblachgndbmhaaa
