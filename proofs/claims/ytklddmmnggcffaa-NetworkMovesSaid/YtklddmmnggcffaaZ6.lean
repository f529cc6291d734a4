/-
  Texts of this proof, put together: Cb, Cc, Cd, Ce, Cf, Ch, Ci, Cj, Dm, Da, Db, Dc, Dd, De, Df, Dg, Dh, Di, Dj, Dk, Dl, Ck, Dn, Do, Dp, Dq, Cg.
  No conditions.
-/
import Derived.Test.YtklddmmnggcffaaZ5
set_option linter.all false
/-
  Network: the bounds of both axes.
  No conditions.
-/
namespace Go.Proofs.Ytklddmmnggcffaa
open Go Go.Abs Go.PE
set_option linter.unusedVariables false
abbrev Obs := Int × Int × Int × Int
def two (o : Obs) : List (Int × Int × Int) := [(o.1, o.2.1, o.2.2.1 + o.2.2.2), (o.2.1, o.1, o.2.2.2 - o.2.2.1)]
def bds (os : List Obs) : List (Int × Int × Int) := os.flatMap two
def fOb (d : Fix → Int) (n : Int) (f : Fix) : Obs := (n, f.1, d f, f.2.2.2)
def sOb (d : Sgt → Int) (s : Sgt) : Obs := (s.1, s.2.1, d s, s.2.2.2.2)
def obs (d1 : Fix → Int) (d2 : Sgt → Int) (c : Net) : List Obs := c.2.1.map (fOb d1 c.1) ++ c.2.2.map (sOb d2)
def fX (f : Fix) : Int := f.2.1
def fY (f : Fix) : Int := f.2.2.1
def sX (s : Sgt) : Int := s.2.2.1
def sY (s : Sgt) : Int := s.2.2.2.1
def obX (c : Net) : List Obs := obs fX sX c
def obY (c : Net) : List Obs := obs fY sY c
def axX (c : Net) : Sys := (c.1 + 1, bds (obX c))
def axY (c : Net) : Sys := (c.1 + 1, bds (obY c))
theorem bds_len (os : List Obs) : (bds os).length = 2 * os.length := by
  induction os with
  | nil => rfl
  | cons o r ih =>
    show (two o ++ bds r).length = _
    rw [List.length_append, ih]
    simp [two]; omega
theorem bds_app (a b : List Obs) : bds (a ++ b) = bds a ++ bds b := by
  unfold bds
  rw [List.flatMap_append]
theorem bds_step {α : Type} {f : α → Obs} {xs : List α} {k : Nat} (hk : k < xs.length) : bds ((xs.take (k + 1)).map f) = bds ((xs.take k).map f) ++ two (f xs[k]) := by
  rw [List.take_succ_eq_append_getElem hk, List.map_append, bds_app]
  simp [bds]
theorem mem_bds {os : List Obs} {a b m : Int} : (a, b, m) ∈ bds os ↔ ∃ o ∈ os, (a = o.1 ∧ b = o.2.1 ∧ m = o.2.2.1 + o.2.2.2) ∨ (a = o.2.1 ∧ b = o.1 ∧ m = o.2.2.2 - o.2.2.1) := by
  unfold bds
  rw [List.mem_flatMap]
  constructor
  · rintro ⟨o, ho, h⟩
    refine ⟨o, ho, ?_⟩
    unfold two at h
    rcases List.mem_cons.1 h with h | h
    · injection h with h1 h2
      injection h2 with h2 h3
      exact .inl ⟨h1, h2, h3⟩
    · rcases List.mem_cons.1 h with h | h
      · injection h with h1 h2
        injection h2 with h2 h3
        exact .inr ⟨h1, h2, h3⟩
      · cases h
  · rintro ⟨o, ho, ⟨rfl, rfl, rfl⟩ | ⟨rfl, rfl, rfl⟩⟩
    · exact ⟨o, ho, List.mem_cons_self ..⟩
    · exact ⟨o, ho, List.mem_cons_of_mem _ (List.mem_cons_self ..)⟩
structure NOK (c : Net) : Prop where
  n0 : 0 ≤ c.1
  n8 : c.1 ≤ 8
  fl : c.2.1.length ≤ 8
  sl : c.2.2.length ≤ 20
  fx : ∀ f ∈ c.2.1, 0 ≤ f.1 ∧ f.1 < c.1 ∧ -10000 ≤ f.2.1 ∧ f.2.1 ≤ 10000 ∧ -10000 ≤ f.2.2.1 ∧ f.2.2.1 ≤ 10000 ∧ 0 ≤ f.2.2.2 ∧ f.2.2.2 ≤ 1000
  sg : ∀ s ∈ c.2.2, 0 ≤ s.1 ∧ s.1 < c.1 ∧ 0 ≤ s.2.1 ∧ s.2.1 < c.1 ∧ s.1 ≠ s.2.1 ∧ -10000 ≤ s.2.2.1 ∧ s.2.2.1 ≤ 10000 ∧ -10000 ≤ s.2.2.2.1 ∧ s.2.2.2.1 ≤ 10000 ∧ 0 ≤ s.2.2.2.2 ∧ s.2.2.2.2 ≤ 1000
theorem fixB_iff {n : Int} {f : Fix} : fixB n f = true ↔ 0 ≤ f.1 ∧ f.1 < n ∧ -10000 ≤ f.2.1 ∧ f.2.1 ≤ 10000 ∧ -10000 ≤ f.2.2.1 ∧ f.2.2.1 ≤ 10000 ∧ 0 ≤ f.2.2.2 ∧ f.2.2.2 ≤ 1000 := by
  unfold fixB nearB
  simp only [Bool.and_eq_true, inB_iff]
  constructor
  · rintro ⟨⟨⟨h1, h2⟩, ⟨h3, h4⟩, h5, h6⟩, h7, h8⟩
    exact ⟨h1, by omega, h3, h4, h5, h6, h7, h8⟩
  · rintro ⟨h1, h2, h3, h4, h5, h6, h7, h8⟩
    exact ⟨⟨⟨h1, by omega⟩, ⟨h3, h4⟩, h5, h6⟩, h7, h8⟩
theorem sgtB_iff {n : Int} {s : Sgt} : sgtB n s = true ↔ 0 ≤ s.1 ∧ s.1 < n ∧ 0 ≤ s.2.1 ∧ s.2.1 < n ∧ s.1 ≠ s.2.1 ∧ -10000 ≤ s.2.2.1 ∧ s.2.2.1 ≤ 10000 ∧ -10000 ≤ s.2.2.2.1 ∧ s.2.2.2.1 ≤ 10000 ∧ 0 ≤ s.2.2.2.2 ∧ s.2.2.2.2 ≤ 1000 := by
  unfold sgtB nearB
  simp only [Bool.and_eq_true, inB_iff, Bool.not_eq_true', decide_eq_false_iff_not]
  constructor
  · rintro ⟨⟨⟨⟨⟨h1, h2⟩, h3, h4⟩, h5⟩, ⟨h6, h7⟩, h8, h9⟩, h10, h11⟩
    exact ⟨h1, by omega, h3, by omega, h5, h6, h7, h8, h9, h10, h11⟩
  · rintro ⟨h1, h2, h3, h4, h5, h6, h7, h8, h9, h10, h11⟩
    exact ⟨⟨⟨⟨⟨h1, by omega⟩, h3, by omega⟩, h5⟩, ⟨h6, h7⟩, h8, h9⟩, h10, h11⟩
theorem nval_iff {c : Net} : nval c = true ↔ NOK c := by
  unfold nval
  simp only [Bool.and_eq_true, inB_iff, decide_eq_true_eq, List.all_eq_true, fixB_iff, sgtB_iff]
  constructor
  · rintro ⟨⟨⟨⟨h1, h2⟩, h3⟩, h4⟩, h5, h6⟩
    exact ⟨h1, h2, h3, h4, h5, h6⟩
  · rintro ⟨h1, h2, h3, h4, h5, h6⟩
    exact ⟨⟨⟨⟨h1, h2⟩, h3⟩, h4⟩, h5, h6⟩
def dOk (d1 : Fix → Int) (d2 : Sgt → Int) (c : Net) : Prop := (∀ f ∈ c.2.1, -10000 ≤ d1 f ∧ d1 f ≤ 10000) ∧ ∀ s ∈ c.2.2, -10000 ≤ d2 s ∧ d2 s ≤ 10000
theorem NOK.dx {c : Net} (h : NOK c) : dOk fX sX c := ⟨fun f hf => by have := h.fx f hf; unfold fX; omega, fun s hs => by have := h.sg s hs; unfold sX; omega⟩
theorem NOK.dy {c : Net} (h : NOK c) : dOk fY sY c := ⟨fun f hf => by have := h.fx f hf; unfold fY; omega, fun s hs => by have := h.sg s hs; unfold sY; omega⟩
theorem obs_len (d1 : Fix → Int) (d2 : Sgt → Int) (c : Net) : (obs d1 d2 c).length = c.2.1.length + c.2.2.length := by simp [obs]
theorem obs_mem {c : Net} (h : NOK c) {d1 : Fix → Int} {d2 : Sgt → Int} (hd : dOk d1 d2 c) {o : Obs} (ho : o ∈ obs d1 d2 c) : 0 ≤ o.1 ∧ o.1 ≤ c.1 ∧ 0 ≤ o.2.1 ∧ o.2.1 < c.1 ∧ o.1 ≠ o.2.1 ∧ -10000 ≤ o.2.2.1 ∧ o.2.2.1 ≤ 10000 ∧ 0 ≤ o.2.2.2 ∧ o.2.2.2 ≤ 1000 := by
  rcases List.mem_append.1 ho with ho | ho
  · obtain ⟨f, hf, rfl⟩ := List.mem_map.1 ho
    have h1 := h.fx f hf
    have h2 := hd.1 f hf
    have h0 := h.n0
    unfold fOb
    dsimp only
    omega
  · obtain ⟨s, hs, rfl⟩ := List.mem_map.1 ho
    have h1 := h.sg s hs
    have h2 := hd.2 s hs
    unfold sOb
    dsimp only
    omega
theorem ax_sys {c : Net} (h : NOK c) {d1 : Fix → Int} {d2 : Sgt → Int} (hd : dOk d1 d2 c) : sys (c.1 + 1, bds (obs d1 d2 c)) = true := by
  unfold sys
  rw [Bool.and_eq_true]
  have h0 := h.n0
  have h8 := h.n8
  have hf := h.fl
  have hs := h.sl
  refine ⟨decide_eq_true ⟨by show 0 ≤ c.1 + 1; omega, by show c.1 + 1 ≤ 16; omega, by show (bds _).length ≤ 60; rw [bds_len, obs_len]; omega⟩, List.all_eq_true.2 fun b hb => ?_⟩
  obtain ⟨a, b', m⟩ := b
  obtain ⟨o, ho, hh⟩ := mem_bds.1 hb
  have hm := obs_mem h hd ho
  unfold bnd
  apply decide_eq_true
  dsimp only
  rcases hh with ⟨rfl, rfl, rfl⟩ | ⟨rfl, rfl, rfl⟩ <;> omega
theorem sysX {c : Net} (h : NOK c) : sys (axX c) = true := ax_sys h h.dx
theorem sysY {c : Net} (h : NOK c) : sys (axY c) = true := ax_sys h h.dy
theorem axX_n {c : Net} (h : NOK c) : (axX c).1.toNat = c.1.toNat + 1 := by
  have h0 := h.n0
  show (c.1 + 1).toNat = _
  omega
theorem axY_n {c : Net} (h : NOK c) : (axY c).1.toNat = c.1.toNat + 1 := by
  have h0 := h.n0
  show (c.1 + 1).toNat = _
  omega
theorem app_two {bs : List (Int × Int × Int)} {a b d t : Int} (hl : bs.length ≤ 1000) (h1 : -10000 ≤ d) (h2 : d ≤ 10000) (h3 : 0 ≤ t) (h4 : t ≤ 1000) :
    appM (nat_lit 24) bs [(a, b, IntKind.wrap IntKind.i64 (d + t)), (b, a, IntKind.wrap IntKind.i64 (t - d))] = some (bs ++ two (a, b, d, t)) := by
  rw [wrap_in (n := d + t) (by omega) (by omega), wrap_in (n := t - d) (by omega) (by omega)]
  exact appM_of (by simp; omega)
theorem m32_eq {c : Net} (h : NOK c) : m32 c = some (axX c, axY c) := by
  obtain ⟨n, fs, ss⟩ := c
  have h0 := h.n0
  have h8 := h.n8
  have hfl := h.fl
  have hsl := h.sl
  have hfx := h.fx
  have hsg := h.sg
  dsimp only at h0 h8 hfl hsl hfx hsg
  have e1 : IntKind.wrap IntKind.i64 (n + 1) = n + 1 := wrap_in (by omega) (by omega)
  unfold m32
  dsimp only
  rw [e1]
  refine bind_of (x := (n + 1, n + 1, bds (fs.map (fOb fX n)), bds (fs.map (fOb fY n)))) ?_ ?_
  · refine count_loop (fun k => (n + 1, n + 1, bds ((fs.take k).map (fOb fX n)), bds ((fs.take k).map (fOb fY n)))) fs.length (fun k hk => ?_) ?_
    · have hb := hfx _ (List.getElem_mem hk)
      dsimp only
      rw [ltI (by show (k : Int) < (fs.length : Int); omega), cond_true, idxM_lt hk, Option.bind_some]
      show Option.bind (some fs[k].2.1) _ = _
      rw [Option.bind_some, app_two (by rw [bds_len]; simp; omega) (by omega) (by omega) (by omega) (by omega), Option.bind_some]
      show Option.bind (some fs[k].2.2.1) _ = _
      rw [Option.bind_some, app_two (by rw [bds_len]; simp; omega) (by omega) (by omega) (by omega) (by omega), Option.bind_some, bds_step hk, bds_step hk, wrap_in (by omega) (by omega)]
      rfl
    · dsimp only
      rw [geI (by show (fs.length : Int) ≤ (fs.length : Int); omega), cond_false, List.take_length]
  dsimp only
  refine bind_of (x := (n + 1, n + 1, bds (obX (n, fs, ss)), bds (obY (n, fs, ss)))) ?_ rfl
  have ex : bds (obX (n, fs, ss)) = bds (fs.map (fOb fX n)) ++ bds ((ss.take ss.length).map (sOb sX)) := by rw [List.take_length]; exact bds_app _ _
  have ey : bds (obY (n, fs, ss)) = bds (fs.map (fOb fY n)) ++ bds ((ss.take ss.length).map (sOb sY)) := by rw [List.take_length]; exact bds_app _ _
  rw [ex, ey]
  have e00 : ∀ g : Fix → Obs, bds (fs.map g) = bds (fs.map g) ++ bds ((ss.take 0).map (sOb sX)) := fun g => by simp [bds]
  have e01 : ∀ g : Fix → Obs, bds (fs.map g) = bds (fs.map g) ++ bds ((ss.take 0).map (sOb sY)) := fun g => by simp [bds]
  have hlen : ∀ (g : Fix → Obs) (d : Sgt → Int) k, k < ss.length → (bds (fs.map g) ++ bds ((ss.take k).map (sOb d))).length ≤ 1000 := fun g d k hk => by
    rw [List.length_append, bds_len, bds_len]; simp; omega
  have L := count_loop (body := fun (s : Int × Int × Int × List (Int × Int × Int) × List (Int × Int × Int)) =>
            bif ltM s.1 (lenM ss) then
              Option.bind (idxM ss s.1) fun (r : Int × Int × Int × Int × Int) =>
                Option.bind (m53 (r.2.2.1, r.2.2.2.1)) fun (r_1 : Int) =>
                  Option.bind
                    (appM (nat_lit 24) s.2.2.2.1
                      [(r.1, r.2.1, IntKind.wrap IntKind.i64 (r_1 + r.2.2.2.2)),
                        (r.2.1, r.1, IntKind.wrap IntKind.i64 (r.2.2.2.2 - r_1))])
                    fun (r_2 : List (Int × Int × Int)) =>
                    Option.bind (m54 (r.2.2.1, r.2.2.2.1)) fun (r_3 : Int) =>
                      Option.bind
                        (appM (nat_lit 24) s.2.2.2.2
                          [(r.1, r.2.1, IntKind.wrap IntKind.i64 (r_3 + r.2.2.2.2)),
                            (r.2.1, r.1, IntKind.wrap IntKind.i64 (r.2.2.2.2 - r_3))])
                        fun (r : List (Int × Int × Int)) =>
                        some (Sum.inl (IntKind.wrap IntKind.i64 (s.1 + (1 : Int)), s.2.1, s.2.2.1, r_2, r))
            else some (Sum.inr (s.2.1, s.2.2.1, s.2.2.2.1, s.2.2.2.2))) (fun k => (n + 1, n + 1, bds (fs.map (fOb fX n)) ++ bds ((ss.take k).map (sOb sX)), bds (fs.map (fOb fY n)) ++ bds ((ss.take k).map (sOb sY)))) ss.length
      (r := (n + 1, n + 1, bds (fs.map (fOb fX n)) ++ bds ((ss.take ss.length).map (sOb sX)), bds (fs.map (fOb fY n)) ++ bds ((ss.take ss.length).map (sOb sY)))) (fun k hk => by
    have hb := hsg _ (List.getElem_mem hk)
    dsimp only
    rw [ltI (by show (k : Int) < (ss.length : Int); omega), cond_true, idxM_lt hk, Option.bind_some]
    show Option.bind (some ss[k].2.2.1) _ = _
    rw [Option.bind_some, app_two (hlen _ _ _ hk) (by omega) (by omega) (by omega) (by omega), Option.bind_some]
    show Option.bind (some ss[k].2.2.2.1) _ = _
    rw [Option.bind_some, app_two (hlen _ _ _ hk) (by omega) (by omega) (by omega) (by omega), Option.bind_some, bds_step hk, bds_step hk, wrap_in (by omega) (by omega), List.append_assoc, List.append_assoc]
    rfl) (by
    dsimp only
    rw [geI (by show (ss.length : Int) ≤ (ss.length : Int); omega), cond_false])
  rw [← e00, ← e01] at L
  exact L
end Go.Proofs.Ytklddmmnggcffaa
/-
  Network: boxes of differences.
  No conditions.
-/
namespace Go.Proofs.Ytklddmmnggcffaa
open Go Go.Abs Go.PE
set_option linter.unusedVariables false
abbrev Bx := Int × Int × Int × Int
theorem wk_map {bs bs' : List (Int × Int × Int)} (h : ∀ a b : Nat, ∀ m : Int, ((a : Int), (b : Int), m) ∈ bs → ∃ m', ((a : Int), (b : Int), m') ∈ bs') {i j : Nat} {w : Int} (hw : Wk bs i j w) : ∃ w', Wk bs' i j w' := by
  induction hw with
  | nil => exact ⟨0, .nil _⟩
  | snoc _ hm ih =>
    obtain ⟨w', h1⟩ := ih
    obtain ⟨m', h2⟩ := h _ _ _ hm
    exact ⟨_, h1.snoc h2⟩
theorem wk_rev {bs bs' : List (Int × Int × Int)} (h : ∀ a b : Nat, ∀ m : Int, ((a : Int), (b : Int), m) ∈ bs → ∃ m', ((b : Int), (a : Int), m') ∈ bs') {i j : Nat} {w : Int} (hw : Wk bs i j w) : ∃ w', Wk bs' j i w' := by
  induction hw with
  | nil => exact ⟨0, .nil _⟩
  | snoc _ hm ih =>
    obtain ⟨w', h1⟩ := ih
    obtain ⟨m', h2⟩ := h _ _ _ hm
    exact ⟨_, .cons h2 h1⟩
theorem obs_other {d1 d1' : Fix → Int} {d2 d2' : Sgt → Int} {c : Net} {o : Obs} (h : o ∈ obs d1 d2 c) : ∃ o' ∈ obs d1' d2' c, o'.1 = o.1 ∧ o'.2.1 = o.2.1 ∧ o'.2.2.2 = o.2.2.2 := by
  rcases List.mem_append.1 h with h | h
  · obtain ⟨f, hf, rfl⟩ := List.mem_map.1 h
    exact ⟨fOb d1' c.1 f, List.mem_append.2 (.inl (List.mem_map.2 ⟨f, hf, rfl⟩)), rfl, rfl, rfl⟩
  · obtain ⟨f, hf, rfl⟩ := List.mem_map.1 h
    exact ⟨sOb d2' f, List.mem_append.2 (.inr (List.mem_map.2 ⟨f, hf, rfl⟩)), rfl, rfl, rfl⟩
theorem bds_other {d1 d1' : Fix → Int} {d2 d2' : Sgt → Int} {c : Net} {a b m : Int} (h : (a, b, m) ∈ bds (obs d1 d2 c)) : (∃ m', (a, b, m') ∈ bds (obs d1' d2' c)) ∧ ∃ m', (b, a, m') ∈ bds (obs d1' d2' c) := by
  obtain ⟨o, ho, hh⟩ := mem_bds.1 h
  obtain ⟨o', ho', e1, e2, _⟩ := obs_other (d1' := d1') (d2' := d2') ho
  rcases hh with ⟨rfl, rfl, rfl⟩ | ⟨rfl, rfl, rfl⟩
  · exact ⟨⟨_, mem_bds.2 ⟨o', ho', .inl ⟨e1.symm, e2.symm, rfl⟩⟩⟩, ⟨_, mem_bds.2 ⟨o', ho', .inr ⟨e2.symm, e1.symm, rfl⟩⟩⟩⟩
  · exact ⟨⟨_, mem_bds.2 ⟨o', ho', .inr ⟨e2.symm, e1.symm, rfl⟩⟩⟩, ⟨_, mem_bds.2 ⟨o', ho', .inl ⟨e1.symm, e2.symm, rfl⟩⟩⟩⟩
def Cn (c : Net) (i j : Nat) : Prop := ∃ w, Wk (axX c).2 i j w
theorem Cn.trans {c : Net} {i j k : Nat} (h : Cn c i j) (h2 : Cn c j k) : Cn c i k := by
  obtain ⟨w, h⟩ := h
  obtain ⟨w2, h2⟩ := h2
  exact ⟨_, h.trans h2⟩
theorem Cn.symm {c : Net} {i j : Nat} (h : Cn c i j) : Cn c j i := by
  obtain ⟨w, h⟩ := h
  exact wk_rev (fun a b m hm => (bds_other hm).2) h
theorem cn_Y {c : Net} {i j : Nat} : Cn c i j ↔ ∃ w, Wk (axY c).2 i j w :=
  ⟨fun ⟨w, h⟩ => wk_map (fun a b m hm => (bds_other hm).1) h, fun ⟨w, h⟩ => wk_map (fun a b m hm => (bds_other hm).1) h⟩
def okN (c : Net) : Bool := !ovS (axX c) && !ovS (axY c)
theorem okN_iff {c : Net} : okN c = true ↔ ovS (axX c) = false ∧ ovS (axY c) = false := by
  unfold okN
  simp
abbrev fX' (c : Net) : Tab := fwS (axX c)
abbrev fY' (c : Net) : Tab := fwS (axY c)
structure Axis (c : Net) (f : Tab) (bs : List (Int × Int × Int)) : Prop where
  cn : ∀ i j, i ≤ c.1.toNat → j ≤ c.1.toNat → (f i j ≠ 1152921504606846976 ↔ Cn c i j)
  bd : ∀ i j, i ≤ c.1.toNat → j ≤ c.1.toNat → f i j ≠ 1152921504606846976 → -100000000000000000 ≤ f i j ∧ f i j ≤ 100000000000000000
  self : ∀ i, i ≤ c.1.toNat → f i i = 0
  tri : ∀ i k j, i ≤ c.1.toNat → k ≤ c.1.toNat → j ≤ c.1.toNat → Cn c i k → Cn c k j → f i j ≤ f i k + f k j
  wk : ∀ i j, i ≤ c.1.toNat → j ≤ c.1.toNat → Cn c i j → Wk bs i j (f i j)
  le : ∀ i j w, i ≤ c.1.toNat → j ≤ c.1.toNat → Wk bs i j w → f i j ≤ w
theorem axis_of {c : Net} {x : Sys} (hs : sys x = true) (ho : ovS x = false) (hn : x.1.toNat = c.1.toNat + 1) (hcn : ∀ i j, Cn c i j ↔ ∃ w, Wk x.2 i j w) : Axis c (fwS x) x.2 where
  cn i j hi hj := by
    rcases fw_cases hs ho (i := i) (j := j) (by omega) (by omega) with ⟨e, h⟩ | ⟨e1, e2, e3, _⟩
    · rw [hcn]
      exact ⟨fun h' => absurd e h', fun ⟨w, hw⟩ => absurd hw (h w)⟩
    · rw [hcn]
      exact ⟨fun _ => ⟨_, e3⟩, fun _ => by omega⟩
  bd i j hi hj h := by
    rcases fw_cases hs ho (i := i) (j := j) (by omega) (by omega) with ⟨e, _⟩ | ⟨e1, e2, _, _⟩
    · exact absurd e h
    · exact ⟨e1, e2⟩
  self i hi := fw_self ho (by omega)
  tri i k j hi hk hj h1 h2 := by
    have a : ∀ i j, i ≤ c.1.toNat → j ≤ c.1.toNat → Cn c i j → fwS x i j < 1000000000000000000 := fun i j hi hj h => by
      obtain ⟨w, hw⟩ := (hcn i j).1 h
      rcases fw_cases hs ho (i := i) (j := j) (by omega) (by omega) with ⟨_, e⟩ | ⟨_, e, _⟩
      · exact absurd hw (e w)
      · omega
    exact fw_tri' hs ho (by omega) (by omega) (by omega) (a _ _ hi hk h1) (a _ _ hk hj h2)
  wk i j hi hj h := by
    obtain ⟨w, hw⟩ := (hcn i j).1 h
    rcases fw_cases hs ho (i := i) (j := j) (by omega) (by omega) with ⟨_, e⟩ | ⟨_, _, e, _⟩
    · exact absurd hw (e w)
    · exact e
  le i j w hi hj hw := by
    rcases fw_cases hs ho (i := i) (j := j) (by omega) (by omega) with ⟨_, e⟩ | ⟨_, _, _, e⟩
    · exact absurd hw (e w)
    · exact e w hw
theorem axisX {c : Net} (h : NOK c) (ho : okN c = true) : Axis c (fX' c) (axX c).2 := axis_of (sysX h) (okN_iff.1 ho).1 (axX_n h) fun _ _ => Iff.rfl
theorem axisY {c : Net} (h : NOK c) (ho : okN c = true) : Axis c (fY' c) (axY c).2 := axis_of (sysY h) (okN_iff.1 ho).2 (axY_n h) fun _ _ => cn_Y
def cnB (c : Net) (i j : Nat) : Bool := decide (fX' c i j ≠ 1152921504606846976)
def boxR (c : Net) (i j : Nat) : Bx := (-fX' c j i, fX' c i j, -fY' c j i, fY' c i j)
def apM (c : Net) (i j : Nat) : Bx × Int := if okN c = true ∧ cnB c i j = true then (boxR c i j, 0) else ((0, 0, 0, 0), 100)
theorem cnB_iff {c : Net} (h : NOK c) (ho : okN c = true) {i j : Nat} (hi : i ≤ c.1.toNat) (hj : j ≤ c.1.toNat) : cnB c i j = true ↔ Cn c i j := by
  unfold cnB
  rw [decide_eq_true_eq]
  exact (axisX h ho).cn i j hi hj
theorem m39_eq {c : Net} (h : NOK c) {i j : Nat} (hi : i ≤ c.1.toNat) (hj : j ≤ c.1.toNat) : m39 (c, (i : Int), (j : Int)) = some (apM c i j) := by
  unfold m39
  dsimp only
  refine bind_of (m32_eq h) ?_
  dsimp only
  have hX := m12_bad (sysX h)
  have hY := m12_bad (sysY h)
  have gX := m12_good (sysX h)
  have gY := m12_good (sysY h)
  unfold apM okN
  cases ox : ovS (axX c) with
  | true =>
    refine bind_of (hX ox) ?_
    cases oy : ovS (axY c) with
    | true =>
      refine bind_of (hY oy) ?_
      rfl
    | false =>
      refine bind_of (gY oy) ?_
      rfl
  | false =>
    refine bind_of (gX ox) ?_
    cases oy : ovS (axY c) with
    | true =>
      refine bind_of (hY oy) ?_
      rfl
    | false =>
      refine bind_of (gY oy) ?_
      have nX := axX_n h
      have nY := axY_n h
      have ho : okN c = true := by unfold okN; rw [ox, oy]; rfl
      have aX := axisX h ho
      have aY := axisY h ho
      dsimp only
      rw [eqI rfl, notT, orF, notF, cond_true, rt_idx (by omega), Option.bind_some, cond_true, row_idx (by omega), Option.bind_some, orF]
      by_cases hc : fX' c i j = 1152921504606846976
      · rw [eqI hc, cond_true, if_neg]
        rintro ⟨_, h2⟩
        unfold cnB at h2
        exact of_decide_eq_true h2 hc
      · have hcn := (aX.cn i j hi hj).1 hc
        have b1 : -100000000000000000 ≤ fwS (axX c) j i ∧ fwS (axX c) j i ≤ 100000000000000000 := aX.bd j i hj hi ((aX.cn j i hj hi).2 hcn.symm)
        have b2 : -100000000000000000 ≤ fwS (axY c) j i ∧ fwS (axY c) j i ≤ 100000000000000000 := aY.bd j i hj hi ((aY.cn j i hj hi).2 hcn.symm)
        have p1 : j < (axX c).1.toNat := by omega
        have p2 : i < (axX c).1.toNat := by omega
        have p3 : j < (axY c).1.toNat := by omega
        have p4 : i < (axY c).1.toNat := by omega
        rw [neI hc, cond_false]
        simp only [rt_idx p1, rt_idx p2, rt_idx p3, rt_idx p4, row_idx p1, row_idx p2, row_idx p3, row_idx p4, Option.bind_some]
        rw [if_pos ⟨rfl, by unfold cnB; exact decide_eq_true hc⟩]
        unfold PE.negM boxR
        rw [wrap_in (n := -fwS (axX c) j i) (by omega) (by omega), wrap_in (n := -fwS (axY c) j i) (by omega) (by omega)]
def err : Bx × Int := ((0, 0, 0, 0), 100)
def aptR (c : Net) (p q : Int) : Bx × Int := if nval c = true ∧ inB p 0 (c.1 - 1) = true ∧ inB q 0 (c.1 - 1) = true then apM c p.toNat q.toNat else err
def boxQ (c : Net) (p : Int) : Bx × Int := if nval c = true ∧ inB p 0 (c.1 - 1) = true then apM c c.1.toNat p.toNat else err
theorem m22_eq (c : Net) (p q : Int) : m22 (c, p, q) = some (aptR c p q) := by
  unfold m22 aptR
  dsimp only
  rw [m18_eq, Option.bind_some]
  cases hv : nval c with
  | false =>
    rw [if_neg (by rintro ⟨h, _⟩; cases h)]
    rfl
  | true =>
    have h := nval_iff.1 hv
    have h0 := h.n0
    have h8 := h.n8
    have e0 : IntKind.wrap IntKind.i64 (c.1 - 1) = c.1 - 1 := wrap_in (by omega) (by omega)
    rw [e0, notT, notF, cond_true, m38_eq, Option.bind_some]
    cases hp : inB p 0 (c.1 - 1) with
    | false =>
      rw [if_neg (by rintro ⟨_, h, _⟩; cases h)]
      rfl
    | true =>
      rw [notT, orF, notF, cond_true, m38_eq, Option.bind_some]
      cases hq : inB q 0 (c.1 - 1) with
      | false =>
        rw [if_neg (by rintro ⟨_, _, h⟩; cases h)]
        rfl
      | true =>
        rw [notT, orF, cond_false, if_pos ⟨rfl, rfl, rfl⟩]
        have h1 := inB_iff.1 hp
        have h2 := inB_iff.1 hq
        obtain ⟨i, rfl⟩ := Int.eq_ofNat_of_zero_le h1.1
        obtain ⟨j, rfl⟩ := Int.eq_ofNat_of_zero_le h2.1
        exact bind_of (m39_eq h (by omega) (by omega)) rfl
theorem m14_eq (c : Net) (p : Int) : m14 (c, p) = some (boxQ c p) := by
  unfold m14 boxQ
  dsimp only
  rw [m18_eq, Option.bind_some]
  cases hv : nval c with
  | false =>
    rw [if_neg (by rintro ⟨h, _⟩; cases h)]
    rfl
  | true =>
    have h := nval_iff.1 hv
    have h0 := h.n0
    have h8 := h.n8
    have e0 : IntKind.wrap IntKind.i64 (c.1 - 1) = c.1 - 1 := wrap_in (by omega) (by omega)
    rw [e0, notT, notF, cond_true, m38_eq, Option.bind_some]
    cases hp : inB p 0 (c.1 - 1) with
    | false =>
      rw [if_neg (by rintro ⟨_, h⟩; cases h)]
      rfl
    | true =>
      rw [notT, orF, cond_false, if_pos ⟨rfl, rfl⟩]
      have h1 := inB_iff.1 hp
      obtain ⟨i, rfl⟩ := Int.eq_ofNat_of_zero_le h1.1
      have e1 : c.1 = ((c.1.toNat : Nat) : Int) := by omega
      have hm := m39_eq h (i := c.1.toNat) (j := i) (by omega) (by omega)
      rw [← e1] at hm
      exact bind_of hm rfl
end Go.Proofs.Ytklddmmnggcffaa
/-
  Network: what integers determine: hidden places, sights, networks.
  No conditions.
-/
namespace Go.Proofs.Ytklddmmnggcffaa
open Go Go.Abs Go.PE
set_option linter.unusedVariables false
abbrev NNum := List (Int × Int) × List Int × List Fix × List Sgt × Int × Int × Int
structure NN (x : NNum) : Prop where
  pl : ∀ p ∈ x.1, i64 p.1 ∧ i64 p.2
  ti : ∀ v ∈ x.2.1, i64 v
  fx : ∀ f ∈ x.2.2.1, i64 f.1 ∧ i64 f.2.1 ∧ i64 f.2.2.1 ∧ i64 f.2.2.2
  sg : ∀ s ∈ x.2.2.2.1, i64 s.1 ∧ i64 s.2.1 ∧ i64 s.2.2.1 ∧ i64 s.2.2.2.1 ∧ i64 s.2.2.2.2
  a : i64 x.2.2.2.2.1
  b : i64 x.2.2.2.2.2.1
  c : i64 x.2.2.2.2.2.2
theorem m30_eq {c n : Int} (hc : i64 c) (hn : 0 < n) : m30 (c, n) = some (pk c n) := pk_text hc hn
theorem m15_eq {c n : Int} (hc : i64 c) (hn : 0 < n) : m15 (c, n) = some (pk c n) := pk_text hc hn
theorem idxD {α : Type} {xs : List α} {i : Nat} (h : i < xs.length) (d : α) : idxM xs (i : Int) = some (xs.getD i d) := by
  rw [idxM_lt h]; simp [List.getD, h]
theorem memD {α : Type} {xs : List α} {i : Nat} (h : i < xs.length) (d : α) : xs.getD i d ∈ xs := by
  simp [List.getD, h]
def nP (x : NNum) : Nat := min x.1.length 8
def hp (x : NNum) (i : Nat) : Int × Int := (pk (x.1.getD i (0, 0)).1 1001 - 500, pk (x.1.getD i (0, 0)).2 1001 - 500)
def hidL (x : NNum) : List (Int × Int) := row (nP x) (hp x)
def HB (h : Nat → Int × Int) : Prop := ∀ i, -500 ≤ (h i).1 ∧ (h i).1 ≤ 500 ∧ -500 ≤ (h i).2 ∧ (h i).2 ≤ 500
theorem hp_bd (x : NNum) : HB (hp x) := fun i => by
  have h1 := pk_lo (c := (x.1.getD i (0, 0)).1) (n := 1001) (by omega)
  have h2 := pk_hi (c := (x.1.getD i (0, 0)).1) (n := 1001) (by omega)
  have h3 := pk_lo (c := (x.1.getD i (0, 0)).2) (n := 1001) (by omega)
  have h4 := pk_hi (c := (x.1.getD i (0, 0)).2) (n := 1001) (by omega)
  unfold hp
  dsimp only
  omega
theorem nP_bd (x : NNum) : nP x ≤ 8 ∧ nP x ≤ x.1.length := ⟨Nat.min_le_right _ _, Nat.min_le_left _ _⟩
theorem m20_eq {x : NNum} (h : NN x) : m20 x = some (hidL x) := by
  have hn := nP_bd x
  unfold m20
  dsimp only
  refine bind_of (x := hidL x) ?_ rfl
  refine count_loop (fun k => row k (hp x)) (nP x) (fun k hk => ?_) ?_
  · have hm := h.pl _ (memD (show k < x.1.length by omega) (0, 0))
    have hb := hp_bd x k
    unfold hp at hb
    dsimp only at hb
    dsimp only
    rw [ltI (by show (k : Int) < (x.1.length : Int); omega), andT, ltI (by omega), cond_true, idxD (by omega) (0, 0), Option.bind_some, m30_eq hm.1 (by omega), Option.bind_some, Option.bind_some, m30_eq hm.2 (by omega), Option.bind_some, wrap_in (n := _ - 500) (by omega) (by omega), wrap_in (n := _ - 500) (by omega) (by omega)]
    refine bind_of (app_rowOf rfl (by show (k + 1) * 16 ≤ 140737488355328; omega)) ?_
    rw [wrap_in (by omega) (by omega)]
  · dsimp only
    have e : PE.andM (ltM ((nP x : Nat) : Int) (lenM x.1)) (ltM ((nP x : Nat) : Int) 8) = false := by
      by_cases h8 : x.1.length ≤ 8
      · rw [geI (a := ((nP x : Nat) : Int)) (b := lenM x.1) (by show (x.1.length : Int) ≤ _; unfold nP; omega)]; rfl
      · rw [geI (a := ((nP x : Nat) : Int)) (b := 8) (by unfold nP; omega)]
        cases ltM ((nP x : Nat) : Int) (lenM x.1) <;> rfl
    rw [e, cond_false]
    rfl
def pN (c : Int) (n : Nat) : Nat := (pk c n).toNat
theorem pN_lt {c : Int} {n : Nat} (hn : 0 < n) : pN c n < n := by
  have h1 := pk_lo (c := c) (n := n) (by omega)
  have h2 := pk_hi (c := c) (n := n) (by omega)
  unfold pN
  omega
theorem pN_eq {c : Int} {n : Nat} (hn : 0 < n) : ((pN c n : Nat) : Int) = pk c n := by
  have h1 := pk_lo (c := c) (n := n) (by omega)
  unfold pN
  omega
def sTo (n : Nat) (s : Sgt) : Nat := (pN s.1 n + 1 + pN s.2.1 (n - 1)) % n
def jit (c : Int) (t : Nat) : Int := pk c (2 * t + 1) - t
theorem jit_bd {c : Int} {t : Nat} : -(t : Int) ≤ jit c t ∧ jit c t ≤ t := by
  have h1 := pk_lo (c := c) (n := 2 * t + 1) (by omega)
  have h2 := pk_hi (c := c) (n := 2 * t + 1) (by omega)
  unfold jit
  omega
def sightOf (n : Nat) (h : Nat → Int × Int) (s : Sgt) : Sgt :=
  ((pN s.1 n : Nat), (sTo n s : Nat), (h (sTo n s)).1 - (h (pN s.1 n)).1 + jit s.2.2.2.1 (pN s.2.2.1 12), (h (sTo n s)).2 - (h (pN s.1 n)).2 + jit s.2.2.2.2 (pN s.2.2.1 12), (pN s.2.2.1 12 : Nat))
theorem m21_eq {n : Nat} {h : Nat → Int × Int} (hn : 2 ≤ n) (hn8 : n ≤ 8) (hb : HB h) {s : Sgt} (h1 : i64 s.1) (h2 : i64 s.2.1) (h3 : i64 s.2.2.1) (h4 : i64 s.2.2.2.1) (h5 : i64 s.2.2.2.2) : m21 (row n h, s) = some (sightOf n h s) := by
  have hl : lenM (row n h) = (n : Int) := by show ((row n h).length : Int) = _; rw [row_length]
  have p1 := pN_lt (c := s.1) (n := n) (by omega)
  have p2 := pN_lt (c := s.2.1) (n := n - 1) (by omega)
  have p3 := pN_lt (c := s.2.2.1) (n := 12) (by omega)
  have q1 := pN_eq (c := s.1) (n := n) (by omega)
  have q2 := pN_eq (c := s.2.1) (n := n - 1) (by omega)
  have q3 := pN_eq (c := s.2.2.1) (n := 12) (by omega)
  have hto : sTo n s < n := Nat.mod_lt _ (by omega)
  have b1 := hb (sTo n s)
  have b2 := hb (pN s.1 n)
  have j1 := jit_bd (c := s.2.2.2.1) (t := pN s.2.2.1 12)
  have j2 := jit_bd (c := s.2.2.2.2) (t := pN s.2.2.1 12)
  have e12 : ((12 : Nat) : Int) = 12 := rfl
  rw [e12] at q3
  unfold m21
  dsimp only
  rw [hl, m30_eq h1 (by omega), Option.bind_some, m30_eq h3 (by omega), Option.bind_some, wrap_in (n := (n : Int) - 1) (by omega) (by omega)]
  have en : ((n : Int) - 1) = ((n - 1 : Nat) : Int) := by omega
  rw [en, m30_eq h2 (by omega), Option.bind_some, ← q1, ← q2, ← q3, wrap_in (n := ((pN s.1 n : Nat) : Int) + 1) (by omega) (by omega), wrap_in (n := ((pN s.1 n : Nat) : Int) + 1 + ((pN s.2.1 (n - 1) : Nat) : Int)) (by omega) (by omega), remM_of (by omega) (by omega), Option.bind_some]
  have et : (((pN s.1 n : Nat) : Int) + 1 + ((pN s.2.1 (n - 1) : Nat) : Int)) % (n : Int) = ((sTo n s : Nat) : Int) := by
    unfold sTo
    rw [Int.natCast_emod]
    rfl
  rw [et, row_idx hto, Option.bind_some, row_idx p1, Option.bind_some]
  have e2 : IntKind.wrap IntKind.i64 (IntKind.wrap IntKind.i64 ((2 : Int) * ((pN s.2.2.1 12 : Nat) : Int)) + 1) = 2 * ((pN s.2.2.1 12 : Nat) : Int) + 1 := by
    rw [wrap_in (n := 2 * ((pN s.2.2.1 12 : Nat) : Int)) (by omega) (by omega), wrap_in (by omega) (by omega)]
  rw [e2, m30_eq h4 (by omega), Option.bind_some, Option.bind_some, Option.bind_some, m30_eq h5 (by omega), Option.bind_some]
  unfold jit at j1 j2
  generalize hv1 : pk s.2.2.2.1 (2 * ((pN s.2.2.1 12 : Nat) : Int) + 1) = v1 at *
  generalize hv2 : pk s.2.2.2.2 (2 * ((pN s.2.2.1 12 : Nat) : Int) + 1) = v2 at *
  rw [wrap_in (n := (h (sTo n s)).1 - (h (pN s.1 n)).1) (by omega) (by omega), wrap_in (n := (h (sTo n s)).1 - (h (pN s.1 n)).1 + v1) (by omega) (by omega), wrap_in (n := (h (sTo n s)).1 - (h (pN s.1 n)).1 + v1 - ((pN s.2.2.1 12 : Nat) : Int)) (by omega) (by omega)]
  rw [wrap_in (n := (h (sTo n s)).2 - (h (pN s.1 n)).2) (by omega) (by omega), wrap_in (n := (h (sTo n s)).2 - (h (pN s.1 n)).2 + v2) (by omega) (by omega), wrap_in (n := (h (sTo n s)).2 - (h (pN s.1 n)).2 + v2 - ((pN s.2.2.1 12 : Nat) : Int)) (by omega) (by omega)]
  unfold sightOf jit
  rw [hv1, hv2]
  have z1 : (h (sTo n s)).1 - (h (pN s.1 n)).1 + v1 - ((pN s.2.2.1 12 : Nat) : Int) = (h (sTo n s)).1 - (h (pN s.1 n)).1 + (v1 - ((pN s.2.2.1 12 : Nat) : Int)) := by omega
  have z2 : (h (sTo n s)).2 - (h (pN s.1 n)).2 + v2 - ((pN s.2.2.1 12 : Nat) : Int) = (h (sTo n s)).2 - (h (pN s.1 n)).2 + (v2 - ((pN s.2.2.1 12 : Nat) : Int)) := by omega
  rw [z1, z2]
theorem sight_ne {n : Nat} (hn : 2 ≤ n) (s : Sgt) : sTo n s ≠ pN s.1 n := by
  have p1 := pN_lt (c := s.1) (n := n) (by omega)
  have p2 := pN_lt (c := s.2.1) (n := n - 1) (by omega)
  unfold sTo
  intro h
  by_cases hlt : pN s.1 n + 1 + pN s.2.1 (n - 1) < n
  · rw [Nat.mod_eq_of_lt hlt] at h; omega
  · rw [Nat.mod_eq_sub_mod (by omega), Nat.mod_eq_of_lt (by omega)] at h; omega
end Go.Proofs.Ytklddmmnggcffaa
/-
  Network: the networks that integers determine.
  No conditions.
-/
namespace Go.Proofs.Ytklddmmnggcffaa
open Go Go.Abs Go.PE
set_option linter.unusedVariables false
def fixOf (n : Nat) (h : Nat → Int × Int) (f : Fix) : Fix := ((pN f.1 n : Nat), (h (pN f.1 n)).1 + jit f.2.2.1 (pN f.2.1 12), (h (pN f.1 n)).2 + jit f.2.2.2 (pN f.2.1 12), (pN f.2.1 12 : Nat))
def nF (x : NNum) : Nat := if nP x = 0 then 0 else min x.2.2.1.length 6
def fxf (x : NNum) (i : Nat) : Fix := fixOf (nP x) (hp x) (x.2.2.1.getD i (0, 0, 0, 0))
def tN (x : NNum) : Nat := min x.2.1.length (nP x - 1)
def tieF (x : NNum) (k : Nat) : Sgt :=
  ((pN (x.2.1.getD k 0) (k + 1) : Nat), ((k + 1 : Nat) : Int), (hp x (k + 1)).1 - (hp x (pN (x.2.1.getD k 0) (k + 1))).1, (hp x (k + 1)).2 - (hp x (pN (x.2.1.getD k 0) (k + 1))).2, (pN ((x.2.1.getD k 0).tdiv 8) 10 : Nat))
def nS (x : NNum) : Nat := if nP x ≤ 1 then 0 else min x.2.2.2.1.length 10
def sgF (x : NNum) (k : Nat) : Sgt := sightOf (nP x) (hp x) (x.2.2.2.1.getD k (0, 0, 0, 0, 0))
def base (x : NNum) : List Sgt := row (tN x) (tieF x) ++ row (nS x) (sgF x)
def mis (x : NNum) : Bool := decide (pk x.2.2.2.2.1 3 = 2)
def bent (x : NNum) (s : Sgt) : Sgt := if pk x.2.2.2.2.2.2 2 = 0 then (s.1, s.2.1, s.2.2.1 + (pk (x.2.2.2.2.2.2.tdiv 2) 60 + 1), s.2.2.2) else (s.1, s.2.1, s.2.2.1, s.2.2.2.1 - (pk (x.2.2.2.2.2.2.tdiv 2) 60 + 1), s.2.2.2.2)
def msg (x : NNum) : List Sgt := if mis x = true ∧ 0 < (base x).length then (base x).set (pN x.2.2.2.2.2.1 (base x).length) (bent x ((base x).getD (pN x.2.2.2.2.2.1 (base x).length) (0, 0, 0, 0, 0))) else base x
def madeN (x : NNum) : Net := ((nP x : Int), row (nF x) (fxf x), msg x)
def KF (n : Nat) (h : Nat → Int × Int) (f : Fix) : Prop := 0 ≤ f.1 ∧ f.1 < n ∧ -511 ≤ f.2.1 ∧ f.2.1 ≤ 511 ∧ -511 ≤ f.2.2.1 ∧ f.2.2.1 ≤ 511 ∧ 0 ≤ f.2.2.2 ∧ f.2.2.2 ≤ 11 ∧
  -f.2.2.2 ≤ (h f.1.toNat).1 - f.2.1 ∧ (h f.1.toNat).1 - f.2.1 ≤ f.2.2.2 ∧ -f.2.2.2 ≤ (h f.1.toNat).2 - f.2.2.1 ∧ (h f.1.toNat).2 - f.2.2.1 ≤ f.2.2.2
def KS (n : Nat) (h : Nat → Int × Int) (s : Sgt) : Prop := 0 ≤ s.1 ∧ s.1 < n ∧ 0 ≤ s.2.1 ∧ s.2.1 < n ∧ s.1 ≠ s.2.1 ∧ -1011 ≤ s.2.2.1 ∧ s.2.2.1 ≤ 1011 ∧ -1011 ≤ s.2.2.2.1 ∧ s.2.2.2.1 ≤ 1011 ∧ 0 ≤ s.2.2.2.2 ∧ s.2.2.2.2 ≤ 11 ∧
  -s.2.2.2.2 ≤ (h s.2.1.toNat).1 - (h s.1.toNat).1 - s.2.2.1 ∧ (h s.2.1.toNat).1 - (h s.1.toNat).1 - s.2.2.1 ≤ s.2.2.2.2 ∧ -s.2.2.2.2 ≤ (h s.2.1.toNat).2 - (h s.1.toNat).2 - s.2.2.2.1 ∧ (h s.2.1.toNat).2 - (h s.1.toNat).2 - s.2.2.2.1 ≤ s.2.2.2.2
theorem fixOf_keeps {n : Nat} {h : Nat → Int × Int} (hn : 0 < n) (hb : HB h) (f : Fix) : KF n h (fixOf n h f) := by
  have p1 := pN_lt (c := f.1) hn
  have p2 := pN_lt (c := f.2.1) (n := 12) (by omega)
  have b := hb (pN f.1 n)
  have j1 := jit_bd (c := f.2.2.1) (t := pN f.2.1 12)
  have j2 := jit_bd (c := f.2.2.2) (t := pN f.2.1 12)
  unfold KF fixOf
  dsimp only
  rw [Int.toNat_natCast]
  omega
theorem sightOf_keeps {n : Nat} {h : Nat → Int × Int} (hn : 2 ≤ n) (hb : HB h) (s : Sgt) : KS n h (sightOf n h s) := by
  have p1 := pN_lt (c := s.1) (n := n) (by omega)
  have p3 := pN_lt (c := s.2.2.1) (n := 12) (by omega)
  have hto : sTo n s < n := Nat.mod_lt _ (by omega)
  have hne := sight_ne hn s
  have b1 := hb (pN s.1 n)
  have b2 := hb (sTo n s)
  have j1 := jit_bd (c := s.2.2.2.1) (t := pN s.2.2.1 12)
  have j2 := jit_bd (c := s.2.2.2.2) (t := pN s.2.2.1 12)
  unfold KS sightOf
  dsimp only
  rw [Int.toNat_natCast, Int.toNat_natCast]
  omega
theorem tie_keeps {x : NNum} {k : Nat} (hk : k < tN x) : KS (nP x) (hp x) (tieF x k) := by
  have hk2 : k + 1 < nP x := by unfold tN at hk; omega
  have p1 := pN_lt (c := x.2.1.getD k 0) (n := k + 1) (by omega)
  have p2 := pN_lt (c := (x.2.1.getD k 0).tdiv 8) (n := 10) (by omega)
  have b1 := hp_bd x (k + 1)
  have b2 := hp_bd x (pN (x.2.1.getD k 0) (k + 1))
  unfold KS tieF
  dsimp only
  rw [Int.toNat_natCast, Int.toNat_natCast]
  omega
theorem fix_keeps {x : NNum} {f : Fix} (hf : f ∈ row (nF x) (fxf x)) : KF (nP x) (hp x) f := by
  obtain ⟨i, hi, rfl⟩ := row_mem hf
  refine fixOf_keeps ?_ (hp_bd x) _
  unfold nF at hi
  split at hi <;> omega
theorem base_keeps {x : NNum} {s : Sgt} (hs : s ∈ base x) : KS (nP x) (hp x) s := by
  rcases List.mem_append.1 hs with hs | hs
  · obtain ⟨i, hi, rfl⟩ := row_mem hs
    exact tie_keeps hi
  · obtain ⟨i, hi, rfl⟩ := row_mem hs
    refine sightOf_keeps ?_ (hp_bd x) _
    unfold nS at hi
    split at hi <;> omega
theorem base_len (x : NNum) : (base x).length ≤ 17 := by
  unfold base
  rw [List.length_append, row_length, row_length]
  have := (nP_bd x).1
  unfold tN nS
  split <;> omega
theorem msg_len (x : NNum) : (msg x).length = (base x).length := by
  unfold msg
  split
  · rw [List.length_set]
  · rfl
theorem msg_mem {x : NNum} {s : Sgt} (hs : s ∈ msg x) : s ∈ base x ∨ ∃ s' ∈ base x, s = bent x s' := by
  unfold msg at hs
  split at hs
  · rename_i h
    rcases List.mem_or_eq_of_mem_set hs with h1 | h1
    · exact .inl h1
    · exact .inr ⟨_, memD (pN_lt h.2) _, h1⟩
  · exact .inl hs
theorem made_ok (x : NNum) : NOK (madeN x) where
  n0 := by show (0 : Int) ≤ (nP x : Int); omega
  n8 := by have := (nP_bd x).1; show (nP x : Int) ≤ 8; omega
  fl := by
    show (row (nF x) (fxf x)).length ≤ 8
    rw [row_length]
    unfold nF
    split <;> omega
  sl := by
    show (msg x).length ≤ 20
    have := base_len x
    rw [msg_len]; omega
  fx f hf := by
    have := fix_keeps hf
    unfold KF at this
    show 0 ≤ f.1 ∧ f.1 < (nP x : Int) ∧ _
    omega
  sg s hs := by
    show 0 ≤ s.1 ∧ s.1 < (nP x : Int) ∧ 0 ≤ s.2.1 ∧ s.2.1 < (nP x : Int) ∧ _
    have hd1 := pk_lo (c := x.2.2.2.2.2.2.tdiv 2) (n := 60) (by omega)
    have hd2 := pk_hi (c := x.2.2.2.2.2.2.tdiv 2) (n := 60) (by omega)
    rcases msg_mem hs with h | ⟨s', h, rfl⟩
    · have := base_keeps h
      unfold KS at this
      omega
    · have := base_keeps h
      unfold KS at this
      unfold bent
      split
      · dsimp only; omega
      · dsimp only; omega
theorem m31_eq {x : NNum} (h : NN x) : m31 x = some (mis x) := by
  unfold m31
  rw [m30_eq h.a (by omega)]
  rfl
theorem lenR {α : Type} (m : Nat) (g : Nat → α) : lenM (row m g) = (m : Int) := by show ((row m g).length : Int) = _; rw [row_length]
theorem wrap_2t {t : Nat} (ht : t < 12) : IntKind.wrap IntKind.i64 (IntKind.wrap IntKind.i64 ((2 : Int) * ((t : Nat) : Int)) + 1) = 2 * ((t : Nat) : Int) + 1 := by
  rw [wrap_in (n := 2 * ((t : Nat) : Int)) (by omega) (by omega), wrap_in (by omega) (by omega)]
theorem min_end (a b : Nat) (bs : Int) (h : bs = (b : Int)) {xs : Int} (hx : xs = (a : Int)) : PE.andM (ltM ((min a b : Nat) : Int) xs) (ltM ((min a b : Nat) : Int) bs) = false := by
  subst h; subst hx
  by_cases h1 : a ≤ b
  · rw [geI (a := ((min a b : Nat) : Int)) (b := (a : Int)) (by omega)]; rfl
  · rw [geI (a := ((min a b : Nat) : Int)) (b := (b : Int)) (by omega)]
    cases ltM ((min a b : Nat) : Int) (a : Int) <;> rfl
theorem andF2 (b : Bool) : PE.andM b false = false := by cases b <;> rfl
theorem setM_D {α : Type} {xs : List α} {i : Nat} (h : i < xs.length) (d : α) {f : α → Option α} {y : α} (hy : f (xs.getD i d) = some y) : setM xs (i : Int) f = some (xs.set i y) := by
  have e : xs.getD i d = xs[i] := by simp [List.getD, h]
  rw [e] at hy
  exact setM_of (by omega) (by omega) hy
theorem m9_eq {x : NNum} (h : NN x) : m9 x = some (madeN x) := by
  have hn := nP_bd x
  unfold m9
  dsimp only
  refine bind_of (m20_eq h) ?_
  have hl : lenM (hidL x) = (nP x : Int) := lenR _ _
  rw [hl]
  refine bind_of (x := ((nP x : Int), row (nF x) (fxf x))) ?_ ?_
  · refine count_loop (fun k => ((nP x : Int), row k (fxf x))) (nF x) (fun k hk => ?_) ?_
    · have hk1 : k < x.2.2.1.length ∧ k < 6 ∧ 0 < nP x := by unfold nF at hk; split at hk <;> omega
      obtain ⟨k1, k2, k3⟩ := hk1
      have hm := h.fx _ (memD k1 (0, 0, 0, 0))
      have ef : fxf x k = fixOf (nP x) (hp x) (x.2.2.1.getD k (0, 0, 0, 0)) := rfl
      dsimp only
      rw [ltI (by show (k : Int) < (x.2.2.1.length : Int); omega), andT, ltI (by omega), andT, ltI (by omega), cond_true, idxD k1 (0, 0, 0, 0), Option.bind_some]
      generalize x.2.2.1.getD k (0, 0, 0, 0) = f at *
      obtain ⟨m1, m2, m3, m4⟩ := hm
      have p1 := pN_lt (c := f.1) k3
      have q1 := pN_eq (c := f.1) k3
      have p2 := pN_lt (c := f.2.1) (n := 12) (by omega)
      have q2 : ((pN f.2.1 12 : Nat) : Int) = pk f.2.1 12 := pN_eq (c := f.2.1) (n := 12) (by omega)
      have b := hp_bd x (pN f.1 (nP x))
      have j1 := jit_bd (c := f.2.2.1) (t := pN f.2.1 12)
      have j2 := jit_bd (c := f.2.2.2) (t := pN f.2.1 12)
      rw [m30_eq m1 (by omega), Option.bind_some, Option.bind_some, m30_eq m2 (by omega), Option.bind_some, ← q1, ← q2]
      have er : idxM (hidL x) ((pN f.1 (nP x) : Nat) : Int) = some (hp x (pN f.1 (nP x))) := row_idx p1
      rw [er, Option.bind_some, Option.bind_some, wrap_2t p2, m30_eq m3 (by omega), Option.bind_some, Option.bind_some, Option.bind_some, m30_eq m4 (by omega), Option.bind_some]
      refine bind_of (app_rowOf (g := fxf x) ?_ (by show (k + 1) * 32 ≤ 140737488355328; omega)) ?_
      · rw [ef]
        unfold fixOf
        unfold jit at *
        generalize pk f.2.2.1 (2 * ((pN f.2.1 12 : Nat) : Int) + 1) = v1 at *
        generalize pk f.2.2.2 (2 * ((pN f.2.1 12 : Nat) : Int) + 1) = v2 at *
        rw [wrap_in (n := (hp x (pN f.1 (nP x))).1 + v1) (by omega) (by omega), wrap_in (n := (hp x (pN f.1 (nP x))).1 + v1 - ((pN f.2.1 12 : Nat) : Int)) (by omega) (by omega), wrap_in (n := (hp x (pN f.1 (nP x))).2 + v2) (by omega) (by omega), wrap_in (n := (hp x (pN f.1 (nP x))).2 + v2 - ((pN f.2.1 12 : Nat) : Int)) (by omega) (by omega)]
        have z1 : (hp x (pN f.1 (nP x))).1 + v1 - ((pN f.2.1 12 : Nat) : Int) = (hp x (pN f.1 (nP x))).1 + (v1 - ((pN f.2.1 12 : Nat) : Int)) := by omega
        have z2 : (hp x (pN f.1 (nP x))).2 + v2 - ((pN f.2.1 12 : Nat) : Int) = (hp x (pN f.1 (nP x))).2 + (v2 - ((pN f.2.1 12 : Nat) : Int)) := by omega
        rw [z1, z2]
      · rw [wrap_in (by omega) (by omega)]
    · dsimp only
      have e : PE.andM (PE.andM (ltM ((nF x : Nat) : Int) (lenM x.2.2.1)) (ltM ((nF x : Nat) : Int) 6)) (ltM 0 ((nP x : Nat) : Int)) = false := by
        unfold nF
        by_cases h0 : nP x = 0
        · rw [if_pos h0, h0, geI (a := 0) (b := ((0 : Nat) : Int)) (by omega)]
          exact andF2 _
        · rw [if_neg h0, min_end x.2.2.1.length 6 6 rfl (xs := lenM x.2.2.1) rfl]; rfl
      rw [e, cond_false]
  refine bind_of (x := ((nP x : Int), row (tN x) (tieF x))) ?_ ?_
  · refine count_loop (fun k => ((nP x : Int), row k (tieF x))) (tN x) (fun k hk => ?_) ?_
    · have k1 : k < x.2.1.length := by unfold tN at hk; omega
      have k2 : k + 1 < nP x := by unfold tN at hk; omega
      have hm := h.ti _ (memD k1 0)
      have ef : tieF x k = (((pN (x.2.1.getD k 0) (k + 1) : Nat) : Int), ((k + 1 : Nat) : Int), (hp x (k + 1)).1 - (hp x (pN (x.2.1.getD k 0) (k + 1))).1, (hp x (k + 1)).2 - (hp x (pN (x.2.1.getD k 0) (k + 1))).2, ((pN ((x.2.1.getD k 0).tdiv 8) 10 : Nat) : Int)) := rfl
      have ek : IntKind.wrap IntKind.i64 ((k : Int) + 1) = ((k + 1 : Nat) : Int) := by rw [wrap_in (by omega) (by omega)]; rfl
      dsimp only
      rw [ltI (by show (k : Int) < (x.2.1.length : Int); omega), andT, ek, ltI (by omega), cond_true, idxD k1 0, Option.bind_some]
      generalize x.2.1.getD k 0 = v at *
      have p1 := pN_lt (c := v) (n := k + 1) (by omega)
      have q1 : ((pN v (k + 1) : Nat) : Int) = pk v ((k + 1 : Nat) : Int) := pN_eq (c := v) (n := k + 1) (by omega)
      have q2 : ((pN (v.tdiv 8) 10 : Nat) : Int) = pk (v.tdiv 8) 10 := pN_eq (c := v.tdiv 8) (n := 10) (by omega)
      have b1 := hp_bd x (k + 1)
      have b2 := hp_bd x (pN v (k + 1))
      have er1 : idxM (hidL x) ((k + 1 : Nat) : Int) = some (hp x (k + 1)) := row_idx k2
      have er2 : idxM (hidL x) ((pN v (k + 1) : Nat) : Int) = some (hp x (pN v (k + 1))) := row_idx (by omega)
      rw [m30_eq hm (by omega), Option.bind_some, ← q1, er1, Option.bind_some, er2, Option.bind_some, Option.bind_some, Option.bind_some, Option.bind_some, divM_pos (by omega), wrap_tdiv hm (by omega), Option.bind_some, m30_eq (tdiv_ok hm (by omega)) (by omega), Option.bind_some, ← q2, wrap_in (n := (hp x (k + 1)).1 - (hp x (pN v (k + 1))).1) (by omega) (by omega), wrap_in (n := (hp x (k + 1)).2 - (hp x (pN v (k + 1))).2) (by omega) (by omega)]
      refine bind_of (app_rowOf (g := tieF x) ef.symm (by show (k + 1) * 40 ≤ 140737488355328; omega)) rfl
    · dsimp only
      have e : PE.andM (ltM ((tN x : Nat) : Int) (lenM x.2.1)) (ltM (IntKind.wrap IntKind.i64 (((tN x : Nat) : Int) + 1)) ((nP x : Nat) : Int)) = false := by
        have h9 : tN x ≤ 7 := by unfold tN; omega
        rw [wrap_in (n := ((tN x : Nat) : Int) + 1) (by omega) (by omega)]
        by_cases h1 : x.2.1.length ≤ tN x
        · rw [geI (a := ((tN x : Nat) : Int)) (b := lenM x.2.1) (by show (x.2.1.length : Int) ≤ _; omega)]; rfl
        · rw [geI (a := ((tN x : Nat) : Int) + 1) (b := ((nP x : Nat) : Int)) (by unfold tN at h1 ⊢; omega)]
          cases ltM ((tN x : Nat) : Int) (lenM x.2.1) <;> rfl
      rw [e, cond_false]
  refine bind_of (x := ((nP x : Int), base x)) ?_ ?_
  · have eb : base x = row (tN x) (tieF x) ++ row (nS x) (sgF x) := rfl
    have e0 : row (tN x) (tieF x) = row (tN x) (tieF x) ++ row 0 (sgF x) := by rw [row_zero, List.append_nil]
    have hb17 := base_len x
    have L := count_loop (body := fun (s : Int × Int × List (Int × Int × Int × Int × Int)) =>
                bif PE.andM (PE.andM (ltM s.1 (lenM x.2.2.2.1)) (ltM s.1 (10 : Int))) (ltM (1 : Int) ((nP x : Nat) : Int)) then
                  Option.bind (idxM x.2.2.2.1 s.1) fun (r_1 : Int × Int × Int × Int × Int) =>
                    Option.bind (m21 (hidL x, r_1.1, r_1.2.1, r_1.2.2.1, r_1.2.2.2.1, r_1.2.2.2.2))
                      fun (r_2 : Int × Int × Int × Int × Int) =>
                      Option.bind (appM (nat_lit 40) s.2.2 [(r_2.1, r_2.2.1, r_2.2.2.1, r_2.2.2.2.1, r_2.2.2.2.2)])
                        fun (r : List (Int × Int × Int × Int × Int)) =>
                        some (Sum.inl (IntKind.wrap IntKind.i64 (s.1 + (1 : Int)), s.2.1, r))
                else some (Sum.inr (s.2.1, s.2.2))) (fun k => ((nP x : Int), row (tN x) (tieF x) ++ row k (sgF x))) (nS x) (r := ((nP x : Int), row (tN x) (tieF x) ++ row (nS x) (sgF x))) (fun k hk => by
      have hk1 : k < x.2.2.2.1.length ∧ k < 10 ∧ 1 < nP x := by unfold nS at hk; split at hk <;> omega
      obtain ⟨k1, k2, k3⟩ := hk1
      obtain ⟨m1, m2, m3, m4, m5⟩ := h.sg _ (memD k1 (0, 0, 0, 0, 0))
      have hs := m21_eq (n := nP x) (h := hp x) (by omega) hn.1 (hp_bd x) m1 m2 m3 m4 m5
      dsimp only
      rw [ltI (by show (k : Int) < (x.2.2.2.1.length : Int); omega), andT, ltI (by omega), andT, ltI (by omega), cond_true, idxD k1 (0, 0, 0, 0, 0), Option.bind_some]
      refine bind_of hs ?_
      refine bind_of (appM_of (by rw [List.length_append, row_length, row_length]; unfold tN; simp; omega)) ?_
      rw [wrap_in (by omega) (by omega), row_succ, List.append_assoc]
      rfl) (by
      dsimp only
      have e : PE.andM (PE.andM (ltM ((nS x : Nat) : Int) (lenM x.2.2.2.1)) (ltM ((nS x : Nat) : Int) 10)) (ltM 1 ((nP x : Nat) : Int)) = false := by
        unfold nS
        by_cases h0 : nP x ≤ 1
        · rw [if_pos h0, geI (a := 1) (b := ((nP x : Nat) : Int)) (by omega)]
          exact andF2 _
        · rw [if_neg h0, min_end x.2.2.2.1.length 10 10 rfl (xs := lenM x.2.2.2.1) rfl]; rfl
      rw [e, cond_false])
    rw [← e0] at L
    exact L
  dsimp only
  refine bind_of (x := msg x) ?_ rfl
  refine bind_of (m31_eq h) ?_
  have hlb : lenM (base x) = ((base x).length : Int) := rfl
  have hb17 := base_len x
  rw [hlb]
  unfold msg
  by_cases h0 : mis x = true ∧ 0 < (base x).length
  · obtain ⟨hm, hl0⟩ := h0
    have p1 := pN_lt (c := x.2.2.2.2.2.1) hl0
    have q1 := pN_eq (c := x.2.2.2.2.2.1) hl0
    have hd1 := pk_lo (c := x.2.2.2.2.2.2.tdiv 2) (n := 60) (by omega)
    have hd2 := pk_hi (c := x.2.2.2.2.2.2.tdiv 2) (n := 60) (by omega)
    have hk := base_keeps (memD p1 (0, 0, 0, 0, 0))
    unfold KS at hk
    rw [if_pos ⟨hm, hl0⟩, hm, andT, ltI (by omega), cond_true, m30_eq h.b (by omega), Option.bind_some, divM_pos (by omega), wrap_tdiv h.c (by omega), Option.bind_some, m30_eq (tdiv_ok h.c (by omega)) (by omega), Option.bind_some, m30_eq h.c (by omega), Option.bind_some, ← q1]
    rw [wrap_in (n := pk (x.2.2.2.2.2.2.tdiv 2) 60 + 1) (by omega) (by omega)]
    unfold bent
    by_cases h2 : pk x.2.2.2.2.2.2 2 = 0
    · rw [eqI h2, cond_true, if_pos h2, chkM_of (by omega) (by omega), Option.bind_some, idxD p1 (0, 0, 0, 0, 0), Option.bind_some, Option.bind_some, Option.bind_some]
      refine bind_of (setM_D p1 (0, 0, 0, 0, 0) rfl) ?_
      rw [wrap_in (n := _ + (_ + 1)) (by omega) (by omega)]
    · rw [neI h2, cond_false, if_neg h2, chkM_of (by omega) (by omega), Option.bind_some, idxD p1 (0, 0, 0, 0, 0), Option.bind_some, Option.bind_some, Option.bind_some]
      refine bind_of (setM_D p1 (0, 0, 0, 0, 0) rfl) ?_
      rw [wrap_in (n := _ - (_ + 1)) (by omega) (by omega)]
  · rw [if_neg h0]
    have e : PE.andM (mis x) (ltM 0 ((base x).length : Int)) = false := by
      cases hm : mis x with
      | false => rfl
      | true =>
        rw [geI (by have : ¬ 0 < (base x).length := fun h => h0 ⟨hm, h⟩; omega)]
        rfl
    rw [e, cond_false]
end Go.Proofs.Ytklddmmnggcffaa
/-
  Network: the law NetworkApart.
  No conditions.
-/
namespace Go.Proofs.Ytklddmmnggcffaa
open Go Go.Abs Go.PE
set_option linter.unusedVariables false
theorem aptR_in {c : Net} (h : NOK c) {p q : Nat} (hp : p < c.1.toNat) (hq : q < c.1.toNat) : aptR c (p : Int) (q : Int) = apM c p q := by
  have h0 := h.n0
  unfold aptR
  rw [if_pos ⟨nval_iff.2 h, inB_iff.2 (by omega), inB_iff.2 (by omega)⟩, Int.toNat_natCast, Int.toNat_natCast]
theorem boxQ_in {c : Net} (h : NOK c) {p : Nat} (hp : p < c.1.toNat) : boxQ c (p : Int) = apM c c.1.toNat p := by
  have h0 := h.n0
  unfold boxQ
  rw [if_pos ⟨nval_iff.2 h, inB_iff.2 (by omega)⟩, Int.toNat_natCast]
end Go.Proofs.Ytklddmmnggcffaa
/-
  Network: Blame, and what is allowed.
  No conditions.
-/
namespace Go.Proofs.Ytklddmmnggcffaa
open Go Go.Abs Go.PE
set_option linter.unusedVariables false
def best (c : Net) : List Int := if ovS (axY c) = true ∧ (ovS (axX c) = false ∨ (cycL (axY c).2).length < (cycL (axX c).2).length) then cycL (axY c).2 else if ovS (axX c) = true then cycL (axX c).2 else []
def half (v : Int) : Int := IntKind.wrap IntKind.i64 (v.tdiv 2)
def blL (c : Net) : List Int := Lib.compact (isortI ((best c).map half))
theorem cyc_len16 {x : Sys} (hs : sys x = true) (ho : ovS x = true) : (cycL x.2).length ≤ 16 := by
  obtain ⟨_, v, S, _, h2, _⟩ := cyc_st hs ho
  have := (sys_all hs).1
  omega
theorem best_len {c : Net} (h : NOK c) : (best c).length ≤ 16 := by
  unfold best
  split
  · rename_i h1; exact cyc_len16 (sysY h) h1.1
  · split
    · rename_i h1; exact cyc_len16 (sysX h) h1
    · exact Nat.zero_le _
theorem m10_eq {c : Net} (h : NOK c) : m10 c = some (blL c, !okN c) := by
  unfold m10
  refine bind_of (m18_eq c) ?_
  rw [nval_iff.2 h, notT, cond_false]
  refine bind_of (m32_eq h) ?_
  dsimp only
  refine bind_of (x := (if ovS (axX c) = true then cycL (axX c).2 else [], ovS (axX c))) ?_ ?_
  · refine bind_of (m33_eq (axX c)) ?_
    unfold cycR
    rw [sysX h]
    cases ovS (axX c) <;> rfl
  refine bind_of (x := (best c, !okN c)) ?_ ?_
  · refine bind_of (m33_eq (axY c)) ?_
    unfold cycR best okN
    rw [sysY h]
    have key : ∀ (bx bY : Bool) (l1 l2 : List Int), (bif PE.andM (bif true && bY then (l2, true) else (([] : List Int), false)).2 (PE.orM (PE.notM (if bx = true then l1 else [], bx).2) (ltM (lenM (bif true && bY then (l2, true) else (([] : List Int), false)).1) (lenM (if bx = true then l1 else [], bx).1))) then some ((bif true && bY then (l2, true) else (([] : List Int), false)).1, true) else some ((if bx = true then l1 else [], bx).1, (if bx = true then l1 else [], bx).2)) = some (if bY = true ∧ (bx = false ∨ l2.length < l1.length) then l2 else if bx = true then l1 else [], !(!bx && !bY)) := by
      intro bx bY l1 l2
      cases bx <;> cases bY
      · rfl
      · rfl
      · rfl
      · by_cases hl : l2.length < l1.length
        · have e : ltM (lenM l2) (lenM l1) = true := ltI (by show (l2.length : Int) < (l1.length : Int); omega)
          have e2 : (if true = true ∧ (true = false ∨ l2.length < l1.length) then l2 else if true = true then l1 else []) = l2 := if_pos ⟨rfl, .inr hl⟩
          rw [e2]
          show (bif PE.andM true (PE.orM (PE.notM true) (ltM (lenM l2) (lenM l1))) then some (l2, true) else some (l1, true)) = some (l2, true)
          rw [e]
          rfl
        · have e : ltM (lenM l2) (lenM l1) = false := geI (by show (l1.length : Int) ≤ (l2.length : Int); omega)
          have e2 : (if true = true ∧ (true = false ∨ l2.length < l1.length) then l2 else if true = true then l1 else []) = l1 := by
            rw [if_neg (by rintro ⟨_, h | h⟩ <;> first | cases h | exact hl h)]
            rfl
          rw [e2]
          show (bif PE.andM true (PE.orM (PE.notM true) (ltM (lenM l2) (lenM l1))) then some (l2, true) else some (l1, true)) = some (l1, true)
          rw [e]
          rfl
    exact key _ _ _ _
  dsimp only
  have hb := best_len h
  refine bind_of (x := (best c).map half) ?_ ?_
  · have L := count_loop (body := fun (s : Int × List Int) =>
                    bif ltM s.1 (lenM (best c)) then
                      Option.bind (idxM (best c) s.1) fun (r_2 : Int) =>
                        Option.bind (divM IntKind.i64 r_2 (2 : Int)) fun (r_3 : Int) =>
                          Option.bind (appM (nat_lit 8) s.2 [r_3]) fun (r : List Int) =>
                            some (Sum.inl (IntKind.wrap IntKind.i64 (s.1 + (1 : Int)), r))
                    else some (Sum.inr s.2)) (fun k => ((best c).take k).map half) (best c).length (r := ((best c).take (best c).length).map half) (fun k hk => by
      dsimp only
      rw [ltI (by show (k : Int) < ((best c).length : Int); omega), cond_true, idxM_lt hk, Option.bind_some, divM_pos (by omega), Option.bind_some]
      refine bind_of (appM_of (by simp; omega)) ?_
      rw [wrap_in (by omega) (by omega), List.take_succ_eq_append_getElem hk, List.map_append]
      rfl) (by
      dsimp only
      rw [geI (by show ((best c).length : Int) ≤ ((best c).length : Int); omega), cond_false])
    rw [List.take_length] at L
    exact L
  have hl : ((best c).map half).length ≤ 16 := by rw [List.length_map]; exact hb
  have e1 : sortI ((best c).map half) = some (isortI ((best c).map half)) := by
    unfold sortI
    rw [decide_eq_true (by omega)]
  refine bind_of e1 ?_
  have hp := (isortI_perm ((best c).map half)).length_eq
  have e2 : compI (isortI ((best c).map half)) = some (blL c) := by
    unfold compI
    rw [decide_eq_true (by omega)]
    rfl
  exact bind_of e2 rfl
end Go.Proofs.Ytklddmmnggcffaa
/-
  Network: which points are tied.
  No conditions.
-/
namespace Go.Proofs.Ytklddmmnggcffaa
open Go Go.Abs Go.PE
set_option linter.unusedVariables false
theorem set_rowA {α : Type} {m j : Nat} {g : Nat → α} {y : α} (hj : j < m) : setM (row m g) (j : Int) (fun _ => some y) = some (row m fun a => if a = j then y else g a) := by
  unfold setM
  rw [row_idx hj]
  show some ((row m g).set ((j : Int)).toNat y) = _
  rw [Int.toNat_natCast, row_set hj]
end Go.Proofs.Ytklddmmnggcffaa
/-
  Network: the law NetworkSound.
  No conditions.
-/
namespace Go.Proofs.Ytklddmmnggcffaa
open Go Go.Abs Go.PE
set_option linter.unusedVariables false
structure Pot (c : Net) (gx gy : Nat → Int) : Prop where
  kx : ∀ a b : Nat, ∀ m : Int, ((a : Int), (b : Int), m) ∈ (axX c).2 → gx b - gx a ≤ m
  ky : ∀ a b : Nat, ∀ m : Int, ((a : Int), (b : Int), m) ∈ (axY c).2 → gy b - gy a ≤ m
theorem Pot.ok {c : Net} (h : NOK c) {gx gy : Nat → Int} (hp : Pot c gx gy) : okN c = true := by
  rw [okN_iff]
  constructor
  · cases ho : ovS (axX c) with
    | false => rfl
    | true =>
      obtain ⟨i, w, _, hw, hk⟩ := ov_walk (sysX h) ho
      have := keep_walk hp.kx hk
      omega
  · cases ho : ovS (axY c) with
    | false => rfl
    | true =>
      obtain ⟨i, w, _, hw, hk⟩ := ov_walk (sysY h) ho
      have := keep_walk hp.ky hk
      omega
end Go.Proofs.Ytklddmmnggcffaa
/-
  Network: bounds that are shifted by a number for each variable: distances, contradictions.
  No conditions.
-/
namespace Go.Proofs.Ytklddmmnggcffaa
open Go Go.Abs Go.PE
set_option linter.unusedVariables false
theorem Wk.shift {φ : Nat → Int} {bs bs' : List (Int × Int × Int)} (h : ∀ a b : Nat, ∀ m : Int, ((a : Int), (b : Int), m) ∈ bs → ((a : Int), (b : Int), m + φ b - φ a) ∈ bs') {i j : Nat} {w : Int} (hw : Wk bs i j w) : Wk bs' i j (w + φ j - φ i) := by
  induction hw with
  | nil =>
    rw [show (0 : Int) + φ i - φ i = 0 by omega]
    exact .nil i
  | @snoc a b w m _ hm ih =>
    have := ih.snoc (h a b m hm)
    rw [show w + m + φ b - φ i = w + φ a - φ i + (m + φ b - φ a) by omega]
    exact this
theorem WN.shift {φ : Nat → Int} {bs bs' : List (Int × Int × Int)} (h : ∀ a b : Nat, ∀ m : Int, ((a : Int), (b : Int), m) ∈ bs → ((a : Int), (b : Int), m + φ b - φ a) ∈ bs') {i j k : Nat} {w : Int} (hw : WN bs i j k w) : WN bs' i j k (w + φ j - φ i) := by
  induction hw with
  | nil i =>
    rw [show (0 : Int) + φ i - φ i = 0 by omega]
    exact .nil i
  | @cons i a j m c w hm _ ih =>
    have := WN.cons (h i a c hm) ih
    rw [show c + w + φ j - φ i = c + φ a - φ i + (w + φ j - φ a) by omega]
    exact this
structure Shf (x x' : Sys) (φ : Nat → Int) : Prop where
  n : x'.1 = x.1
  to : ∀ a b : Nat, ∀ m : Int, ((a : Int), (b : Int), m) ∈ x.2 → ((a : Int), (b : Int), m + φ b - φ a) ∈ x'.2
  of : ∀ a b : Nat, ∀ m : Int, ((a : Int), (b : Int), m) ∈ x'.2 → ((a : Int), (b : Int), m - φ b + φ a) ∈ x.2
theorem Shf.rev {x x' : Sys} {φ : Nat → Int} (h : Shf x x' φ) : Shf x' x (fun i => -φ i) :=
  ⟨h.n.symm, fun a b m hm => by have := h.of a b m hm; rw [show m + -φ b - -φ a = m - φ b + φ a by omega]; exact this,
    fun a b m hm => by have := h.to a b m hm; rw [show m - -φ b + -φ a = m + φ b - φ a by omega]; exact this⟩
theorem Shf.ov1 {x x' : Sys} {φ : Nat → Int} (h : Shf x x' φ) (hs : sys x = true) (hs' : sys x' = true) (ho : ovS x = true) : ovS x' = true := by
  obtain ⟨i, w, hi, hw, hk⟩ := ov_walk hs ho
  have := Wk.shift h.to hk
  exact ov_of_walk hs' (i := i) (by rw [h.n]; exact hi) (w := w + φ i - φ i) (by omega) this
theorem Shf.ov {x x' : Sys} {φ : Nat → Int} (h : Shf x x' φ) (hs : sys x = true) (hs' : sys x' = true) : ovS x' = ovS x := by
  cases e : ovS x with
  | true => exact h.ov1 hs hs' e
  | false =>
    cases e' : ovS x' with
    | false => rfl
    | true =>
      have := h.rev.ov1 hs' hs e'
      rw [e] at this
      cases this
theorem Shf.fw {x x' : Sys} {φ : Nat → Int} (h : Shf x x' φ) (hs : sys x = true) (hs' : sys x' = true) (ho : ovS x = false) {i j : Nat} (hi : i < x.1.toNat) (hj : j < x.1.toNat) : (fwS x i j = 1152921504606846976 ∧ fwS x' i j = 1152921504606846976) ∨ (fwS x i j ≠ 1152921504606846976 ∧ fwS x' i j ≠ 1152921504606846976 ∧ fwS x' i j = fwS x i j + φ j - φ i) := by
  have ho' : ovS x' = false := by rw [h.ov hs hs', ho]
  have hn := h.n
  rcases fw_cases hs ho hi hj with ⟨e, hno⟩ | ⟨e1, e2, e3, e4⟩
  · rcases fw_cases hs' ho' (i := i) (j := j) (by rw [hn]; exact hi) (by rw [hn]; exact hj) with ⟨e', _⟩ | ⟨_, _, e3', _⟩
    · exact .inl ⟨e, e'⟩
    · exact absurd (Wk.shift h.rev.to e3') (hno _)
  · rcases fw_cases hs' ho' (i := i) (j := j) (by rw [hn]; exact hi) (by rw [hn]; exact hj) with ⟨_, hno⟩ | ⟨e1', e2', e3', e4'⟩
    · exact absurd (Wk.shift h.to e3) (hno _)
    · have a1 := e4' _ (Wk.shift h.to e3)
      have a2 := e4 _ (Wk.shift h.rev.to e3')
      exact .inr ⟨by omega, by omega, by omega⟩
def shB (φ : Nat → Int) (b : Int × Int × Int) : Int × Int × Int := (b.1, b.2.1, b.2.2 + φ b.2.1.toNat - φ b.1.toNat)
theorem shf_map (x : Sys) (φ : Nat → Int) : Shf x (x.1, x.2.map (shB φ)) φ :=
  ⟨rfl, fun a b m hm => List.mem_map.2 ⟨_, hm, by unfold shB; simp⟩, fun a b m hm => by
    obtain ⟨c, hc, e⟩ := List.mem_map.1 hm
    unfold shB at e
    injection e with e1 e2
    injection e2 with e2 e3
    obtain ⟨c1, c2, c3⟩ := c
    dsimp only at e1 e2 e3
    subst e1
    subst e2
    rw [Int.toNat_natCast, Int.toNat_natCast] at e3
    have : m - φ b + φ a = c3 := by omega
    rw [this]
    exact hc⟩
theorem find_map {α β : Type} {f : α → β} {p' : β → Bool} {p : α → Bool} : ∀ {xs : List α}, (∀ c ∈ xs, p' (f c) = p c) → (xs.map f).findIdx? p' = xs.findIdx? p
  | [], _ => rfl
  | c :: r, h => by
    rw [List.map_cons, List.findIdx?_cons, List.findIdx?_cons, h c (List.mem_cons_self ..), find_map (xs := r) fun c hc => h c (List.mem_cons_of_mem _ hc)]
theorem find_congr {α : Type} {p q : α → Bool} : ∀ {xs : List α}, (∀ c ∈ xs, p c = q c) → xs.find? p = xs.find? q
  | [], _ => rfl
  | c :: r, h => by
    rw [List.find?_cons, List.find?_cons, h c (List.mem_cons_self ..), find_congr (xs := r) fun c hc => h c (List.mem_cons_of_mem _ hc)]
section
variable {n : Nat} {bs : List (Int × Int × Int)} {φ : Nat → Int} (hb : bs.all (bnd (n : Int)) = true) (hb' : (bs.map (shB φ)).all (bnd (n : Int)) = true) (hφ : ∀ i, -10000 ≤ φ i ∧ φ i ≤ 10000)
include hb hb'
theorem wkT_shift {m i j : Nat} (hm : m ≤ 1000) (hi : i < n) (hj : j < n) : (wkT bs m i j = 1152921504606846976 ∧ wkT (bs.map (shB φ)) m i j = 1152921504606846976) ∨ (wkT bs m i j ≠ 1152921504606846976 ∧ wkT (bs.map (shB φ)) m i j ≠ 1152921504606846976 ∧ wkT (bs.map (shB φ)) m i j = wkT bs m i j + φ j - φ i) := by
  have S := shf_map ((n : Int), bs) φ
  have to := S.to
  have of := S.rev.to
  dsimp only at to of
  by_cases e : wkT bs m i j = 1152921504606846976
  · by_cases e' : wkT (bs.map (shB φ)) m i j = 1152921504606846976
    · exact .inl ⟨e, e'⟩
    · have h1 := WN.shift of (wk_walk hb' hm hi hj e')
      have := (wk_le hb hm hi h1).2
      omega
  · have h1 := WN.shift to (wk_walk hb hm hi hj e)
    have h2 := wk_le hb' hm hi h1
    have e' : wkT (bs.map (shB φ)) m i j ≠ 1152921504606846976 := by omega
    have h3 := WN.shift of (wk_walk hb' hm hi hj e')
    have h4 := wk_le hb hm hi h3
    exact .inr ⟨e, e', by omega⟩
theorem cst_shift {m : Nat} (hm : m ≤ 999) {c : Int × Int × Int} (hc : c ∈ bs) : cst (bs.map (shB φ)) m (shB φ c) = cst bs m c := by
  rw [Bool.eq_iff_iff, cst_walk hb' hm (List.mem_map.2 ⟨c, hc, rfl⟩), cst_walk hb hm hc]
  have hcb := of_decide_eq_true (List.all_eq_true.1 hb _ hc)
  have hcb' := of_decide_eq_true (List.all_eq_true.1 hb' _ (List.mem_map.2 ⟨c, hc, rfl⟩))
  unfold shB at *
  dsimp only at *
  rcases wkT_shift hb hb' (m := m) (i := c.2.1.toNat) (j := c.1.toNat) (by omega) (by omega) (by omega) with ⟨e1, e2⟩ | ⟨e1, e2, e3⟩
  · unfold shB at e2
    rw [e1, e2]
    constructor <;> intro h <;> omega
  · unfold shB at e3
    rw [e3]
    constructor <;> intro h <;> omega
theorem cycM_shift : cycM (bs.map (shB φ)) = cycM bs := by
  unfold cycM
  rw [find_congr fun m hm => by
    have := List.mem_range.1 hm
    rw [find_map fun c hc => cst_shift hb hb' (by omega) hc]]
include hφ
theorem stp_shift {to m f : Nat} {q : Int} (hm : m ≤ 1000) (hf : f < n) (ht : to < n) (hq : q ≤ 100000000000000000) {c : Int × Int × Int} (hc : c ∈ bs) : stp (bs.map (shB φ)) to m f (q + φ to - φ f) (shB φ c) = stp bs to m f q c := by
  have hcb := of_decide_eq_true (List.all_eq_true.1 hb _ hc)
  have hcb' := of_decide_eq_true (List.all_eq_true.1 hb' _ (List.mem_map.2 ⟨c, hc, rfl⟩))
  have p1 := hφ to
  have p2 := hφ f
  unfold stp
  by_cases e : c.1 = (f : Int)
  · have e' : (shB φ c).1 = (f : Int) := e
    rw [decide_eq_true e, decide_eq_true e', Bool.true_and, Bool.true_and, Bool.eq_iff_iff, decide_eq_true_eq, decide_eq_true_eq]
    have ef : c.1.toNat = f := by omega
    have hb2 : (shB φ c).2.1 = c.2.1 := rfl
    have hb3 : (shB φ c).2.2 = c.2.2 + φ c.2.1.toNat - φ f := by unfold shB; dsimp only; rw [ef]
    rw [hb2]
    have hw := wk_sz hb (m := m) (i := c.2.1.toNat) (j := to) (by omega) (by omega) ht
    have hw' := wk_sz hb' (m := m) (i := c.2.1.toNat) (j := to) (by omega) (by omega) ht
    rcases wkT_shift hb hb' (m := m) (i := c.2.1.toNat) (j := to) (by omega) (by omega) ht with ⟨e1, e2⟩ | ⟨e1, e2, e3⟩
    · rw [e1, e2, far_pl, far_pl]
      constructor <;> intro h <;> omega
    · rw [pl_sz (by omega) (by omega), pl_sz (by omega) (by omega), e3, hb3]
      constructor <;> intro h <;> omega
  · have e' : ¬ (shB φ c).1 = (f : Int) := e
    rw [decide_eq_false e, decide_eq_false e']
    rfl
theorem chP_shift {to : Nat} (ht : to < n) : ∀ (m f : Nat) (q : Int), m ≤ 100 → f < n → q ≤ 10000000000000 - m * 1000000000 → chP (bs.map (shB φ)) to m f (q + φ to - φ f) = chP bs to m f q := by
  intro m
  induction m with
  | zero => intro f q _ _ _; rfl
  | succ m ih =>
    intro f q hm hf hq
    unfold chP
    rw [find_map fun c hc => stp_shift hb hb' hφ (by omega) hf ht (by omega) hc]
    cases hk : bs.findIdx? (stp bs to m f q) with
    | none => rfl
    | some k =>
      obtain ⟨hkl, hp, _⟩ := List.findIdx?_eq_some_iff_getElem.1 hk
      have hcb := of_decide_eq_true (List.all_eq_true.1 hb _ (List.getElem_mem hkl))
      have hc1 : bs[k].1 = (f : Int) := (stp_rest hb (by omega) ht (by omega) (List.getElem_mem hkl) hp).1
      have g1 : bs.getD k (0, 0, 0) = bs[k] := getD_of hkl
      have g2 : (bs.map (shB φ)).getD k (0, 0, 0) = shB φ bs[k] := by
        rw [getD_of (by rw [List.length_map]; exact hkl), List.getElem_map]
      dsimp only
      rw [g1, g2]
      have e1 : (shB φ bs[k]).2.1 = bs[k].2.1 := rfl
      have e2 : q + φ to - φ f - (shB φ bs[k]).2.2 = (q - bs[k].2.2) + φ to - φ bs[k].2.1.toNat := by
        unfold shB
        dsimp only
        have : bs[k].1.toNat = f := by omega
        rw [this]
        omega
      rw [e1, e2]
      rw [ih bs[k].2.1.toNat (q - bs[k].2.2) (by omega) (by omega) (by omega)]
theorem cycL_shift : cycL (bs.map (shB φ)) = cycL bs := by
  have h17 : cycM bs ≤ 16 := by
    unfold cycM
    cases hf : (List.range 17).find? fun m => (bs.findIdx? (cst bs m)).isSome with
    | none => decide
    | some m =>
      have := List.mem_range.1 (List.mem_of_find?_eq_some hf)
      show m ≤ 16
      omega
  unfold cycL
  rw [cycM_shift hb hb', find_map fun c hc => cst_shift hb hb' (by omega) hc]
  cases hk : bs.findIdx? (cst bs (cycM bs)) with
  | none => rfl
  | some k =>
    obtain ⟨hkl, _⟩ := of_cst hb (by omega) hk
    have hcb := of_decide_eq_true (List.all_eq_true.1 hb _ (List.getElem_mem hkl))
    have g1 : bs.getD k (0, 0, 0) = bs[k] := getD_of hkl
    have g2 : (bs.map (shB φ)).getD k (0, 0, 0) = shB φ bs[k] := by
      rw [getD_of (by rw [List.length_map]; exact hkl), List.getElem_map]
    dsimp only
    rw [g1, g2]
    have e1 : (shB φ bs[k]).2.1 = bs[k].2.1 := rfl
    have e2 : (shB φ bs[k]).1 = bs[k].1 := rfl
    have e3 : -1 - (shB φ bs[k]).2.2 = (-1 - bs[k].2.2) + φ bs[k].1.toNat - φ bs[k].2.1.toNat := by
      unfold shB
      dsimp only
      omega
    rw [e1, e2, e3, chP_shift hb hb' hφ (by omega) _ _ _ (by omega) (by omega) (by omega)]
end
end Go.Proofs.Ytklddmmnggcffaa
/-
  Determinants by expansion along the last row; what equal rows do. No program in sight.
  No conditions.
-/
namespace Go.Det
def sm : Nat → (Nat → Int) → Int
  | 0, _ => 0
  | n + 1, f => sm n f + f n
theorem sm_congr {f g : Nat → Int} : ∀ {n : Nat}, (∀ i, i < n → f i = g i) → sm n f = sm n g
  | 0, _ => rfl
  | n + 1, h => by
    show sm n f + f n = sm n g + g n
    rw [sm_congr (n := n) fun i hi => h i (by omega), h n (by omega)]
theorem sm_add (f g : Nat → Int) : ∀ n, sm n (fun i => f i + g i) = sm n f + sm n g
  | 0 => rfl
  | n + 1 => by
    show sm n (fun i => f i + g i) + (f n + g n) = sm n f + f n + (sm n g + g n)
    rw [sm_add f g n]
    omega
theorem sm_mul (c : Int) (f : Nat → Int) : ∀ n, sm n (fun i => c * f i) = c * sm n f
  | 0 => (Int.mul_zero c).symm
  | n + 1 => by
    show sm n (fun i => c * f i) + c * f n = c * (sm n f + f n)
    rw [sm_mul c f n, Int.mul_add]
theorem sm_neg (f : Nat → Int) (n : Nat) : sm n (fun i => -f i) = -sm n f := by
  have h := sm_mul (-1) f n
  rw [Int.neg_one_mul] at h
  rw [← h]
  exact sm_congr fun i _ => (Int.neg_one_mul (f i)).symm
theorem sm_zero {f : Nat → Int} : ∀ {n : Nat}, (∀ i, i < n → f i = 0) → sm n f = 0
  | 0, _ => rfl
  | n + 1, h => by
    show sm n f + f n = 0
    rw [sm_zero (n := n) fun i hi => h i (by omega), h n (by omega)]
    rfl
theorem sm_swap (f : Nat → Nat → Int) (m : Nat) : ∀ n, sm n (fun a => sm m (fun b => f a b)) = sm m (fun b => sm n (fun a => f a b))
  | 0 => (sm_zero fun _ _ => rfl).symm
  | n + 1 => by
    show sm n (fun a => sm m (fun b => f a b)) + sm m (fun b => f n b) = sm m (fun b => sm n (fun a => f a b) + f n b)
    rw [sm_swap f m n, sm_add]
def sg (n : Nat) : Int := if n % 2 = 0 then 1 else -1
theorem sg_succ (n : Nat) : sg (n + 1) = -sg n := by
  unfold sg
  by_cases h : n % 2 = 0
  · rw [if_pos h, if_neg (by omega)]
  · rw [if_neg h, if_pos (by omega)]; rfl
def skp (j c : Nat) : Nat := if c < j then c else c + 1
def unk (a b : Nat) : Nat := if b < a then b else b - 1
theorem skp_ne (j c : Nat) : skp j c ≠ j := by unfold skp; split <;> omega
theorem unk_skp (a l : Nat) : unk a (skp a l) = l := by
  unfold unk skp
  by_cases h : l < a
  · rw [if_pos h, if_pos h]
  · rw [if_neg h, if_neg (by omega)]; omega
theorem skp_lt {j c n : Nat} (h : c < n) : skp j c < n + 1 := by unfold skp; split <;> omega
theorem skp_two {a b : Nat} (h : a ≠ b) (c : Nat) : skp a (skp (unk a b) c) = skp b (skp (unk b a) c) := by
  unfold skp unk
  (repeat' split) <;> omega
theorem sm_skp (G : Nat → Int) (a : Nat) : ∀ n, a ≤ n → sm n (fun l => G (skp a l)) + G a = sm (n + 1) G
  | 0, h => by
    have : a = 0 := by omega
    subst this
    rfl
  | n + 1, h => by
    by_cases e : a = n + 1
    · subst e
      show _ = sm (n + 1) G + G (n + 1)
      rw [sm_congr (g := G) fun i hi => by unfold skp; rw [if_pos hi]]
    · have ih := sm_skp G a n (by omega)
      show sm n (fun l => G (skp a l)) + G (skp a n) + G a = sm (n + 1) G + G (n + 1)
      have hs : skp a n = n + 1 := by unfold skp; rw [if_neg (by omega)]
      rw [hs, ← ih]
      omega
abbrev Mx := Nat → Nat → Int
def dl (j : Nat) (A : Mx) : Mx := fun i c => A i (skp j c)
def det : Nat → Mx → Int
  | 0, _ => 1
  | n + 1, A => sm (n + 1) fun j => sg (n + j) * (A n j * det n (dl j A))
theorem det_congr : ∀ {n : Nat} {A B : Mx}, (∀ i, i < n → ∀ j, j < n → A i j = B i j) → det n A = det n B
  | 0, _, _, _ => rfl
  | n + 1, A, B, h => by
    refine sm_congr fun j hj => ?_
    rw [h n (by omega) j hj, det_congr (n := n) (A := dl j A) (B := dl j B) fun i hi c hc => h i (by omega) _ (skp_lt hc)]
def swr (p : Nat) (A : Mx) : Mx := fun i => A (if i = p then p + 1 else if i = p + 1 then p else i)
theorem det_two (k : Nat) (A : Mx) : det (k + 2) A = sm (k + 2) fun a => sm (k + 2) fun b => if b = a then 0 else sg (k + 1 + a) * sg (k + unk a b) * (A (k + 1) a * A k b * det k (dl (unk a b) (dl a A))) := by
  refine sm_congr fun a ha => ?_
  have hd : det (k + 1) (dl a A) = sm (k + 1) fun l => sg (k + l) * (A k (skp a l) * det k (dl l (dl a A))) := rfl
  rw [hd, ← Int.mul_assoc, ← sm_mul]
  have h := sm_skp (fun b => if b = a then 0 else sg (k + 1 + a) * sg (k + unk a b) * (A (k + 1) a * A k b * det k (dl (unk a b) (dl a A)))) a (k + 1) (by omega)
  rw [← h, if_pos rfl, Int.add_zero]
  refine sm_congr fun l hl => ?_
  rw [if_neg (skp_ne a l), unk_skp]
  generalize det k (dl l (dl a A)) = D
  generalize A (k + 1) a = u
  generalize A k (skp a l) = v
  generalize sg (k + 1 + a) = s
  generalize sg (k + l) = t
  grind
theorem det_swap : ∀ (n p : Nat) (A : Mx), p + 1 < n → det n (swr p A) = -det n A
  | 0, p, A, h => by omega
  | n + 1, p, A, h => by
    by_cases hp : p + 1 < n
    · show (sm (n + 1) fun j => sg (n + j) * (swr p A n j * det n (dl j (swr p A)))) = -(sm (n + 1) fun j => sg (n + j) * (A n j * det n (dl j A)))
      rw [← sm_neg]
      refine sm_congr fun j hj => ?_
      have h1 : swr p A n j = A n j := by unfold swr; rw [if_neg (by omega), if_neg (by omega)]
      have h2 : det n (dl j (swr p A)) = -det n (dl j A) := det_swap n p (dl j A) hp
      rw [h1, h2]
      grind
    · obtain ⟨k, rfl⟩ : ∃ k, n = k + 1 := ⟨n - 1, by omega⟩
      have e : p = k := by omega
      subst e
      rw [det_two, det_two, sm_swap, ← sm_neg]
      refine sm_congr fun b hb => ?_
      rw [← sm_neg]
      refine sm_congr fun a ha => ?_
      by_cases hab : a = b
      · rw [if_pos hab.symm, if_pos hab]; rfl
      · rw [if_neg (fun h => hab h.symm), if_neg hab]
        have h1 : swr p A (p + 1) a = A p a := by unfold swr; rw [if_neg (by omega), if_pos rfl]
        have h2 : swr p A p b = A (p + 1) b := by unfold swr; rw [if_pos rfl]
        have h3 : det p (dl (unk a b) (dl a (swr p A))) = det p (dl (unk b a) (dl b A)) := det_congr fun i hi c hc => by
          show swr p A i (skp a (skp (unk a b) c)) = A i (skp b (skp (unk b a) c))
          rw [skp_two hab]
          unfold swr
          rw [if_neg (by omega), if_neg (by omega)]
        have hs : sg (p + 1 + a) * sg (p + unk a b) = -(sg (p + 1 + b) * sg (p + unk b a)) := by
          unfold unk
          by_cases hlt : b < a
          · rw [if_pos hlt, if_neg (by omega)]
            have e1 : p + 1 + a = (p + (a - 1)) + 1 + 1 := by omega
            have e2 : p + 1 + b = (p + b) + 1 := by omega
            rw [e1, e2, sg_succ, sg_succ, sg_succ]
            grind
          · rw [if_neg hlt, if_pos (by omega)]
            have e1 : p + 1 + b = (p + (b - 1)) + 1 + 1 := by omega
            have e2 : p + 1 + a = (p + a) + 1 := by omega
            rw [e1, e2, sg_succ, sg_succ, sg_succ]
            grind
        rw [h1, h2, h3, hs]
        grind
theorem det_eqrow {n : Nat} : ∀ (d p : Nat) (A : Mx), p + d + 1 < n → (∀ j, A p j = A (p + d + 1) j) → det n A = 0
  | 0, p, A, h, e => by
    have h1 := det_swap n p A h
    have h2 : det n (swr p A) = det n A := det_congr fun i _ j _ => by
      show A (if i = p then p + 1 else if i = p + 1 then p else i) j = A i j
      by_cases e1 : i = p
      · rw [if_pos e1, e1]; exact (e j).symm
      · rw [if_neg e1]
        by_cases e2 : i = p + 1
        · rw [if_pos e2, e2]; exact e j
        · rw [if_neg e2]
    omega
  | d + 1, p, A, h, e => by
    have h1 := det_swap n (p + d + 1) A (by omega)
    have h2 := det_eqrow (n := n) d p (swr (p + d + 1) A) (by omega) fun j => by
      show A (if p = p + d + 1 then _ else if p = p + d + 1 + 1 then _ else p) j = A (if p + d + 1 = p + d + 1 then p + d + 1 + 1 else _) j
      rw [if_neg (by omega), if_neg (by omega), if_pos rfl]
      exact e j
    omega
def del (A : Mx) (k : Nat) : Int := det k A
def mn (A : Mx) (k x j : Nat) : Int := det (k + 1) fun i c => A (if i = k then x else i) (if c = k then j else c)
def kap (A : Mx) (k j c : Nat) : Int := sg (k + c) * det k (dl c fun i c => A i (if c = k then j else c))
theorem sg_dbl (k : Nat) : sg (k + k) = 1 := by unfold sg; rw [if_pos (by omega)]
theorem mn_row (A : Mx) (k x j : Nat) : mn A k x j = sm k (fun c => A x c * kap A k j c) + A x j * del A k := by
  have h : mn A k x j = sm k (fun c => sg (k + c) * (A (if k = k then x else k) (if c = k then j else c) * det k (dl c fun i c => A (if i = k then x else i) (if c = k then j else c)))) + sg (k + k) * (A (if k = k then x else k) (if k = k then j else k) * det k (dl k fun i c => A (if i = k then x else i) (if c = k then j else c))) := rfl
  rw [h]
  congr 1
  · refine sm_congr fun c hc => ?_
    rw [if_pos rfl, if_neg (by omega)]
    unfold kap
    have : det k (dl c fun i c => A (if i = k then x else i) (if c = k then j else c)) = det k (dl c fun i c => A i (if c = k then j else c)) := det_congr fun i hi c' _ => by
      show A (if i = k then x else i) _ = A i _
      rw [if_neg (by omega)]
    rw [this]
    grind
  · rw [if_pos rfl, if_pos rfl, sg_dbl, Int.one_mul]
    unfold del
    congr 1
    refine det_congr fun i hi c hc => ?_
    show A (if i = k then x else i) (if skp k c = k then j else skp k c) = A i c
    rw [if_neg (by omega), if_neg (skp_ne k c)]
    unfold skp
    rw [if_pos hc]
theorem mn_zero {A : Mx} {k r j : Nat} (h : r < k) : mn A k r j = 0 := by
  unfold mn
  refine det_eqrow (k - r - 1) r _ (by omega) fun c => ?_
  have e : r + (k - r - 1) + 1 = k := by omega
  rw [e]
  show A (if r = k then r else r) _ = A (if k = k then r else k) _
  rw [if_neg (by omega), if_pos rfl]
theorem del_succ (A : Mx) (k : Nat) : del A (k + 1) = mn A k k k := by
  unfold del mn
  refine det_congr fun i _ j _ => ?_
  have e1 : (if i = k then k else i) = i := by split <;> omega
  have e2 : (if j = k then k else j) = j := by split <;> omega
  rw [e1, e2]
end Go.Det
/-
  Elimination without fractions divides exactly. No program in sight.
  No conditions.
-/
namespace Go.Det
def dot (W : Nat) (u z : Nat → Int) : Int := sm W fun c => u c * z c
theorem sm_ext {f : Nat → Int} {k : Nat} : ∀ (n : Nat), k ≤ n → (∀ c, k ≤ c → c < n → f c = 0) → sm n f = sm k f
  | 0, h, _ => by
    have : k = 0 := by omega
    subst this
    rfl
  | n + 1, h, hz => by
    by_cases e : k = n + 1
    · rw [e]
    · show sm n f + f n = sm k f
      rw [hz n (by omega) (by omega), Int.add_zero]
      exact sm_ext n (by omega) fun c h1 h2 => hz c h1 (by omega)
theorem sm_part {f : Nat → Int} {k j W : Nat} (hk : k ≤ j) (hj : j < W) (hz : ∀ c, k ≤ c → c ≠ j → c < W → f c = 0) : sm W f = sm k f + f j := by
  rw [sm_ext (k := j + 1) W (by omega) fun c h1 h2 => hz c (by omega) (by omega) h2]
  show sm j f + f j = _
  rw [sm_ext (k := k) j hk fun c h1 h2 => hz c h1 (by omega) (by omega)]
theorem sm_one {d : Int} {g : Nat → Int} {i k : Nat} (hi : i < k) : sm k (fun c => (if i = c then d else 0) * g c) = d * g i := by
  rw [sm_part (k := 0) (j := i) (Nat.zero_le _) hi fun c _ h _ => by rw [if_neg (fun h' => h h'.symm), Int.zero_mul], if_pos rfl]
  show 0 + _ = _
  omega
def zv (A : Mx) (k j c : Nat) : Int := if c < k then -kap A k j c else if c = j then -del A k else 0
theorem dot_zv {A : Mx} {k j W : Nat} (u : Nat → Int) (hk : k ≤ j) (hj : j < W) : dot W u (zv A k j) = sm k (fun c => u c * -kap A k j c) + u j * -del A k := by
  unfold dot
  rw [sm_part hk hj fun c h1 h2 _ => by unfold zv; rw [if_neg (by omega), if_neg h2, Int.mul_zero]]
  congr 1
  · refine sm_congr fun c hc => ?_
    unfold zv
    rw [if_pos hc]
  · unfold zv
    rw [if_neg (by omega), if_pos rfl]
theorem dot_zv_A {A : Mx} {k j W : Nat} (x : Nat) (hk : k ≤ j) (hj : j < W) : dot W (A x) (zv A k j) = -mn A k x j := by
  rw [dot_zv (A x) hk hj, mn_row, sm_congr (g := fun c => -(A x c * kap A k j c)) fun c _ => Int.mul_neg _ _, sm_neg, Int.mul_neg]
  omega
theorem dot_lin (W : Nat) (u v z : Nat → Int) (p q : Int) : dot W (fun c => u c * p - q * v c) z = p * dot W u z - q * dot W v z := by
  unfold dot
  rw [← sm_mul, ← sm_mul, Int.sub_eq_add_neg, ← sm_neg, ← sm_add]
  refine sm_congr fun c _ => ?_
  grind
theorem dot_congr {W : Nat} {u v z : Nat → Int} (h : ∀ c, c < W → u c = v c) : dot W u z = dot W v z := sm_congr fun c hc => by rw [h c hc]
theorem dot_mul (W : Nat) (u z : Nat → Int) (d : Int) : dot W (fun c => d * u c) z = d * dot W u z := by
  unfold dot
  rw [← sm_mul]
  exact sm_congr fun c _ => Int.mul_assoc _ _ _
structure BS (A : Mx) (W n k : Nat) (m : Mx) : Prop where
  up : ∀ z, (∀ r, r < k → dot W (A r) z = 0) → ∀ i, i < k → dot W (m i) z = 0
  low : ∀ z, (∀ r, r < k → dot W (A r) z = 0) → ∀ x, k ≤ x → x < n → dot W (m x) z = del A k * dot W (A x) z
  su : ∀ i j, i < k → j < k → m i j = if i = j then del A k else 0
  sl : ∀ x j, k ≤ x → x < n → j < k → m x j = 0
theorem BS.start {A : Mx} {W n : Nat} {m : Mx} (h : ∀ i, i < n → ∀ j, j < W → m i j = A i j) : BS A W n 0 m where
  up := fun z _ i hi => absurd hi (Nat.not_lt_zero _)
  low := fun z _ x _ hx => by
    rw [dot_congr (h x hx)]
    exact (Int.one_mul _).symm
  su := fun i j hi => absurd hi (Nat.not_lt_zero _)
  sl := fun x j _ _ hj => absurd hj (Nat.not_lt_zero _)
theorem zv_ok {A : Mx} {k j W : Nat} (hk : k ≤ j) (hj : j < W) : ∀ r, r < k → dot W (A r) (zv A k j) = 0 := fun r hr => by
  rw [dot_zv_A r hk hj, mn_zero hr]; rfl
theorem BS.val_up {A : Mx} {W n k : Nat} {m : Mx} (h : BS A W n k m) (h0 : del A k ≠ 0) {i j : Nat} (hi : i < k) (hk : k ≤ j) (hj : j < W) : m i j = -kap A k j i := by
  have h1 := h.up _ (zv_ok hk hj) i hi
  rw [dot_zv (m i) hk hj, sm_congr (g := fun c => (if i = c then del A k else 0) * -kap A k j c) fun c hc => by rw [h.su i c hi hc], sm_one hi] at h1
  have h2 : del A k * (-kap A k j i) = del A k * m i j := by grind
  exact (Int.eq_of_mul_eq_mul_left h0 h2).symm
theorem BS.val_low {A : Mx} {W n k : Nat} {m : Mx} (h : BS A W n k m) (h0 : del A k ≠ 0) {x j : Nat} (hx : k ≤ x) (hn : x < n) (hk : k ≤ j) (hj : j < W) : m x j = mn A k x j := by
  have h1 := h.low _ (zv_ok hk hj) x hx hn
  rw [dot_zv (m x) hk hj, dot_zv_A x hk hj, sm_zero fun c hc => by rw [h.sl x c hx hn hc, Int.zero_mul]] at h1
  have h2 : del A k * m x j = del A k * mn A k x j := by grind
  exact Int.eq_of_mul_eq_mul_left h0 h2
theorem BS.pivot {A : Mx} {W n k : Nat} {m : Mx} (h : BS A W n k m) (h0 : del A k ≠ 0) (hk : k < n) (hW : n ≤ W) : m k k = del A (k + 1) := by
  rw [h.val_low h0 (Nat.le_refl k) hk (Nat.le_refl k) (by omega), del_succ]
def tt (m : Mx) (k i j : Nat) : Int := m i j * m k k - m i k * m k j
theorem BS.quot {A : Mx} {W n k : Nat} {m : Mx} (h : BS A W n k m) (h0 : del A k ≠ 0) (hk : k < n) (hW : n ≤ W) (hp : m k k ≠ 0) {i j : Nat} (hi : i < n) (hik : i ≠ k) (hj : j < W) : ∃ q, tt m k i j = del A k * q := by
  have hpiv := h.pivot h0 hk hW
  have h1 : del A (k + 1) ≠ 0 := by rw [← hpiv]; exact hp
  have hk0 : ∀ c, c < k → m k c = 0 := fun c hc => h.sl k c (Nat.le_refl k) hk hc
  have hz : ∀ z, (∀ r, r < k + 1 → dot W (A r) z = 0) → dot W (m k) z = 0 := fun z hz => by
    rw [h.low z (fun r hr => hz r (by omega)) k (Nat.le_refl k) hk, hz k (by omega), Int.mul_zero]
  have hd : ∀ z, dot W (tt m k i) z = m k k * dot W (m i) z - m i k * dot W (m k) z := fun z => dot_lin W (m i) (m k) z (m k k) (m i k)
  have htk : tt m k i k = 0 := by unfold tt; omega
  by_cases hjk : j ≤ k
  · by_cases e : j = k
    · subst e
      exact ⟨0, by rw [htk, Int.mul_zero]⟩
    · unfold tt
      rw [hk0 j (by omega), Int.mul_zero, Int.sub_zero]
      by_cases hik' : i < k
      · rw [h.su i j hik' (by omega)]
        by_cases hij : i = j
        · rw [if_pos hij]; exact ⟨_, rfl⟩
        · rw [if_neg hij, Int.zero_mul]; exact ⟨0, (Int.mul_zero _).symm⟩
      · rw [h.sl i j (by omega) hi (by omega), Int.zero_mul]
        exact ⟨0, (Int.mul_zero _).symm⟩
  · have hk1 : k + 1 ≤ j := by omega
    have ht := hd (zv A (k + 1) j)
    rw [hz _ (zv_ok hk1 hj), Int.mul_zero, Int.sub_zero, dot_zv _ hk1 hj] at ht
    by_cases hik' : i < k
    · rw [h.up _ (fun r hr => zv_ok hk1 hj r (by omega)) i hik', Int.mul_zero] at ht
      have hs : sm (k + 1) (fun c => tt m k i c * -kap A (k + 1) j c) = del A k * del A (k + 1) * -kap A (k + 1) j i := by
        rw [← sm_one (k := k + 1) (d := del A k * del A (k + 1)) (g := fun c => -kap A (k + 1) j c) (by omega : i < k + 1)]
        refine sm_congr fun c hc => ?_
        by_cases hck : c = k
        · rw [hck, htk, if_neg hik]
        · have e1 : tt m k i c = if i = c then del A k * del A (k + 1) else 0 := by
            unfold tt
            rw [hk0 c (by omega), h.su i c hik' (by omega), hpiv]
            by_cases hic : i = c
            · rw [if_pos hic, if_pos hic]; omega
            · rw [if_neg hic, if_neg hic]; omega
          rw [e1]
      rw [hs] at ht
      refine ⟨-kap A (k + 1) j i, Int.eq_of_mul_eq_mul_left h1 ?_⟩
      grind
    · have hxk : k + 1 ≤ i := by omega
      rw [h.low _ (fun r hr => zv_ok hk1 hj r (by omega)) i (by omega) hi, dot_zv_A i hk1 hj, hpiv] at ht
      have hs : sm (k + 1) (fun c => tt m k i c * -kap A (k + 1) j c) = 0 := sm_zero fun c hc => by
        by_cases hck : c = k
        · rw [hck, htk, Int.zero_mul]
        · have e1 : tt m k i c = 0 := by
            unfold tt
            rw [hk0 c (by omega), h.sl i c (by omega) hi (by omega)]
            omega
          rw [e1, Int.zero_mul]
      rw [hs] at ht
      refine ⟨mn A (k + 1) i j, Int.eq_of_mul_eq_mul_left h1 ?_⟩
      grind
theorem BS.next {A : Mx} {W n k : Nat} {m m' : Mx} (h : BS A W n k m) (h0 : del A k ≠ 0) (hk : k < n) (hW : n ≤ W) (e1 : ∀ j, j < W → m' k j = m k j) (e2 : ∀ i, i < n → i ≠ k → ∀ j, j < W → del A k * m' i j = tt m k i j) : BS A W n (k + 1) m' := by
  have hpiv := h.pivot h0 hk hW
  have hk0 : ∀ c, c < k → m k c = 0 := fun c hc => h.sl k c (Nat.le_refl k) hk hc
  have hz : ∀ z, (∀ r, r < k + 1 → dot W (A r) z = 0) → dot W (m k) z = 0 := fun z hz => by
    rw [h.low z (fun r hr => hz r (by omega)) k (Nat.le_refl k) hk, hz k (by omega), Int.mul_zero]
  have hd : ∀ i z, dot W (tt m k i) z = m k k * dot W (m i) z - m i k * dot W (m k) z := fun i z => dot_lin W (m i) (m k) z (m k k) (m i k)
  have hdm : ∀ i, i < n → i ≠ k → ∀ z, del A k * dot W (m' i) z = dot W (tt m k i) z := fun i hi hik z => by
    rw [← dot_mul]
    exact dot_congr (e2 i hi hik)
  refine ⟨fun z hr i hi => ?_, fun z hr x hx hn => ?_, fun i j hi hj => ?_, fun x j hx hn hj => ?_⟩
  · by_cases hik : i = k
    · subst hik
      rw [dot_congr e1]
      exact hz z hr
    · have := hdm i (by omega) hik z
      rw [hd, hz z hr, h.up z (fun r hr' => hr r (by omega)) i (by omega), Int.mul_zero, Int.mul_zero] at this
      exact (Int.mul_eq_zero.1 this).resolve_left h0
  · have := hdm x hn (by omega) z
    rw [hd, hz z hr, h.low z (fun r hr' => hr r (by omega)) x (by omega) hn, Int.mul_zero, hpiv] at this
    refine Int.eq_of_mul_eq_mul_left h0 ?_
    grind
  · by_cases hik : i = k
    · subst hik
      rw [e1 j (by omega)]
      by_cases hij : i = j
      · subst hij; rw [if_pos rfl, hpiv]
      · rw [if_neg hij, hk0 j (by omega)]
    · have := e2 i (by omega) hik j (by omega)
      refine Int.eq_of_mul_eq_mul_left h0 (this.trans ?_)
      by_cases hjk : j = k
      · subst hjk
        rw [if_neg hik]
        unfold tt
        omega
      · unfold tt
        rw [hk0 j (by omega), h.su i j (by omega) (by omega), hpiv]
        by_cases hij : i = j
        · rw [if_pos hij, if_pos hij]; omega
        · rw [if_neg hij, if_neg hij]; omega
  · have := e2 x hn (by omega) j (by omega)
    refine Int.eq_of_mul_eq_mul_left h0 (this.trans ?_)
    by_cases hjk : j = k
    · subst hjk
      unfold tt
      omega
    · unfold tt
      rw [hk0 j (by omega), h.sl x j (by omega) hn (by omega)]
      omega
end Go.Det
/-
  Elimination without fractions of a grounded Laplacian: signs and sizes. No program in sight.
  No conditions.
-/
namespace Go.Det
theorem sm_head (g : Nat → Int) : ∀ m, sm (m + 1) g = g 0 + sm m fun d => g (d + 1)
  | 0 => by show 0 + g 0 = g 0 + 0; omega
  | m + 1 => by
    show sm (m + 1) g + g (m + 1) = g 0 + (sm m (fun d => g (d + 1)) + g (m + 1))
    rw [sm_head g m]
    omega
def sr (k n : Nat) (f : Nat → Int) : Int := sm (n - k) fun d => f (k + d)
theorem sr_step {k n : Nat} {f : Nat → Int} (h : k < n) : sr k n f = f k + sr (k + 1) n f := by
  unfold sr
  obtain ⟨m, rfl⟩ : ∃ m, n = k + 1 + m := ⟨n - (k + 1), by omega⟩
  rw [show k + 1 + m - k = m + 1 by omega, show k + 1 + m - (k + 1) = m by omega, sm_head, Nat.add_zero]
  congr 1
  exact sm_congr fun d _ => by rw [show k + (d + 1) = k + 1 + d by omega]
theorem sr_congr {k n : Nat} {f g : Nat → Int} (h : ∀ x, k ≤ x → x < n → f x = g x) : sr k n f = sr k n g := sm_congr fun d hd => h _ (by omega) (by omega)
theorem sr_mul (c : Int) (k n : Nat) (f : Nat → Int) : sr k n (fun x => c * f x) = c * sr k n f := sm_mul c _ _
theorem sr_add (k n : Nat) (f g : Nat → Int) : sr k n (fun x => f x + g x) = sr k n f + sr k n g := sm_add _ _ _
theorem sr_neg (k n : Nat) (f : Nat → Int) : sr k n (fun x => -f x) = -sr k n f := sm_neg _ _
theorem sm_le {f g : Nat → Int} : ∀ {n : Nat}, (∀ i, i < n → f i ≤ g i) → sm n f ≤ sm n g
  | 0, _ => Int.le_refl _
  | n + 1, h => by
    have h1 := sm_le (n := n) fun i hi => h i (by omega)
    have h2 := h n (by omega)
    show sm n f + f n ≤ sm n g + g n
    omega
theorem sr_le {k n : Nat} {f g : Nat → Int} (h : ∀ x, k ≤ x → x < n → f x ≤ g x) : sr k n f ≤ sr k n g := sm_le fun d hd => h _ (by omega) (by omega)
theorem sr_pos {k n : Nat} {f : Nat → Int} (h : ∀ x, k ≤ x → x < n → 0 ≤ f x) : 0 ≤ sr k n f := by
  have := sr_le (k := k) (n := n) (f := fun _ => 0) (g := f) h
  have h0 : sr k n (fun _ => 0) = 0 := sm_zero fun _ _ => rfl
  omega
theorem sr_mem {n : Nat} {f : Nat → Int} : ∀ (d k : Nat), n - k = d → (∀ x, k ≤ x → x < n → 0 ≤ f x) → ∀ x, k ≤ x → x < n → f x ≤ sr k n f
  | 0, k, hd, _, x, h1, h2 => by omega
  | d + 1, k, hd, h, x, h1, h2 => by
    rw [sr_step (by omega)]
    have hp : 0 ≤ sr (k + 1) n f := sr_pos fun y h3 h4 => h y (by omega) h4
    have h0 := h k (Nat.le_refl k) (by omega)
    by_cases e : x = k
    · subst e; omega
    · have := sr_mem d (k + 1) (by omega) (fun y h3 h4 => h y (by omega) h4) x (by omega) h2
      omega
def ab (x : Int) : Int := max x (-x)
theorem ab_pos (x : Int) : 0 ≤ ab x := by unfold ab; omega
theorem ab_le (x : Int) : x ≤ ab x ∧ -x ≤ ab x := by unfold ab; omega
theorem ab_mul (x y : Int) : ab (x * y) = ab x * ab y := by
  unfold ab
  rcases Int.le_total 0 x with h | h <;> rcases Int.le_total 0 y with h' | h'
  · have := Int.mul_nonneg h h'
    rw [Int.max_eq_left (by omega), Int.max_eq_left (by omega), Int.max_eq_left (by omega)]
  · have := Int.mul_nonneg h (Int.neg_nonneg.2 h')
    rw [Int.mul_neg] at this
    rw [Int.max_eq_right (by omega), Int.max_eq_left (by omega), Int.max_eq_right (by omega), Int.mul_neg]
  · have := Int.mul_nonneg (Int.neg_nonneg.2 h) h'
    rw [Int.neg_mul] at this
    rw [Int.max_eq_right (by omega), Int.max_eq_right (by omega), Int.max_eq_left (by omega), Int.neg_mul]
  · have := Int.mul_nonneg (Int.neg_nonneg.2 h) (Int.neg_nonneg.2 h')
    rw [Int.neg_mul_neg] at this
    rw [Int.max_eq_left (by omega), Int.max_eq_right (by omega), Int.max_eq_right (by omega), Int.neg_mul_neg]
theorem ab_sub (x y : Int) : ab (x - y) ≤ ab x + ab y := by unfold ab; omega
structure LB (A : Mx) (n W k : Nat) (B : Int) (m : Mx) : Prop where
  s1 : ∀ x j, k ≤ x → x < n → k ≤ j → j < n → m x j = m j x
  s2 : ∀ x j, k ≤ x → x < n → k ≤ j → j < n → x ≠ j → m x j ≤ 0
  s3 : ∀ x, k ≤ x → x < n → 0 ≤ sr k n (m x)
  s4 : ∀ x, k ≤ x → x < n → m x x ≤ del A k * A x x
  u1 : ∀ i j, i < k → k ≤ j → j < n → m i j ≤ 0
  u2 : ∀ i, i < k → 0 ≤ del A k + sr k n (m i)
  r1 : ∀ c, n ≤ c → c < W → sr k n (fun x => ab (m x c)) ≤ del A k * B
theorem LB.diag {A : Mx} {n W k : Nat} {B : Int} {m : Mx} (h : LB A n W k B m) (hk : k < n) : sr (k + 1) n (m k) ≤ 0 ∧ 0 ≤ m k k := by
  have h3 := h.s3 k (Nat.le_refl k) hk
  rw [sr_step hk] at h3
  have hp : 0 ≤ sr (k + 1) n (fun j => -m k j) := sr_pos fun j h1 h2 => by
    have := h.s2 k j (Nat.le_refl k) hk (by omega) h2 (by omega)
    omega
  rw [sr_neg] at hp
  omega
theorem LB.zero {A : Mx} {n W k : Nat} {B : Int} {m : Mx} (h : LB A n W k B m) (hk : k < n) (h0 : m k k = 0) : ∀ x, k ≤ x → x < n → m x k = 0 := fun x hx hn => by
  rw [h.s1 x k hx hn (Nat.le_refl k) hk]
  by_cases e : x = k
  · rw [e]; exact h0
  · have h3 := h.s3 k (Nat.le_refl k) hk
    rw [sr_step hk, h0] at h3
    have hall : ∀ j, k + 1 ≤ j → j < n → 0 ≤ -m k j := fun j h1 h2 => by
      have := h.s2 k j (Nat.le_refl k) hk (by omega) h2 (by omega)
      omega
    have := sr_mem (f := fun j => -m k j) _ (k + 1) rfl hall x (by omega) hn
    rw [sr_neg] at this
    have := hall x (by omega) hn
    omega
theorem LB.next {A : Mx} {n W k : Nat} {B : Int} {m m' : Mx} (h : LB A n W k B m) (hk : k < n) (hd : 0 < del A k) (hpd : m k k = del A (k + 1)) (hp : 0 < m k k) (e1 : ∀ j, j < W → m' k j = m k j) (e2 : ∀ i, i < n → i ≠ k → ∀ j, j < W → del A k * m' i j = tt m k i j) (hW : n ≤ W) : LB A n W (k + 1) B m' := by
  have hk3 := h.s3 k (Nat.le_refl k) hk
  rw [sr_step hk] at hk3
  have hoff : ∀ x, k + 1 ≤ x → x < n → m x k ≤ 0 := fun x h1 h2 => h.s2 x k (by omega) h2 (Nat.le_refl k) hk (by omega)
  have hoff2 : ∀ j, k + 1 ≤ j → j < n → m k j ≤ 0 := fun j h1 h2 => h.s2 k j (Nat.le_refl k) hk (by omega) h2 (by omega)
  have hsum : ∀ i, i < n → i ≠ k → del A k * sr (k + 1) n (m' i) = m k k * sr (k + 1) n (m i) - m i k * sr (k + 1) n (m k) := fun i hi hik => by
    rw [← sr_mul, ← sr_mul, ← sr_mul, Int.sub_eq_add_neg, ← sr_neg, ← sr_add]
    refine sr_congr fun j h1 h2 => ?_
    rw [e2 i hi hik j (by omega)]
    unfold tt
    grind
  rw [hpd] at hp hk3 hsum
  have cancel : ∀ {a b : Int}, del A k * a ≤ del A k * b → a ≤ b := fun h => Int.le_of_mul_le_mul_left h hd
  refine ⟨fun x j hx hn hj hjn => ?_, fun x j hx hn hj hjn hne => ?_, fun x hx hn => ?_, fun x hx hn => ?_, fun i j hi hj hjn => ?_, fun i hi => ?_, fun c hc hcW => ?_⟩
  · have a1 := e2 x hn (by omega) j (by omega)
    have a2 := e2 j hjn (by omega) x (by omega)
    refine Int.eq_of_mul_eq_mul_left (by omega : del A k ≠ 0) (a1.trans (Eq.trans ?_ a2.symm))
    unfold tt
    rw [h.s1 x j (by omega) hn (by omega) hjn, h.s1 x k (by omega) hn (Nat.le_refl k) hk, h.s1 k j (Nat.le_refl k) hk (by omega) hjn, Int.mul_comm (m k x)]
  · have a1 := e2 x hn (by omega) j (by omega)
    refine cancel ?_
    rw [a1, Int.mul_zero]
    unfold tt
    rw [hpd]
    have q1 := Int.mul_nonneg (Int.neg_nonneg.2 (h.s2 x j (by omega) hn (by omega) hjn hne)) (Int.le_of_lt hp)
    have q2 := Int.mul_nonneg (Int.neg_nonneg.2 (hoff x hx hn)) (Int.neg_nonneg.2 (hoff2 j hj hjn))
    rw [Int.neg_mul] at q1
    rw [Int.neg_mul_neg] at q2
    omega
  · refine cancel ?_
    rw [hsum x hn (by omega), Int.mul_zero]
    have h3 := h.s3 x (by omega) hn
    rw [sr_step hk] at h3
    have q1 := Int.mul_nonneg (Int.le_of_lt hp) h3
    have q2 := Int.mul_nonneg (Int.neg_nonneg.2 (hoff x hx hn)) hk3
    grind
  · refine cancel ?_
    rw [e2 x hn (by omega) x (by omega)]
    unfold tt
    rw [hpd, h.s1 k x (Nat.le_refl k) hk (by omega) hn]
    have q1 := Int.mul_le_mul_of_nonneg_right (h.s4 x (by omega) hn) (Int.le_of_lt hp)
    have q2 : 0 ≤ m x k * m x k := by
      have := Int.mul_nonneg (Int.neg_nonneg.2 (hoff x hx hn)) (Int.neg_nonneg.2 (hoff x hx hn))
      rwa [Int.neg_mul_neg] at this
    grind
  · by_cases hik : i = k
    · subst hik
      rw [e1 j (by omega)]
      exact hoff2 j hj hjn
    · refine cancel ?_
      rw [e2 i (by omega) hik j (by omega), Int.mul_zero]
      unfold tt
      rw [hpd]
      have q1 := Int.mul_nonneg (Int.neg_nonneg.2 (h.u1 i j (by omega) (by omega) hjn)) (Int.le_of_lt hp)
      have q2 := Int.mul_nonneg (Int.neg_nonneg.2 (h.u1 i k (by omega) (Nat.le_refl k) hk)) (Int.neg_nonneg.2 (hoff2 j hj hjn))
      rw [Int.neg_mul] at q1
      rw [Int.neg_mul_neg] at q2
      omega
  · by_cases hik : i = k
    · subst hik
      rw [sr_congr (g := m i) fun j h1 h2 => e1 j (by omega)]
      omega
    · refine cancel ?_
      rw [Int.mul_zero, Int.mul_add, hsum i (by omega) hik]
      have h3 := h.u2 i (by omega)
      rw [sr_step hk] at h3
      have q1 := Int.mul_nonneg (Int.le_of_lt hp) h3
      have q2 := Int.mul_nonneg (Int.neg_nonneg.2 (h.u1 i k (by omega) (Nat.le_refl k) hk)) hk3
      grind
  · refine cancel ?_
    have h1 := h.r1 c hc hcW
    rw [sr_step hk] at h1
    have hb : del A k * sr (k + 1) n (fun x => ab (m' x c)) ≤ del A (k + 1) * sr (k + 1) n (fun x => ab (m x c)) + ab (m k c) * -sr (k + 1) n (m k) := by
      rw [← sr_mul, ← sr_mul, ← sr_neg, ← sr_mul, ← sr_add]
      refine sr_le fun x hx hn => ?_
      have a1 := e2 x hn (by omega) c hcW
      have a2 : del A k * ab (m' x c) = ab (tt m k x c) := by
        rw [← a1, ab_mul]
        congr 1
        unfold ab
        omega
      rw [a2]
      unfold tt
      refine Int.le_trans (ab_sub _ _) ?_
      rw [ab_mul, ab_mul, hpd]
      have b1 : ab (del A (k + 1)) = del A (k + 1) := by unfold ab; omega
      have b2 : ab (m x k) = -m k x := by
        rw [h.s1 k x (Nat.le_refl k) hk (by omega) hn]
        have := hoff x hx hn
        unfold ab; omega
      rw [b1, b2, Int.mul_comm (ab (m x c)), Int.mul_comm (-m k x)]
      exact Int.le_refl _
    have q1 := Int.mul_nonneg (ab_pos (m k c)) hk3
    have q2 := Int.mul_le_mul_of_nonneg_left h1 (Int.le_of_lt hp)
    refine Int.le_trans hb ?_
    grind
end Go.Det
/-
  Elimination without fractions of a grounded Laplacian: how large its numbers get. No program in sight.
  No conditions.
-/
namespace Go.Det
theorem two_pow : ∀ a : Nat, 8 * (a * a) ≤ 9 * 2 ^ a
  | 0 => by decide
  | 1 => by decide
  | 2 => by decide
  | 3 => by decide
  | a + 4 => by
    have ih := two_pow (a + 3)
    have h2 : 2 ^ (a + 4) = 2 * 2 ^ (a + 3) := by rw [show a + 4 = a + 3 + 1 from rfl, Nat.pow_succ]; omega
    rw [h2]
    generalize 2 ^ (a + 3) = P at *
    have e1 : (a + 4) * (a + 4) = a * a + 8 * a + 16 := by grind
    have e2 : (a + 3) * (a + 3) = a * a + 6 * a + 9 := by grind
    rw [e1]
    rw [e2] at ih
    omega
def pd (a : Nat → Nat) : Nat → Nat
  | 0 => 1
  | k + 1 => pd a k * a k
def sd (a : Nat → Nat) : Nat → Nat
  | 0 => 0
  | k + 1 => sd a k + a k
theorem pd_pow (a : Nat → Nat) : ∀ k, 8 ^ k * (pd a k * pd a k) ≤ 9 ^ k * 2 ^ sd a k
  | 0 => by show 1 * (1 * 1) ≤ 1 * 1; decide
  | k + 1 => by
    have ih := pd_pow a k
    have h := two_pow (a k)
    have := Nat.mul_le_mul ih h
    show 8 ^ (k + 1) * (pd a k * a k * (pd a k * a k)) ≤ 9 ^ (k + 1) * 2 ^ (sd a k + a k)
    rw [Nat.pow_succ, Nat.pow_succ, Nat.pow_add]
    calc 8 ^ k * 8 * (pd a k * a k * (pd a k * a k)) = 8 ^ k * (pd a k * pd a k) * (8 * (a k * a k)) := by grind
      _ ≤ 9 ^ k * 2 ^ sd a k * (9 * 2 ^ a k) := this
      _ = 9 ^ k * 9 * (2 ^ sd a k * 2 ^ a k) := by grind
theorem pd_le {a : Nat → Nat} {k : Nat} (hk : k ≤ 8) (hs : sd a k ≤ 40) : pd a k ≤ 1679616 := by
  have h := pd_pow a k
  have h1 : (2 : Nat) ^ sd a k ≤ 2 ^ 40 := Nat.pow_le_pow_right (by decide) hs
  have h2 : 8 ^ (8 - k) * 8 ^ k = 8 ^ 8 := by rw [← Nat.pow_add]; congr 1; omega
  have h3 : 8 ^ (8 - k) * 9 ^ k ≤ 9 ^ 8 := by
    have e : 9 ^ (8 - k) * 9 ^ k = 9 ^ 8 := by rw [← Nat.pow_add]; congr 1; omega
    rw [← e]
    exact Nat.mul_le_mul_right _ (Nat.pow_le_pow_left (by decide) _)
  have h4 : 8 ^ 8 * (pd a k * pd a k) ≤ 9 ^ 8 * 2 ^ 40 := by
    calc 8 ^ 8 * (pd a k * pd a k) = 8 ^ (8 - k) * (8 ^ k * (pd a k * pd a k)) := by rw [← h2, Nat.mul_assoc]
      _ ≤ 8 ^ (8 - k) * (9 ^ k * 2 ^ sd a k) := Nat.mul_le_mul_left _ h
      _ = 8 ^ (8 - k) * 9 ^ k * 2 ^ sd a k := (Nat.mul_assoc _ _ _).symm
      _ ≤ 9 ^ 8 * 2 ^ 40 := Nat.mul_le_mul h3 h1
  refine Nat.not_lt.1 fun hlt => ?_
  have h5 : 1679617 * 1679617 ≤ pd a k * pd a k := Nat.mul_le_mul hlt hlt
  have h6 : (8 : Nat) ^ 8 = 16777216 := by decide
  have h7 : (9 : Nat) ^ 8 = 43046721 := by decide
  have h8 : (2 : Nat) ^ 40 = 1099511627776 := by decide
  rw [h6, h7, h8] at h4
  omega
structure LZ (A : Mx) (n W k : Nat) (B : Int) (a : Nat → Nat) (m : Mx) : Prop where
  le : del A k ≤ pd a k
  rh : ∀ i c, i < k → n ≤ c → c < W → ab (m i c) ≤ k * pd a k * B
theorem LZ.next {A : Mx} {n W k : Nat} {B : Int} {a : Nat → Nat} {m m' : Mx} (ha : ∀ x, x < n → A x x = a x) (hB : 0 ≤ B) (hz : LZ A n W k B a m) (h : LB A n W k B m) (hk : k < n) (hd : 0 < del A k) (hpd : m k k = del A (k + 1)) (hp : 0 < m k k) (e1 : ∀ j, j < W → m' k j = m k j) (e2 : ∀ i, i < n → i ≠ k → ∀ j, j < W → del A k * m' i j = tt m k i j) (hW : n ≤ W) : LZ A n W (k + 1) B a m' := by
  have h4 := h.s4 k (Nat.le_refl k) hk
  rw [ha k hk] at h4
  have hak : (1 : Int) ≤ a k := by
    refine Int.not_lt.1 fun hlt => ?_
    have e : (a k : Int) = 0 := by omega
    rw [e, Int.mul_zero] at h4
    omega
  have hpk : del A k * (a k : Int) ≤ (pd a k : Int) * (a k : Int) := Int.mul_le_mul_of_nonneg_right hz.le (by omega)
  have hpe : ((pd a (k + 1) : Nat) : Int) = (pd a k : Int) * (a k : Int) := by
    show ((pd a k * a k : Nat) : Int) = _
    exact Int.natCast_mul _ _
  have hPP : (pd a k : Int) ≤ (pd a k : Int) * (a k : Int) := by
    have := Int.mul_le_mul_of_nonneg_left hak (Int.natCast_nonneg (pd a k))
    rwa [Int.mul_one] at this
  have hPB : 0 ≤ (pd a k : Int) * (a k : Int) * B := Int.mul_nonneg (Int.mul_nonneg (Int.natCast_nonneg _) (by omega)) hB
  refine ⟨by rw [hpe, ← hpd]; omega, fun i c hi hc hcW => ?_⟩
  have hmk : ab (m k c) ≤ (pd a k : Int) * B := by
    have h1 := h.r1 c hc hcW
    have h2 := sr_mem (f := fun x => ab (m x c)) _ k rfl (fun x _ _ => ab_pos _) k (Nat.le_refl k) hk
    have h3 := Int.mul_le_mul_of_nonneg_right hz.le hB
    omega
  have hle : (pd a k : Int) * B ≤ (pd a k : Int) * (a k : Int) * B := Int.mul_le_mul_of_nonneg_right hPP hB
  rw [hpe]
  have hcast : ((k + 1 : Nat) : Int) = (k : Int) + 1 := by omega
  rw [hcast]
  by_cases hik : i = k
  · subst hik
    rw [e1 c hcW]
    have : 0 ≤ (i : Int) * ((pd a i : Int) * (a i : Int) * B) := Int.mul_nonneg (by omega) hPB
    grind
  · have hi' : i < k := by omega
    have a1 := e2 i (by omega) hik c hcW
    have a2 : del A k * ab (m' i c) = ab (tt m k i c) := by
      rw [← a1, ab_mul]
      congr 1
      unfold ab
      omega
    have hmik : ab (m i k) ≤ del A k := by
      have u1 := h.u1 i k hi' (Nat.le_refl k) hk
      have u2 := h.u2 i hi'
      have := sr_mem (f := fun j => -m i j) _ k rfl (fun j h1 h2 => by have := h.u1 i j hi' h1 h2; omega) k (Nat.le_refl k) hk
      rw [sr_neg] at this
      unfold ab; omega
    have hb : ab (tt m k i c) ≤ ab (m i c) * m k k + ab (m i k) * ab (m k c) := by
      unfold tt
      refine Int.le_trans (ab_sub _ _) ?_
      rw [ab_mul, ab_mul]
      have b1 : ab (m k k) = m k k := by unfold ab; omega
      rw [b1]
      exact Int.le_refl _
    have g1 : ab (m i c) * m k k ≤ ab (m i c) * (del A k * (a k : Int)) := Int.mul_le_mul_of_nonneg_left h4 (ab_pos _)
    have g2 : ab (m i k) * ab (m k c) ≤ del A k * ab (m k c) := Int.mul_le_mul_of_nonneg_right hmik (ab_pos _)
    have g3 : del A k * ab (m' i c) ≤ del A k * (ab (m i c) * (a k : Int) + ab (m k c)) := by grind
    have g4 := Int.le_of_mul_le_mul_left g3 hd
    have g5 := Int.mul_le_mul_of_nonneg_right (hz.rh i c hi' hc hcW) (by omega : (0 : Int) ≤ a k)
    grind
end Go.Det
/-
  Elimination without fractions of a grounded Laplacian: all steps together. No program in sight.
  No conditions.
-/
namespace Go.Det
structure Lap (A : Mx) (n W : Nat) (B : Int) (a : Nat → Nat) : Prop where
  hW : n ≤ W
  hn : n ≤ 8
  hB : 40 ≤ B
  hB2 : B ≤ 50000
  sy : ∀ x j, x < n → j < n → A x j = A j x
  of : ∀ x j, x < n → j < n → x ≠ j → A x j ≤ 0
  rs : ∀ x, x < n → 0 ≤ sm n (A x)
  dg : ∀ x, x < n → A x x = a x
  sd : sd a n ≤ 40
  rh : ∀ c, n ≤ c → c < W → sm n (fun x => ab (A x c)) ≤ B
theorem sr_zero (n : Nat) (f : Nat → Int) : sr 0 n f = sm n f := by
  unfold sr
  exact sm_congr fun d _ => by rw [Nat.zero_add]
theorem Lap.lb {A : Mx} {n W : Nat} {B : Int} {a : Nat → Nat} (h : Lap A n W B a) : LB A n W 0 B A where
  s1 := fun x j _ hx _ hj => h.sy x j hx hj
  s2 := fun x j _ hx _ hj hne => h.of x j hx hj hne
  s3 := fun x _ hx => by rw [sr_zero]; exact h.rs x hx
  s4 := fun x _ _ => by show A x x ≤ 1 * A x x; omega
  u1 := fun i j hi => absurd hi (Nat.not_lt_zero _)
  u2 := fun i hi => absurd hi (Nat.not_lt_zero _)
  r1 := fun c hc hcW => by
    rw [sr_zero]
    have := h.rh c hc hcW
    show _ ≤ 1 * B
    omega
def stt (A : Mx) (n : Nat) : Nat → Mx
  | 0 => A
  | k + 1 => fun i j => if i = k ∨ n ≤ i then stt A n k i j else (tt (stt A n k) k i j).tdiv (del A k)
theorem run_ok {A : Mx} {n W : Nat} {B : Int} {a : Nat → Nat} (h : Lap A n W B a) : ∀ k, k ≤ n → (∀ l, l < k → del A (l + 1) ≠ 0) → BS A W n k (stt A n k) ∧ LB A n W k B (stt A n k) ∧ LZ A n W k B a (stt A n k) ∧ 0 < del A k
  | 0, _, _ => ⟨BS.start fun _ _ _ _ => rfl, h.lb, ⟨by show (1 : Int) ≤ 1; decide, fun i c hi => absurd hi (Nat.not_lt_zero _)⟩, by show (0 : Int) < 1; decide⟩
  | k + 1, hk, hne => by
    obtain ⟨b, l, z, d⟩ := run_ok h k (by omega) fun l hl => hne l (by omega)
    have d0 : del A k ≠ 0 := by omega
    have hpd := b.pivot d0 (by omega) h.hW
    have hp0 : stt A n k k k ≠ 0 := by rw [hpd]; exact hne k (by omega)
    have hp : 0 < stt A n k k k := by have := (l.diag (by omega)).2; omega
    have e1 : ∀ j, j < W → stt A n (k + 1) k j = stt A n k k j := fun j _ => if_pos (.inl rfl)
    have e2 : ∀ i, i < n → i ≠ k → ∀ j, j < W → del A k * stt A n (k + 1) i j = tt (stt A n k) k i j := fun i hi hik j hj => by
      obtain ⟨q, hq⟩ := b.quot d0 (by omega) h.hW hp0 hi hik hj
      have : stt A n (k + 1) i j = (tt (stt A n k) k i j).tdiv (del A k) := if_neg (by omega)
      rw [this, hq, Int.mul_tdiv_cancel_left _ d0]
    exact ⟨b.next d0 (by omega) h.hW e1 e2, l.next (by omega) d hpd hp e1 e2 h.hW, z.next h.dg (by have := h.hB; omega) l (by omega) d hpd hp e1 e2 h.hW, by rw [← hpd]; exact hp⟩
theorem sd_mono (a : Nat → Nat) {k : Nat} : ∀ n, k ≤ n → sd a k ≤ sd a n
  | 0, h => by have : k = 0 := by omega
               subst this; exact Nat.le_refl _
  | n + 1, h => by
    by_cases e : k = n + 1
    · rw [e]; exact Nat.le_refl _
    · have := sd_mono a (k := k) n (by omega)
      show _ ≤ sd a n + a n
      omega
theorem sd_mem (a : Nat → Nat) {x : Nat} : ∀ n, x < n → a x ≤ sd a n
  | n + 1, h => by
    show _ ≤ sd a n + a n
    by_cases e : x = n
    · rw [e]; omega
    · have := sd_mem a (x := x) n (by omega)
      omega
theorem sr_but {f : Nat → Int} {k n x : Nat} (hx : k ≤ x) (hn : x < n) : sr k n (fun y => if y = x then 0 else -f y) + sr k n f = f x := by
  rw [← sr_add]
  unfold sr
  rw [sm_part (k := 0) (j := x - k) (Nat.zero_le _) (by omega) fun c _ hne' hc => by
    show (if k + c = x then 0 else -f (k + c)) + f (k + c) = 0
    rw [if_neg (by omega)]; omega]
  show 0 + ((if k + (x - k) = x then 0 else -f (k + (x - k))) + f (k + (x - k))) = f x
  rw [show k + (x - k) = x by omega, if_pos rfl]
  omega
theorem sizes {A : Mx} {n W k : Nat} {B : Int} {a : Nat → Nat} {m : Mx} (h : Lap A n W B a) (b : BS A W n k m) (l : LB A n W k B m) (z : LZ A n W k B a m) (d : 0 < del A k) (hk : k ≤ n) :
    del A k ≤ 1679616 ∧ (∀ i j, i < n → j < W → ab (m i j) ≤ 671846400000) ∧ (∀ x j, k ≤ x → x < n → j < W → ab (m x j) ≤ 83980800000) ∧ (∀ i, i < n → k < n → ab (m i k) ≤ 67184640) := by
  have hn := h.hn
  have hW := h.hW
  have hB := h.hB
  have hB2 := h.hB2
  have hq : (pd a k : Int) ≤ 1679616 := by
    have := pd_le (a := a) (k := k) (by omega) (Nat.le_trans (sd_mono a n hk) h.sd)
    omega
  have hd : del A k ≤ 1679616 := Int.le_trans z.le hq
  have diag : ∀ x, k ≤ x → x < n → m x x ≤ 67184640 := fun x hx hxn => by
    have h4 := l.s4 x hx hxn
    rw [h.dg x hxn] at h4
    have ha := sd_mem a n hxn
    have hs := h.sd
    have := Int.mul_le_mul hd (show (a x : Int) ≤ 40 by omega) (by omega) (by omega)
    omega
  have off : ∀ x j, k ≤ x → x < n → k ≤ j → j < n → x ≠ j → ab (m x j) ≤ m x x := fun x j hx hxn hj hjn hne => by
    have h2 := l.s2 x j hx hxn hj hjn hne
    have h3 := l.s3 x hx hxn
    have hz : ∀ y, k ≤ y → y < n → 0 ≤ (fun y => if y = x then 0 else -m x y) y := fun y h1 h2 => by
      dsimp only
      by_cases e : y = x
      · rw [if_pos e]; exact Int.le_refl _
      · rw [if_neg e]
        have := l.s2 x y hx hxn h1 h2 fun h => e h.symm
        omega
    have h5 := sr_mem (f := fun y => if y = x then 0 else -m x y) _ k rfl hz j hj hjn
    have h6 : sr k n (fun y => if y = x then 0 else -m x y) + sr k n (m x) ≤ m x x := by
      exact Int.le_of_eq (sr_but hx hxn)
    rw [if_neg (fun h => hne h.symm)] at h5
    unfold ab
    omega
  have low : ∀ x j, k ≤ x → x < n → j < W → ab (m x j) ≤ 83980800000 := fun x j hx hxn hj => by
    by_cases hjk : j < k
    · rw [b.sl x j hx hxn hjk]; decide
    · by_cases hjn : j < n
      · have dx := diag x hx hxn
        by_cases e : x = j
        · subst e
          have := (Int.le_total 0 (m x x))
          have hp : 0 ≤ m x x := by
            have h3 := l.s3 x hx hxn
            have hz : ∀ y, k ≤ y → y < n → 0 ≤ (fun y => if y = x then 0 else -m x y) y := fun y h1 h2 => by
              dsimp only
              by_cases e : y = x
              · rw [if_pos e]; exact Int.le_refl _
              · rw [if_neg e]
                have := l.s2 x y hx hxn h1 h2 fun h => e h.symm
                omega
            have h7 := sr_pos hz
            have e := sr_but (f := m x) hx hxn
            omega
          unfold ab; omega
        · have := off x j hx hxn (by omega) hjn e
          omega
      · have h1 := l.r1 j (by omega) hj
        have h2 := sr_mem (f := fun x => ab (m x j)) _ k rfl (fun x _ _ => ab_pos _) x hx hxn
        have h3 := Int.mul_le_mul hd hB2 (by omega) (by omega)
        omega
  refine ⟨hd, fun i j hi hj => ?_, low, fun i hi hkn => ?_⟩
  · by_cases hik : i < k
    · by_cases hjk : j < k
      · rw [b.su i j hik hjk]
        unfold ab
        split <;> omega
      · by_cases hjn : j < n
        · have u1 := l.u1 i j hik (by omega) hjn
          have u2 := l.u2 i hik
          have := sr_mem (f := fun j => -m i j) _ k rfl (fun j h1 h2 => by have := l.u1 i j hik h1 h2; omega) j (by omega) hjn
          rw [sr_neg] at this
          unfold ab; omega
        · have h1 := z.rh i j hik (by omega) hj
          have h2 : (k : Int) * (pd a k : Int) ≤ 8 * 1679616 := Int.mul_le_mul (by omega) hq (by omega) (by omega)
          have h3 := Int.mul_le_mul h2 hB2 (by omega) (by omega)
          omega
    · have := low i j (by omega) hi hj
      omega
  · by_cases hik : i < k
    · have u1 := l.u1 i k hik (Nat.le_refl k) hkn
      have u2 := l.u2 i hik
      have := sr_mem (f := fun j => -m i j) _ k rfl (fun j h1 h2 => by have := l.u1 i j hik h1 h2; omega) k (Nat.le_refl k) hkn
      rw [sr_neg] at this
      unfold ab; omega
    · by_cases e : i = k
      · have dk := diag i (by omega) hi
        have := (l.diag hkn).2
        subst e
        unfold ab; omega
      · have := off i k (by omega) hi (Nat.le_refl k) hkn e
        have := diag i (by omega) hi
        omega
def zz (n c : Nat) (u : Nat → Int) (d : Int) (j : Nat) : Int := if j < n then u j else if j = c then -d else 0
theorem dot_zz {n c W : Nat} (f u : Nat → Int) (d : Int) (hc : n ≤ c) (hcW : c < W) : dot W f (zz n c u d) = sm n (fun j => f j * u j) + f c * -d := by
  unfold dot
  rw [sm_part hc hcW fun j h1 h2 _ => by unfold zz; rw [if_neg (by omega), if_neg h2, Int.mul_zero]]
  congr 1
  · refine sm_congr fun j hj => ?_
    unfold zz
    rw [if_pos hj]
  · unfold zz
    rw [if_neg (by omega), if_pos rfl]
theorem moved {A A' : Mx} {n W c : Nat} {m m' : Mx} {t : Int} (hc : n ≤ c) (hcW : c < W) (b : BS A W n n m) (b' : BS A' W n n m') (hd : del A n ≠ 0) (hdd : del A' n = del A n) (h1 : ∀ r j, r < n → j < n → A' r j = A r j) (h2 : ∀ r, r < n → A' r c = A r c + t * sm n (A r)) {i : Nat} (hi : i < n) : m' i c = m i c + t * del A n := by
  have hz : ∀ r, r < n → dot W (A' r) (zz n c (fun j => m j c + t * del A n) (del A n)) = 0 := fun r hr => by
    rw [dot_zz _ _ _ hc hcW, h2 r hr]
    have e1 : sm n (fun j => A' r j * (m j c + t * del A n)) = sm n (fun j => A r j * m j c) + t * del A n * sm n (A r) := by
      rw [← sm_mul, ← sm_add]
      refine sm_congr fun j hj => ?_
      rw [h1 r j hr hj]
      grind
    have e2 := zv_ok (A := A) hc hcW r hr
    rw [dot_zv _ hc hcW] at e2
    have e3 : sm n (fun j => A r j * m j c) = sm n (fun j => A r j * -kap A n c j) := sm_congr fun j hj => by rw [b.val_up hd hj hc hcW]
    rw [e1, e3]
    grind
  have h3 := b'.up _ hz i hi
  rw [dot_zz _ _ _ hc hcW] at h3
  have e4 : sm n (fun j => m' i j * (m j c + t * del A n)) = del A n * (m i c + t * del A n) := by
    rw [← sm_one (k := n) (d := del A n) (g := fun j => m j c + t * del A n) hi]
    refine sm_congr fun j hj => ?_
    rw [b'.su i j hi hj, hdd]
  rw [e4] at h3
  refine Int.eq_of_mul_eq_mul_left hd ?_
  grind
end Go.Det
/-
  Network: the matrix of the normal equations.
  No conditions.
-/
namespace Go.Proofs.Ytklddmmnggcffaa
open Go Go.Abs Go.PE Go.Det
set_option linter.unusedVariables false
def fl (M : Mx) : List Int := row 80 fun e => M (e / 10) (e % 10)
def up (M : Mx) (p q : Nat) (v : Int) : Mx := fun i j => if i = p ∧ j = q then v else M i j
theorem fl_congr {M M' : Mx} (h : ∀ i j, i < 8 → j < 10 → M i j = M' i j) : fl M = fl M' := row_congr fun e he => h _ _ (by omega) (by omega)
theorem fl_idx {M : Mx} {p q : Nat} (hp : p < 8) (hq : q < 10) {z : Int} (hz : z = ((p * 10 + q : Nat) : Int)) : idxM (fl M) z = some (M p q) := by
  rw [hz]
  unfold fl
  rw [row_idx (by omega)]
  have e1 : (p * 10 + q) / 10 = p := by omega
  have e2 : (p * 10 + q) % 10 = q := by omega
  rw [e1, e2]
theorem fl_set {M : Mx} {p q : Nat} {v : Int} {f : Int → Option Int} (hp : p < 8) (hq : q < 10) {z : Int} (hz : z = ((p * 10 + q : Nat) : Int)) (hv : f (M p q) = some v) : setM (fl M) z f = some (fl (up M p q v)) := by
  rw [hz]
  have hl : (fl M).length = 80 := row_length _ _
  have hg : (fl M)[((p * 10 + q : Nat) : Int).toNat]'(by rw [hl]; omega) = M p q := by
    have h1 := fl_idx (M := M) hp hq (z := ((p * 10 + q : Nat) : Int)) rfl
    rw [idxM_of (by omega) (by rw [hl]; omega)] at h1
    exact Option.some.inj h1
  rw [setM_of (y := v) (by omega) (by rw [hl]; omega) (by rw [hg]; exact hv)]
  congr 1
  unfold fl
  rw [Int.toNat_natCast, row_set (by omega)]
  refine row_congr fun e he => ?_
  unfold up
  by_cases h : e = p * 10 + q
  · rw [if_pos h, if_pos ⟨by omega, by omega⟩]
  · rw [if_neg h, if_neg (by omega)]
theorem z1 (p q : Nat) : ((nat_lit 0 : Nat) : Int) + (p : Int) * ((nat_lit 10 : Nat) : Int) + (q : Int) * ((nat_lit 1 : Nat) : Int) = ((p * 10 + q : Nat) : Int) := by
  show (0 : Int) + (p : Int) * 10 + (q : Int) * 1 = _
  omega
theorem z8 (p : Nat) : ((nat_lit 0 : Nat) : Int) + (p : Int) * ((nat_lit 10 : Nat) : Int) + (8 : Int) = ((p * 10 + 8 : Nat) : Int) := by
  show (0 : Int) + (p : Int) * 10 + 8 = _
  omega
theorem z9 (p : Nat) : ((nat_lit 0 : Nat) : Int) + (p : Int) * ((nat_lit 10 : Nat) : Int) + (9 : Int) = ((p * 10 + 9 : Nat) : Int) := by
  show (0 : Int) + (p : Int) * 10 + 9 = _
  omega
theorem ck8 {p : Nat} (h : p < 8) : chkM (p : Int) ((nat_lit 8 : Nat) : Int) = some () := chkM_of (by omega) (by show (p : Int) < 8; omega)
theorem ck10 {p : Nat} (h : p < 10) : chkM (p : Int) ((nat_lit 10 : Nat) : Int) = some () := chkM_of (by omega) (by show (p : Int) < 10; omega)
def addT (n p q vx vy : Int) (l : List Int) : Option (List Int) :=
  bif eqM p n then some l else Option.bind (chkM p ((nat_lit 8 : Nat) : Int)) fun (_ : Unit) => Option.bind (chkM p ((nat_lit 10 : Nat) : Int)) fun (_ : Unit) =>
  Option.bind (idxM l (((nat_lit 0 : Nat) : Int) + p * ((nat_lit 10 : Nat) : Int) + p * ((nat_lit 1 : Nat) : Int))) fun (r_4 : Int) => Option.bind (chkM p ((nat_lit 8 : Nat) : Int)) fun (_ : Unit) =>
  Option.bind (chkM p ((nat_lit 10 : Nat) : Int)) fun (_ : Unit) => Option.bind (setM l (((nat_lit 0 : Nat) : Int) + p * ((nat_lit 10 : Nat) : Int) + p * ((nat_lit 1 : Nat) : Int)) fun (_ : Int) => some (IntKind.wrap IntKind.i64 (r_4 + (1 : Int)))) fun (r_7 : List Int) =>
  Option.bind (chkM p ((nat_lit 8 : Nat) : Int)) fun (_ : Unit) => Option.bind (idxM r_7 (((nat_lit 0 : Nat) : Int) + p * ((nat_lit 10 : Nat) : Int) + (8 : Int))) fun (r_9 : Int) => Option.bind (chkM p ((nat_lit 8 : Nat) : Int)) fun (_ : Unit) =>
  Option.bind (setM r_7 (((nat_lit 0 : Nat) : Int) + p * ((nat_lit 10 : Nat) : Int) + (8 : Int)) fun (_ : Int) => some (IntKind.wrap IntKind.i64 (r_9 + vx))) fun (r_11 : List Int) =>
  Option.bind (chkM p ((nat_lit 8 : Nat) : Int)) fun (_ : Unit) => Option.bind (idxM r_11 (((nat_lit 0 : Nat) : Int) + p * ((nat_lit 10 : Nat) : Int) + (9 : Int))) fun (r_13 : Int) => Option.bind (chkM p ((nat_lit 8 : Nat) : Int)) fun (_ : Unit) =>
  Option.bind (setM r_11 (((nat_lit 0 : Nat) : Int) + p * ((nat_lit 10 : Nat) : Int) + (9 : Int)) fun (_ : Int) => some (IntKind.wrap IntKind.i64 (r_13 + vy))) fun (r_15 : List Int) =>
  bif ltM q n then Option.bind (chkM p ((nat_lit 8 : Nat) : Int)) fun (_ : Unit) => Option.bind (chkM q ((nat_lit 10 : Nat) : Int)) fun (_ : Unit) =>
  Option.bind (idxM r_15 (((nat_lit 0 : Nat) : Int) + p * ((nat_lit 10 : Nat) : Int) + q * ((nat_lit 1 : Nat) : Int))) fun (r_18 : Int) => Option.bind (chkM p ((nat_lit 8 : Nat) : Int)) fun (_ : Unit) =>
  Option.bind (chkM q ((nat_lit 10 : Nat) : Int)) fun (_ : Unit) => Option.bind (setM r_15 (((nat_lit 0 : Nat) : Int) + p * ((nat_lit 10 : Nat) : Int) + q * ((nat_lit 1 : Nat) : Int)) fun (_ : Int) => some (IntKind.wrap IntKind.i64 (r_18 - (1 : Int)))) fun (r : List Int) => some r
  else some r_15
def adM (n p q : Nat) (vx vy : Int) (M : Mx) : Mx := fun i j => if p < n ∧ i = p then M i j + (if j = p then 1 else 0) + (if j = 8 then vx else 0) + (if j = 9 then vy else 0) - (if j = q ∧ q < n then 1 else 0) else M i j
def Bd (C : Int) (M : Mx) : Prop := ∀ i j, -C ≤ M i j ∧ M i j ≤ C
theorem addT_eq {n p q : Nat} {vx vy C : Int} {M : Mx} (hn : n ≤ 8) (hp : p ≤ n) (hq : q ≤ n) (hpq : p ≠ q) (hx : -20000 ≤ vx ∧ vx ≤ 20000) (hy : -20000 ≤ vy ∧ vy ≤ 20000) (hC : C ≤ 1000000000000) (hM : Bd C M) : addT (n : Int) (p : Int) (q : Int) vx vy (fl M) = some (fl (adM n p q vx vy M)) := by
  unfold addT
  by_cases e : p = n
  · rw [eqI (by omega), cond_true]
    congr 1
    refine fl_congr fun i j _ _ => ?_
    unfold adM
    rw [if_neg (by omega)]
  · rw [neI (by omega), cond_false]
    have h8 : p < 8 := by omega
    rw [ck8 h8, ck10 (by omega), Option.bind_some, Option.bind_some]
    refine bind_of (fl_idx h8 (by omega) (z1 p p)) ?_
    rw [Option.bind_some, Option.bind_some]
    have m1 := hM p p
    have m2 := hM p 8
    have m3 := hM p 9
    have m4 := hM p q
    refine bind_of (fl_set (v := M p p + 1) h8 (by omega) (z1 p p) (by rw [wrap_in (by omega) (by omega)])) ?_
    rw [Option.bind_some]
    have v8 : up M p p (M p p + 1) p 8 = M p 8 := by unfold up; rw [if_neg (by omega)]
    refine bind_of (fl_idx h8 (by omega) (z8 p)) ?_
    rw [Option.bind_some, v8]
    refine bind_of (fl_set (v := M p 8 + vx) h8 (by omega) (z8 p) (by rw [wrap_in (by omega) (by omega)])) ?_
    rw [Option.bind_some]
    have v9 : up (up M p p (M p p + 1)) p 8 (M p 8 + vx) p 9 = M p 9 := by unfold up; rw [if_neg (by omega), if_neg (by omega)]
    refine bind_of (fl_idx h8 (by omega) (z9 p)) ?_
    rw [Option.bind_some, v9]
    refine bind_of (fl_set (v := M p 9 + vy) h8 (by omega) (z9 p) (by rw [wrap_in (by omega) (by omega)])) ?_
    by_cases hqn : q < n
    · rw [ltI (by omega), cond_true, Option.bind_some, ck10 (by omega), Option.bind_some]
      have vq : up (up (up M p p (M p p + 1)) p 8 (M p 8 + vx)) p 9 (M p 9 + vy) p q = M p q := by unfold up; rw [if_neg (by omega), if_neg (by omega), if_neg (by omega)]
      refine bind_of (fl_idx h8 (by omega) (z1 p q)) ?_
      rw [Option.bind_some, Option.bind_some, vq]
      refine bind_of (fl_set (v := M p q - 1) h8 (by omega) (z1 p q) (by rw [wrap_in (by omega) (by omega)])) ?_
      congr 1
      refine fl_congr fun i j _ _ => ?_
      clear m1 m2 m3 m4 v8 v9 vq hM
      unfold up adM
      grind
    · rw [geI (by omega), cond_false]
      congr 1
      refine fl_congr fun i j _ _ => ?_
      clear m1 m2 m3 m4 v8 v9 hM
      unfold up adM
      grind
theorem adM_bd {n p q : Nat} {vx vy C : Int} {M : Mx} (hn : n ≤ 8) (hpq : p ≠ q) (hq : q ≤ n) (hx : -20000 ≤ vx ∧ vx ≤ 20000) (hy : -20000 ≤ vy ∧ vy ≤ 20000) (hM : Bd C M) : Bd (C + 50000) (adM n p q vx vy M) := fun i j => by
  have := hM i j
  unfold adM
  repeat' split
  all_goals omega
end Go.Proofs.Ytklddmmnggcffaa
/-
  Network: the normal equations are a grounded Laplacian.
  No conditions.
-/
namespace Go.Proofs.Ytklddmmnggcffaa
open Go Go.Abs Go.PE Go.Det
set_option linter.unusedVariables false
def obM (n a b : Nat) (dx dy : Int) (M : Mx) : Mx := adM n a b (-dx) (-dy) (adM n b a dx dy M)
def fxM (n : Nat) (M : Mx) (f : Fix) : Mx := obM n n f.1.toNat f.2.1 f.2.2.1 M
def sgM (n : Nat) (M : Mx) (s : Sgt) : Mx := obM n s.1.toNat s.2.1.toNat s.2.2.1 s.2.2.2.1 M
def nmF (n : Nat) (fs : List Fix) : Mx := fs.foldl (fxM n) fun _ _ => 0
def nmA (c : Net) : Mx := c.2.2.foldl (sgM c.1.toNat) (nmF c.1.toNat c.2.1)
theorem sm_ind (f : Nat → Int) (p : Nat) (v : Int) : ∀ n, sm n (fun j => f j + (if j = p then v else 0)) = sm n f + (if p < n then v else 0)
  | 0 => by rw [if_neg (Nat.not_lt_zero _)]; rfl
  | n + 1 => by
    show sm n (fun j => f j + (if j = p then v else 0)) + (f n + (if n = p then v else 0)) = sm n f + f n + (if p < n + 1 then v else 0)
    rw [sm_ind f p v n]
    grind
structure NI (n : Nat) (D R : Int) (M : Mx) : Prop where
  sy : ∀ x j, x < n → j < n → M x j = M j x
  of : ∀ x j, x < n → j < n → x ≠ j → M x j ≤ 0
  rs : ∀ x, x < n → 0 ≤ sm n (M x)
  dp : ∀ x, x < n → 0 ≤ M x x
  ds : sm n (fun x => M x x) ≤ D
  rh : ∀ c, n ≤ c → c < 10 → sm n (fun x => ab (M x c)) ≤ R
theorem adM_row {n p q x : Nat} {vx vy : Int} {M : Mx} (hn : n ≤ 8) (hx : x < n) : sm n (adM n p q vx vy M x) = sm n (M x) + (if x = p then 1 - (if q < n then 1 else 0) else 0) := by
  by_cases e : x = p
  · subst e
    rw [if_pos rfl]
    have e1 : sm n (adM n x q vx vy M x) = sm n (fun j => (M x j + (if j = x then 1 else 0)) + (if j = q then -1 else 0)) := sm_congr fun j hj => by
      unfold adM
      grind
    rw [e1, sm_ind, sm_ind]
    grind
  · rw [if_neg e, Int.add_zero]
    refine sm_congr fun j hj => ?_
    unfold adM
    rw [if_neg (fun h => e h.2)]
theorem adM_dg {n p q : Nat} {vx vy : Int} {M : Mx} (hn : n ≤ 8) (hpq : p ≠ q) : sm n (fun x => adM n p q vx vy M x x) = sm n (fun x => M x x) + (if p < n then 1 else 0) := by
  rw [← sm_ind (fun x => M x x) p 1 n]
  refine sm_congr fun x hx => ?_
  unfold adM
  grind
theorem adM_rh {n p q c : Nat} {vx vy V : Int} {M : Mx} (hn : n ≤ 8) (hc : n ≤ c) (h1 : -V ≤ vx ∧ vx ≤ V) (h2 : -V ≤ vy ∧ vy ≤ V) : sm n (fun x => ab (adM n p q vx vy M x c)) ≤ sm n (fun x => ab (M x c)) + (if p < n then V else 0) := by
  rw [← sm_ind (fun x => ab (M x c)) p V n]
  refine sm_le fun x hx => ?_
  unfold adM ab
  by_cases e : p < n ∧ x = p
  · rw [if_pos e, if_pos e.2, if_neg (by omega : ¬ c = p), if_neg (by omega : ¬ (c = q ∧ q < n))]
    repeat' split
    all_goals omega
  · rw [if_neg e]
    split <;> omega
theorem obM_ni {n a b : Nat} {dx dy V D R : Int} {M : Mx} (hn : n ≤ 8) (hab : a ≠ b) (ha : a ≤ n) (hb : b ≤ n) (h1 : -V ≤ dx ∧ dx ≤ V) (h2 : -V ≤ dy ∧ dy ≤ V) (h : NI n D R M) : NI n (D + (if a < n then 1 else 0) + (if b < n then 1 else 0)) (R + (if a < n then V else 0) + (if b < n then V else 0)) (obM n a b dx dy M) where
  sy := fun x j hx hj => by
    have := h.sy x j hx hj
    unfold obM adM
    grind
  of := fun x j hx hj hne => by
    have := h.of x j hx hj hne
    unfold obM adM
    grind
  rs := fun x hx => by
    have := h.rs x hx
    unfold obM
    rw [adM_row hn hx, adM_row hn hx]
    grind
  dp := fun x hx => by
    have := h.dp x hx
    unfold obM adM
    grind
  ds := by
    have := h.ds
    unfold obM
    rw [adM_dg hn hab, adM_dg hn hab.symm]
    omega
  rh := fun c hc hc10 => by
    have h3 := h.rh c hc hc10
    have h4 := adM_rh (p := b) (q := a) (M := M) hn hc h1 h2
    have h5 := adM_rh (p := a) (q := b) (M := adM n b a dx dy M) (vx := -dx) (vy := -dy) (V := V) hn hc (by omega) (by omega)
    unfold obM
    omega
structure Sm (c : Net) (VF VS : Int) : Prop where
  nok : NOK c
  fx : ∀ f ∈ c.2.1, (-VF ≤ f.2.1 ∧ f.2.1 ≤ VF) ∧ -VF ≤ f.2.2.1 ∧ f.2.2.1 ≤ VF
  sg : ∀ s ∈ c.2.2, (-VS ≤ s.2.2.1 ∧ s.2.2.1 ≤ VS) ∧ -VS ≤ s.2.2.2.1 ∧ s.2.2.2.1 ≤ VS
theorem nmF_ni {n : Nat} {VF : Int} (hn : n ≤ 8) : ∀ (fs : List Fix) {D R : Int} {M : Mx}, (∀ f ∈ fs, 0 ≤ f.1 ∧ f.1 < n ∧ (-VF ≤ f.2.1 ∧ f.2.1 ≤ VF) ∧ -VF ≤ f.2.2.1 ∧ f.2.2.1 ≤ VF) → NI n D R M → NI n (D + fs.length) (R + VF * fs.length) (fs.foldl (fxM n) M)
  | [], D, R, M, _, h => by
    have e1 : D + (([] : List Fix).length : Int) = D := Int.add_zero D
    have e2 : R + VF * (([] : List Fix).length : Int) = R := by show R + VF * 0 = R; omega
    rw [e1, e2]
    exact h
  | f :: r, D, R, M, hf, h => by
    obtain ⟨h0, h1, h2, h3⟩ := hf f (List.mem_cons_self ..)
    have hs := obM_ni hn (a := n) (b := f.1.toNat) (by omega) (Nat.le_refl n) (by omega) h2 h3 h
    rw [if_neg (Nat.lt_irrefl n), if_neg (Nat.lt_irrefl n), if_pos (by omega), if_pos (by omega)] at hs
    have ih := nmF_ni hn r (fun f' hf' => hf f' (List.mem_cons_of_mem _ hf')) hs
    have e1 : D + 0 + 1 + (r.length : Int) = D + ((f :: r).length : Int) := by rw [List.length_cons]; omega
    have e2 : R + 0 + VF + VF * (r.length : Int) = R + VF * ((f :: r).length : Int) := by rw [List.length_cons]; grind
    rw [e1, e2] at ih
    exact ih
theorem nmS_ni {n : Nat} {VS : Int} (hn : n ≤ 8) : ∀ (ss : List Sgt) {D R : Int} {M : Mx}, (∀ s ∈ ss, (0 ≤ s.1 ∧ s.1 < n) ∧ (0 ≤ s.2.1 ∧ s.2.1 < n) ∧ s.1 ≠ s.2.1 ∧ (-VS ≤ s.2.2.1 ∧ s.2.2.1 ≤ VS) ∧ -VS ≤ s.2.2.2.1 ∧ s.2.2.2.1 ≤ VS) → NI n D R M → NI n (D + 2 * ss.length) (R + 2 * VS * ss.length) (ss.foldl (sgM n) M)
  | [], D, R, M, _, h => by
    have e1 : D + 2 * (([] : List Sgt).length : Int) = D := Int.add_zero D
    have e2 : R + 2 * VS * (([] : List Sgt).length : Int) = R := by show R + 2 * VS * 0 = R; omega
    rw [e1, e2]
    exact h
  | s :: r, D, R, M, hf, h => by
    obtain ⟨h0, h1, hne, h2, h3⟩ := hf s (List.mem_cons_self ..)
    have hs := obM_ni hn (a := s.1.toNat) (b := s.2.1.toNat) (by omega) (by omega) (by omega) h2 h3 h
    rw [if_pos (by omega), if_pos (by omega), if_pos (by omega), if_pos (by omega)] at hs
    have ih := nmS_ni hn r (fun f' hf' => hf f' (List.mem_cons_of_mem _ hf')) hs
    have e1 : D + 1 + 1 + 2 * (r.length : Int) = D + 2 * ((s :: r).length : Int) := by rw [List.length_cons]; omega
    have e2 : R + VS + VS + 2 * VS * (r.length : Int) = R + 2 * VS * ((s :: r).length : Int) := by rw [List.length_cons]; grind
    rw [e1, e2] at ih
    exact ih
theorem nmA_ni {c : Net} {VF VS : Int} (h : Sm c VF VS) : NI c.1.toNat ((c.2.1.length : Int) + 2 * c.2.2.length) (VF * c.2.1.length + 2 * VS * c.2.2.length) (nmA c) := by
  have h0 := h.nok.n0
  have h8 := h.nok.n8
  have z : NI c.1.toNat 0 0 (fun _ _ => 0) := ⟨fun _ _ _ _ => rfl, fun _ _ _ _ _ => Int.le_refl 0, fun _ _ => by rw [sm_zero fun _ _ => rfl]; exact Int.le_refl 0, fun _ _ => Int.le_refl 0, by rw [sm_zero fun _ _ => rfl]; exact Int.le_refl 0, fun c _ _ => Int.le_of_eq (sm_zero fun _ _ => by show ab 0 = 0; decide)⟩
  have h1 := nmF_ni (VF := VF) (by omega) c.2.1 (fun f hf => by
    have := h.nok.fx f hf
    have := h.fx f hf
    omega) z
  have h2 := nmS_ni (VS := VS) (by omega) c.2.2 (fun s hs => by
    have := h.nok.sg s hs
    have := h.sg s hs
    omega) h1
  rw [Int.zero_add, Int.zero_add] at h2
  exact h2
def dgN (M : Mx) (x : Nat) : Nat := (M x x).toNat
theorem lap_of {n : Nat} {D R : Int} {M : Mx} (hn : n ≤ 8) (h : NI n D R M) (hD : D ≤ 40) (hR : R ≤ 50000) : Lap M n 10 50000 (dgN M) where
  hW := by omega
  hn := hn
  hB := by decide
  hB2 := by decide
  sy := h.sy
  of := h.of
  rs := h.rs
  dg := fun x hx => by have := h.dp x hx; unfold dgN; omega
  sd := by
    have e : ∀ k, k ≤ n → ((sd (dgN M) k : Nat) : Int) = sm k fun x => M x x := by
      intro k
      induction k with
      | zero => intro _; rfl
      | succ k ih =>
        intro hk
        have i1 := ih (by omega)
        have i2 := h.dp k (by omega)
        show ((sd (dgN M) k + dgN M k : Nat) : Int) = sm k (fun x => M x x) + M k k
        unfold dgN at *
        omega
    have := e n (Nat.le_refl n)
    have := h.ds
    omega
  rh := fun c hc hc10 => by have := h.rh c hc hc10; omega
end Go.Proofs.Ytklddmmnggcffaa
/-
  Network: the loops that make the normal equations.
  No conditions.
-/
namespace Go.Proofs.Ytklddmmnggcffaa
open Go Go.Abs Go.PE Go.Det
set_option linter.unusedVariables false
def obT (n a b dx dy : Int) (l : List Int) : Option (List Int) := Option.bind (addT n b a dx dy l) fun ov => addT n a b (IntKind.wrap IntKind.i64 (negM dx)) (IntKind.wrap IntKind.i64 (negM dy)) ov
theorem obT_eq {n a b : Nat} {dx dy C : Int} {M : Mx} (hn : n ≤ 8) (ha : a ≤ n) (hb : b ≤ n) (hab : a ≠ b) (h1 : -20000 ≤ dx ∧ dx ≤ 20000) (h2 : -20000 ≤ dy ∧ dy ≤ 20000) (hC : C ≤ 100000000000) (hM : Bd C M) : obT (n : Int) (a : Int) (b : Int) dx dy (fl M) = some (fl (obM n a b dx dy M)) := by
  unfold obT
  have w1 : IntKind.wrap IntKind.i64 (negM dx) = -dx := wrap_in (n := -dx) (by omega) (by omega)
  have w2 : IntKind.wrap IntKind.i64 (negM dy) = -dy := wrap_in (n := -dy) (by omega) (by omega)
  rw [w1, w2]
  refine bind_of (addT_eq hn hb ha hab.symm h1 h2 (by omega) hM) ?_
  exact addT_eq (C := C + 50000) hn ha hb hab (by omega) (by omega) (by omega) (adM_bd hn hab.symm ha h1 h2 hM)
theorem obM_bd {n a b : Nat} {dx dy C : Int} {M : Mx} (hn : n ≤ 8) (ha : a ≤ n) (hb : b ≤ n) (hab : a ≠ b) (h1 : -20000 ≤ dx ∧ dx ≤ 20000) (h2 : -20000 ≤ dy ∧ dy ≤ 20000) (hM : Bd C M) : Bd (C + 100000) (obM n a b dx dy M) := by
  have := adM_bd (n := n) (p := a) (q := b) (vx := -dx) (vy := -dy) hn hab hb (by omega) (by omega) (adM_bd hn hab.symm ha h1 h2 hM)
  intro i j
  have := this i j
  unfold obM
  omega
theorem fold_loop {α : Type} {xs : List α} (g : Mx → α → Mx) (M0 : Mx) {body : Int × List Int → Option ((Int × List Int) ⊕ List Int)}
    (hb : ∀ k (hk : k < xs.length), body ((k : Int), fl ((xs.take k).foldl g M0)) = some (.inl ((k : Int) + 1, fl (g ((xs.take k).foldl g M0) xs[k])))) (he : body ((xs.length : Int), fl (xs.foldl g M0)) = some (.inr (fl (xs.foldl g M0)))) : loopM body ((0 : Int), fl M0) = some (fl (xs.foldl g M0)) := by
  refine count_loop (fun k => fl ((xs.take k).foldl g M0)) xs.length (fun k hk => ?_) ?_
  · rw [hb k hk, List.take_succ_eq_append_getElem hk, List.foldl_append]
    rfl
  · rw [List.take_length]
    exact he
theorem fold_bd {α : Type} (g : Mx → α → Mx) : ∀ (xs : List α) {C : Int} {M : Mx}, (∀ x ∈ xs, ∀ C M, Bd C M → Bd (C + 100000) (g M x)) → Bd C M → Bd (C + 100000 * xs.length) (xs.foldl g M)
  | [], C, M, _, h => by
    have e : C + 100000 * (([] : List α).length : Int) = C := Int.add_zero C
    rw [e]; exact h
  | x :: r, C, M, hx, h => by
    have ih := fold_bd g r (fun y hy => hx y (List.mem_cons_of_mem _ hy)) (hx x (List.mem_cons_self ..) C M h)
    have e : C + 100000 + 100000 * (r.length : Int) = C + 100000 * ((x :: r).length : Int) := by rw [List.length_cons]; omega
    rw [e] at ih
    exact ih
theorem fx_bd {c : Net} (h : NOK c) : ∀ f ∈ c.2.1, ∀ C M, Bd C M → Bd (C + 100000) (fxM c.1.toNat M f) := fun f hf C M hM => by
  have h0 := h.n0
  have h8 := h.n8
  have := h.fx f hf
  exact obM_bd (by omega) (Nat.le_refl _) (by omega) (by omega) (by omega) (by omega) hM
theorem sg_bd {c : Net} (h : NOK c) : ∀ s ∈ c.2.2, ∀ C M, Bd C M → Bd (C + 100000) (sgM c.1.toNat M s) := fun s hs C M hM => by
  have h0 := h.n0
  have h8 := h.n8
  have := h.sg s hs
  exact obM_bd (by omega) (by omega) (by omega) (by omega) (by omega) (by omega) hM
theorem nm_fix {c : Net} (h : NOK c) : loopM (fun (s : Int × List Int) => bif ltM s.1 (lenM c.2.1) then Option.bind (idxM c.2.1 s.1) fun (r_1 : Int × Int × Int × Int) => Option.bind (addT c.1 r_1.1 c.1 r_1.2.1 r_1.2.2.1 s.2) fun (ov : List Int) => Option.bind (addT c.1 c.1 r_1.1 (IntKind.wrap IntKind.i64 (negM r_1.2.1)) (IntKind.wrap IntKind.i64 (negM r_1.2.2.1)) ov) fun (ov : List Int) => some (Sum.inl (IntKind.wrap IntKind.i64 (s.1 + (1 : Int)), ov)) else some (Sum.inr s.2)) ((0 : Int), fl fun _ _ => 0) = some (fl (nmF c.1.toNat c.2.1)) := by
  have h0 := h.n0
  have h8 := h.n8
  have hl := h.fl
  have hN : c.1 = ((c.1.toNat : Nat) : Int) := by omega
  have hz : Bd 0 (fun _ _ => 0) := fun _ _ => ⟨by show (-0 : Int) ≤ 0; omega, by show (0 : Int) ≤ 0; omega⟩
  refine fold_loop (fxM c.1.toNat) (fun _ _ => 0) (fun k hk => ?_) ?_
  · have hm := h.fx _ (List.getElem_mem hk)
    have hb := fold_bd (fxM c.1.toNat) (c.2.1.take k) (fun f hf => fx_bd h f (List.mem_of_mem_take hf)) hz
    have hlk : (c.2.1.take k).length ≤ 8 := by rw [List.length_take]; omega
    dsimp only
    rw [ltI (by show (k : Int) < (c.2.1.length : Int); omega), cond_true, idxM_lt hk, Option.bind_some]
    generalize (c.2.1.take k).foldl (fxM c.1.toNat) (fun _ _ => 0) = M at *
    generalize c.2.1[k] = f at *
    have ho := obT_eq (n := c.1.toNat) (a := c.1.toNat) (b := f.1.toNat) (dx := f.2.1) (dy := f.2.2.1) (M := M) (by omega) (Nat.le_refl _) (by omega) (by omega) (by omega) (by omega) (by omega) hb
    have hp : ((f.1.toNat : Nat) : Int) = f.1 := by omega
    rw [hp, ← hN] at ho
    unfold obT at ho
    obtain ⟨ov, g1, g2⟩ := Option.bind_eq_some_iff.1 ho
    refine bind_of g1 (bind_of g2 ?_)
    rw [wrap_in (by omega) (by omega)]
    rfl
  · dsimp only
    rw [geI (by show (c.2.1.length : Int) ≤ (c.2.1.length : Int); omega), cond_false]
theorem nm_sgt {c : Net} (h : NOK c) : loopM (fun (s : Int × List Int) => bif ltM s.1 (lenM c.2.2) then Option.bind (idxM c.2.2 s.1) fun (r_1 : Int × Int × Int × Int × Int) => Option.bind (addT c.1 r_1.2.1 r_1.1 r_1.2.2.1 r_1.2.2.2.1 s.2) fun (ov : List Int) => Option.bind (addT c.1 r_1.1 r_1.2.1 (IntKind.wrap IntKind.i64 (negM r_1.2.2.1)) (IntKind.wrap IntKind.i64 (negM r_1.2.2.2.1)) ov) fun (ov : List Int) => some (Sum.inl (IntKind.wrap IntKind.i64 (s.1 + (1 : Int)), ov)) else some (Sum.inr s.2)) ((0 : Int), fl (nmF c.1.toNat c.2.1)) = some (fl (nmA c)) := by
  have h0 := h.n0
  have h8 := h.n8
  have hl := h.fl
  have hl2 := h.sl
  have hN : c.1 = ((c.1.toNat : Nat) : Int) := by omega
  have hz : Bd 0 (fun _ _ => 0) := fun _ _ => ⟨by show (-0 : Int) ≤ 0; omega, by show (0 : Int) ≤ 0; omega⟩
  have hz2 := fold_bd (fxM c.1.toNat) c.2.1 (fx_bd h) hz
  refine fold_loop (sgM c.1.toNat) (nmF c.1.toNat c.2.1) (fun k hk => ?_) ?_
  · have hm := h.sg _ (List.getElem_mem hk)
    have hb := fold_bd (sgM c.1.toNat) (c.2.2.take k) (fun f hf => sg_bd h f (List.mem_of_mem_take hf)) hz2
    have hlk : (c.2.2.take k).length ≤ 20 := by rw [List.length_take]; omega
    dsimp only
    rw [ltI (by show (k : Int) < (c.2.2.length : Int); omega), cond_true, idxM_lt hk, Option.bind_some]
    have eF : c.2.1.foldl (fxM c.1.toNat) (fun _ _ => 0) = nmF c.1.toNat c.2.1 := rfl
    rw [eF] at hb
    generalize (c.2.2.take k).foldl (sgM c.1.toNat) (nmF c.1.toNat c.2.1) = M at *
    generalize c.2.2[k] = s at *
    have ho := obT_eq (n := c.1.toNat) (a := s.1.toNat) (b := s.2.1.toNat) (dx := s.2.2.1) (dy := s.2.2.2.1) (M := M) (by omega) (by omega) (by omega) (by omega) (by omega) (by omega) (by omega) hb
    have hp : ((s.1.toNat : Nat) : Int) = s.1 := by omega
    have hq : ((s.2.1.toNat : Nat) : Int) = s.2.1 := by omega
    rw [hp, hq, ← hN] at ho
    unfold obT at ho
    obtain ⟨ov, g1, g2⟩ := Option.bind_eq_some_iff.1 ho
    refine bind_of g1 (bind_of g2 ?_)
    rw [wrap_in (by omega) (by omega)]
    rfl
  · dsimp only
    rw [geI (by show (c.2.2.length : Int) ≤ (c.2.2.length : Int); omega), cond_false]
end Go.Proofs.Ytklddmmnggcffaa
/-
  Network: the loops of the elimination.
  No conditions.
-/
namespace Go.Proofs.Ytklddmmnggcffaa
open Go Go.Abs Go.PE Go.Det
set_option linter.unusedVariables false
theorem fl_len (M : Mx) : (fl M).length = 80 := row_length _ _
theorem fl_part {M : Mx} {p : Nat} (hp : p < 8) : ((fl M).take (p * 10 + 10)).drop (p * 10) = row 10 (M p) := by
  apply List.ext_getElem?
  intro j
  rw [List.getElem?_drop, List.getElem?_take]
  by_cases hj : j < 10
  · rw [if_pos (by omega), row_get hj]
    unfold fl
    rw [row_get (by omega)]
    have e1 : (p * 10 + j) / 10 = p := by omega
    have e2 : (p * 10 + j) % 10 = j := by omega
    rw [e1, e2]
  · rw [if_neg (by omega), List.getElem?_eq_none (by rw [row_length]; omega)]
theorem fl_slice {M : Mx} {p : Nat} (hp : p < 8) {lo hi : Int} (h1 : lo = ((p * 10 : Nat) : Int)) (h2 : hi = ((p * 10 + 10 : Nat) : Int)) : sliceM (fl M) lo hi = some (row 10 (M p)) := by
  rw [h1, h2, sliceM_of (by omega) (by omega) (by rw [fl_len]; omega), Int.toNat_natCast, Int.toNat_natCast, fl_part hp]
theorem fl_put {M : Mx} {p : Nat} (hp : p < 8) {z : Int} (hz : z = ((p * 10 : Nat) : Int)) : putM (fl M) z (row 10 (M p)) = some (fl M) := by
  rw [hz]
  unfold putM
  have hl : (row 10 (M p)).length = 10 := row_length _ _
  rw [decide_eq_true (by omega), hl, decide_eq_true (by rw [fl_len]; omega)]
  dsimp only
  congr 1
  rw [Int.toNat_natCast, ← fl_part hp]
  have e : (fl M).take (p * 10) = ((fl M).take (p * 10 + 10)).take (p * 10) := by rw [List.take_take]; congr 1; omega
  rw [e, ← List.append_assoc, List.take_append_drop, List.take_append_drop]
theorem ten_row (g : Nat → Int) : [nthD (row 10 g) (nat_lit 0) (0 : Int), nthD (row 10 g) (nat_lit 1) (0 : Int), nthD (row 10 g) (nat_lit 2) (0 : Int), nthD (row 10 g) (nat_lit 3) (0 : Int), nthD (row 10 g) (nat_lit 4) (0 : Int), nthD (row 10 g) (nat_lit 5) (0 : Int), nthD (row 10 g) (nat_lit 6) (0 : Int), nthD (row 10 g) (nat_lit 7) (0 : Int), nthD (row 10 g) (nat_lit 8) (0 : Int), nthD (row 10 g) (nat_lit 9) (0 : Int)] = row 10 g := rfl
theorem zr (p : Nat) : ((nat_lit 0 : Nat) : Int) + (p : Int) * ((nat_lit 10 : Nat) : Int) = ((p * 10 : Nat) : Int) := by
  show (0 : Int) + (p : Int) * 10 = _
  omega
theorem zr2 (p : Nat) : ((nat_lit 0 : Nat) : Int) + (p : Int) * ((nat_lit 10 : Nat) : Int) + ((nat_lit 10 : Nat) : Int) = ((p * 10 + 10 : Nat) : Int) := by
  show (0 : Int) + (p : Int) * 10 + 10 = _
  omega
theorem srch {n k : Nat} {m : Mx} (hn : n ≤ 8) (hk : k < n) (hz : m k k = 0 → ∀ x, k ≤ x → x < n → m x k = 0) : loopM (fun (s_1 : Int) => Option.bind (bif ltM s_1 (n : Int) then chkM s_1 ((nat_lit 8 : Nat) : Int) else some ()) fun (r_1 : Unit) => Option.bind (bif ltM s_1 (n : Int) then chkM (k : Int) ((nat_lit 10 : Nat) : Int) else some ()) fun (r_2 : Unit) =>
    Option.bind (bif ltM s_1 (n : Int) then idxM (fl m) (((nat_lit 0 : Nat) : Int) + s_1 * ((nat_lit 10 : Nat) : Int) + (k : Int) * ((nat_lit 1 : Nat) : Int)) else some (0 : Int)) fun (r : Int) => bif PE.andM (ltM s_1 (n : Int)) (eqM r (0 : Int)) then some (Sum.inl (IntKind.wrap IntKind.i64 (s_1 + (1 : Int)))) else some (Sum.inr s_1)) (k : Int) = some (if m k k = 0 then (n : Int) else (k : Int)) := by
  have row1 : ∀ x : Nat, x < n → (Option.bind (bif ltM (x : Int) (n : Int) then chkM (x : Int) ((nat_lit 8 : Nat) : Int) else some ()) fun (r_1 : Unit) => Option.bind (bif ltM (x : Int) (n : Int) then chkM (k : Int) ((nat_lit 10 : Nat) : Int) else some ()) fun (r_2 : Unit) =>
    Option.bind (bif ltM (x : Int) (n : Int) then idxM (fl m) (((nat_lit 0 : Nat) : Int) + (x : Int) * ((nat_lit 10 : Nat) : Int) + (k : Int) * ((nat_lit 1 : Nat) : Int)) else some (0 : Int)) fun (r : Int) => bif PE.andM (ltM (x : Int) (n : Int)) (eqM r (0 : Int)) then some (Sum.inl (β := Int) (IntKind.wrap IntKind.i64 ((x : Int) + (1 : Int)))) else some (Sum.inr (x : Int))) = (bif eqM (m x k) 0 then some (Sum.inl ((x : Int) + 1)) else some (Sum.inr (x : Int))) := fun x hx => by
    rw [ltI (by omega), cond_true, cond_true, cond_true, ck8 (by omega), ck10 (by omega), Option.bind_some, Option.bind_some, fl_idx (by omega) (by omega) (z1 x k), Option.bind_some, andT, wrap_in (by omega) (by omega)]
  by_cases h0 : m k k = 0
  · rw [if_pos h0]
    have L := loopM_fn (body := fun (s_1 : Int) => Option.bind (bif ltM s_1 (n : Int) then chkM s_1 ((nat_lit 8 : Nat) : Int) else some ()) fun (r_1 : Unit) => Option.bind (bif ltM s_1 (n : Int) then chkM (k : Int) ((nat_lit 10 : Nat) : Int) else some ()) fun (r_2 : Unit) =>
      Option.bind (bif ltM s_1 (n : Int) then idxM (fl m) (((nat_lit 0 : Nat) : Int) + s_1 * ((nat_lit 10 : Nat) : Int) + (k : Int) * ((nat_lit 1 : Nat) : Int)) else some (0 : Int)) fun (r : Int) => bif PE.andM (ltM s_1 (n : Int)) (eqM r (0 : Int)) then some (Sum.inl (IntKind.wrap IntKind.i64 (s_1 + (1 : Int)))) else some (Sum.inr s_1)) (fun j => ((k + j : Nat) : Int)) (n - k) (r := (n : Int)) (fun j hj => by
        dsimp only
        rw [row1 (k + j) (by omega), eqI (hz h0 (k + j) (by omega) (by omega)), cond_true]
        congr 2) (by
        dsimp only
        have e : ((k + (n - k) : Nat) : Int) = (n : Int) := by omega
        rw [e, geI (Int.le_refl _)]
        rfl)
    exact L
  · rw [if_neg h0]
    exact loopM_fn (fun _ => (k : Int)) 0 (fun j hj => absurd hj (Nat.not_lt_zero _)) (by
      dsimp only
      rw [row1 k hk, neI h0, cond_false])
def part (m : Mx) (k i : Nat) (d : Int) (j : Nat) : Mx := fun x y => if x = i ∧ y < j then (tt m k i y).tdiv d else m x y
theorem row_loop {n k i : Nat} {m : Mx} {d : Int} (hn : n ≤ 8) (hk : k < n) (hi : i < n) (hik : i ≠ k) (hd : 0 < d) (b1 : ∀ j, j < 10 → ab (m i j) ≤ 671846400000) (b2 : ∀ j, j < 10 → ab (m k j) ≤ 83980800000) (b3 : ab (m i k) ≤ 67184640) (b4 : ab (m k k) ≤ 1679616) : loopM (fun (s_2 : Int × List Int) => bif ltM s_2.1 (10 : Int) then Option.bind (chkM (i : Int) ((nat_lit 8 : Nat) : Int)) fun (r_12 : Unit) => Option.bind (chkM s_2.1 ((nat_lit 10 : Nat) : Int)) fun (r_13 : Unit) => Option.bind (idxM s_2.2 (((nat_lit 0 : Nat) : Int) + (i : Int) * ((nat_lit 10 : Nat) : Int) + s_2.1 * ((nat_lit 1 : Nat) : Int))) fun (r_14 : Int) =>
    Option.bind (chkM (k : Int) ((nat_lit 8 : Nat) : Int)) fun (r_15 : Unit) => Option.bind (chkM (k : Int) ((nat_lit 10 : Nat) : Int)) fun (r_16 : Unit) => Option.bind (idxM s_2.2 (((nat_lit 0 : Nat) : Int) + (k : Int) * ((nat_lit 10 : Nat) : Int) + (k : Int) * ((nat_lit 1 : Nat) : Int))) fun (r_17 : Int) =>
    Option.bind (chkM (k : Int) ((nat_lit 8 : Nat) : Int)) fun (r_18 : Unit) => Option.bind (chkM s_2.1 ((nat_lit 10 : Nat) : Int)) fun (r_19 : Unit) => Option.bind (idxM s_2.2 (((nat_lit 0 : Nat) : Int) + (k : Int) * ((nat_lit 10 : Nat) : Int) + s_2.1 * ((nat_lit 1 : Nat) : Int))) fun (r_20 : Int) =>
    Option.bind (divM IntKind.i64 (IntKind.wrap IntKind.i64 (IntKind.wrap IntKind.i64 (r_14 * r_17) - IntKind.wrap IntKind.i64 (m i k * r_20))) d) fun (r_21 : Int) => Option.bind (chkM (i : Int) ((nat_lit 8 : Nat) : Int)) fun (r_22 : Unit) => Option.bind (chkM s_2.1 ((nat_lit 10 : Nat) : Int)) fun (r_23 : Unit) =>
    Option.bind (setM s_2.2 (((nat_lit 0 : Nat) : Int) + (i : Int) * ((nat_lit 10 : Nat) : Int) + s_2.1 * ((nat_lit 1 : Nat) : Int)) fun (x : Int) => some r_21) fun (r : List Int) => some (Sum.inl (IntKind.wrap IntKind.i64 (s_2.1 + (1 : Int)), r)) else some (Sum.inr s_2.2)) ((0 : Int), fl m) = some (fl (part m k i d 10)) := by
  have e0 : fl m = fl (part m k i d 0) := fl_congr fun x y _ _ => by unfold part; rw [if_neg (by omega)]
  rw [e0]
  refine count_loop (fun j => fl (part m k i d j)) 10 (fun j hj => ?_) ?_
  · dsimp only
    rw [ltI (by omega), cond_true, ck8 (by omega), ck10 hj, Option.bind_some, Option.bind_some]
    refine bind_of (fl_idx (by omega) hj (z1 i j)) ?_
    rw [ck8 (by omega), ck10 (by omega), Option.bind_some, Option.bind_some]
    refine bind_of (fl_idx (by omega) (by omega) (z1 k k)) ?_
    rw [Option.bind_some, Option.bind_some]
    refine bind_of (fl_idx (by omega) hj (z1 k j)) ?_
    have p1 : part m k i d j i j = m i j := by unfold part; rw [if_neg (by omega)]
    have p2 : part m k i d j k k = m k k := by unfold part; rw [if_neg (by omega)]
    have p3 : part m k i d j k j = m k j := by unfold part; rw [if_neg (by omega)]
    rw [p1, p2, p3]
    have q1 : ab (m i j * m k k) ≤ 671846400000 * 1679616 := by
      rw [ab_mul]
      exact Int.mul_le_mul (b1 j hj) b4 (ab_pos _) (by omega)
    have q2 : ab (m i k * m k j) ≤ 67184640 * 83980800000 := by
      rw [ab_mul]
      exact Int.mul_le_mul b3 (b2 j hj) (ab_pos _) (by omega)
    have r1 := ab_le (m i j * m k k)
    have r2 := ab_le (m i k * m k j)
    have ht : tt m k i j = m i j * m k k - m i k * m k j := rfl
    have w : IntKind.wrap IntKind.i64 (IntKind.wrap IntKind.i64 (m i j * m k k) - IntKind.wrap IntKind.i64 (m i k * m k j)) = tt m k i j := by
      rw [wrap_in (n := m i j * m k k) (by omega) (by omega), wrap_in (n := m i k * m k j) (by omega) (by omega), wrap_in (n := m i j * m k k - m i k * m k j) (by omega) (by omega), ht]
    rw [w]
    have hq1 : -9000000000000000000 ≤ (tt m k i j).tdiv d ∧ (tt m k i j).tdiv d ≤ 9000000000000000000 := by
      have ha : -9000000000000000000 ≤ tt m k i j ∧ tt m k i j ≤ 9000000000000000000 := by omega
      generalize tt m k i j = t at *
      have := Int.natAbs_tdiv_le_natAbs t d
      omega
    refine bind_of (divM_pos (by omega)) ?_
    rw [Option.bind_some, Option.bind_some, wrap_in (n := (tt m k i j).tdiv d) (by omega) (by omega)]
    refine bind_of (fl_set (v := (tt m k i j).tdiv d) (by omega) hj (z1 i j) rfl) ?_
    rw [wrap_in (by omega) (by omega)]
    congr 3
    refine fl_congr fun x y _ _ => ?_
    unfold up part
    by_cases hx : x = i ∧ y = j
    · rw [if_pos hx, if_pos ⟨hx.1, by omega⟩, hx.2]
    · rw [if_neg hx]
      by_cases hy : x = i ∧ y < j
      · rw [if_pos hy, if_pos ⟨hy.1, by omega⟩]
      · rw [if_neg hy, if_neg (by omega)]
  · dsimp only
    rw [geI (by omega), cond_false]
end Go.Proofs.Ytklddmmnggcffaa
/-
  Network: the elimination as a whole.
  No conditions.
-/
namespace Go.Proofs.Ytklddmmnggcffaa
open Go Go.Abs Go.PE Go.Det
set_option linter.unusedVariables false
noncomputable def redB (n : Int) : Int × Int × List Int → Option ((Int × Int × List Int) ⊕ ((Int × List Int) ⊕ (Int × List Int))) :=
  (fun (s : Int × Int × List Int) => bif ltM s.2.1 n then Option.bind (loopM (fun (s_1 : Int) => Option.bind (bif ltM s_1 n then chkM s_1 ((nat_lit 8 : Nat) : Int) else some ())
  fun (r_1 : Unit) => Option.bind (bif ltM s_1 n then chkM s.2.1 ((nat_lit 10 : Nat) : Int) else some ()) fun (r_2 : Unit) => Option.bind (bif ltM s_1 n then idxM s.2.2 (((nat_lit 0 : Nat) : Int) + s_1 * ((nat_lit 10 : Nat) : Int) + s.2.1 * ((nat_lit 1 : Nat) : Int)) else some (0 : Int))
  fun (r : Int) => bif PE.andM (ltM s_1 n) (eqM r (0 : Int)) then some (Sum.inl (IntKind.wrap IntKind.i64 (s_1 + (1 : Int)))) else some (Sum.inr s_1)) s.2.1)
  fun (o_2 : Int) => bif eqM o_2 n then some (Sum.inr (Sum.inr ((0 : Int), s.2.2))) else Option.bind (chkM s.2.1 ((nat_lit 8 : Nat) : Int))
  fun (r_1 : Unit) => Option.bind (sliceM s.2.2 (((nat_lit 0 : Nat) : Int) + s.2.1 * ((nat_lit 10 : Nat) : Int)) (((nat_lit 0 : Nat) : Int) + s.2.1 * ((nat_lit 10 : Nat) : Int) + ((nat_lit 10 : Nat) : Int)))
  fun (r_2 : List Int) => Option.bind (chkM o_2 ((nat_lit 8 : Nat) : Int)) fun (r_3 : Unit) => Option.bind (sliceM s.2.2 (((nat_lit 0 : Nat) : Int) + o_2 * ((nat_lit 10 : Nat) : Int)) (((nat_lit 0 : Nat) : Int) + o_2 * ((nat_lit 10 : Nat) : Int) + ((nat_lit 10 : Nat) : Int)))
  fun (r_4 : List Int) => Option.bind (chkM o_2 ((nat_lit 8 : Nat) : Int)) fun (r_5 : Unit) => Option.bind (putM s.2.2 (((nat_lit 0 : Nat) : Int) + o_2 * ((nat_lit 10 : Nat) : Int)) [nthD r_2 (nat_lit 0) (0 : Int), nthD r_2 (nat_lit 1) (0 : Int), nthD r_2 (nat_lit 2) (0 : Int), nthD r_2 (nat_lit 3) (0 : Int), nthD r_2 (nat_lit 4) (0 : Int), nthD r_2 (nat_lit 5) (0 : Int), nthD r_2 (nat_lit 6) (0 : Int), nthD r_2 (nat_lit 7) (0 : Int), nthD r_2 (nat_lit 8) (0 : Int), nthD r_2 (nat_lit 9) (0 : Int)])
  fun (r_6 : List Int) => Option.bind (chkM s.2.1 ((nat_lit 8 : Nat) : Int)) fun (r_7 : Unit) => Option.bind (putM r_6 (((nat_lit 0 : Nat) : Int) + s.2.1 * ((nat_lit 10 : Nat) : Int)) [nthD r_4 (nat_lit 0) (0 : Int), nthD r_4 (nat_lit 1) (0 : Int), nthD r_4 (nat_lit 2) (0 : Int), nthD r_4 (nat_lit 3) (0 : Int), nthD r_4 (nat_lit 4) (0 : Int), nthD r_4 (nat_lit 5) (0 : Int), nthD r_4 (nat_lit 6) (0 : Int), nthD r_4 (nat_lit 7) (0 : Int), nthD r_4 (nat_lit 8) (0 : Int), nthD r_4 (nat_lit 9) (0 : Int)])
  fun (r_8 : List Int) => Option.bind (loopM (fun (s_1 : Int × List Int) => bif ltM s_1.1 n then Option.bind (bif eqM s_1.1 s.2.1 then some s_1.2 else Option.bind (chkM s_1.1 ((nat_lit 8 : Nat) : Int))
  fun (r_9 : Unit) => Option.bind (chkM s.2.1 ((nat_lit 10 : Nat) : Int)) fun (r_10 : Unit) => Option.bind (idxM s_1.2 (((nat_lit 0 : Nat) : Int) + s_1.1 * ((nat_lit 10 : Nat) : Int) + s.2.1 * ((nat_lit 1 : Nat) : Int)))
  fun (r_11 : Int) => Option.bind (loopM (fun (s_2 : Int × List Int) => bif ltM s_2.1 (10 : Int) then Option.bind (chkM s_1.1 ((nat_lit 8 : Nat) : Int))
  fun (r_12 : Unit) => Option.bind (chkM s_2.1 ((nat_lit 10 : Nat) : Int)) fun (r_13 : Unit) => Option.bind (idxM s_2.2 (((nat_lit 0 : Nat) : Int) + s_1.1 * ((nat_lit 10 : Nat) : Int) + s_2.1 * ((nat_lit 1 : Nat) : Int)))
  fun (r_14 : Int) => Option.bind (chkM s.2.1 ((nat_lit 8 : Nat) : Int)) fun (r_15 : Unit) => Option.bind (chkM s.2.1 ((nat_lit 10 : Nat) : Int))
  fun (r_16 : Unit) => Option.bind (idxM s_2.2 (((nat_lit 0 : Nat) : Int) + s.2.1 * ((nat_lit 10 : Nat) : Int) + s.2.1 * ((nat_lit 1 : Nat) : Int)))
  fun (r_17 : Int) => Option.bind (chkM s.2.1 ((nat_lit 8 : Nat) : Int)) fun (r_18 : Unit) => Option.bind (chkM s_2.1 ((nat_lit 10 : Nat) : Int))
  fun (r_19 : Unit) => Option.bind (idxM s_2.2 (((nat_lit 0 : Nat) : Int) + s.2.1 * ((nat_lit 10 : Nat) : Int) + s_2.1 * ((nat_lit 1 : Nat) : Int)))
  fun (r_20 : Int) => Option.bind (divM IntKind.i64 (IntKind.wrap IntKind.i64 (IntKind.wrap IntKind.i64 (r_14 * r_17) - IntKind.wrap IntKind.i64 (r_11 * r_20))) s.1)
  fun (r_21 : Int) => Option.bind (chkM s_1.1 ((nat_lit 8 : Nat) : Int)) fun (r_22 : Unit) => Option.bind (chkM s_2.1 ((nat_lit 10 : Nat) : Int))
  fun (r_23 : Unit) => Option.bind (setM s_2.2 (((nat_lit 0 : Nat) : Int) + s_1.1 * ((nat_lit 10 : Nat) : Int) + s_2.1 * ((nat_lit 1 : Nat) : Int))
  fun (x : Int) => some r_21) fun (r : List Int) => some (Sum.inl (IntKind.wrap IntKind.i64 (s_2.1 + (1 : Int)), r)) else some (Sum.inr s_2.2)) ((0 : Int), s_1.2))
  fun (o : List Int) => some o) fun (o : List Int) => some (Sum.inl (IntKind.wrap IntKind.i64 (s_1.1 + (1 : Int)), o)) else some (Sum.inr s_1.2)) ((0 : Int), r_8))
  fun (o_3 : List Int) => Option.bind (chkM s.2.1 ((nat_lit 8 : Nat) : Int)) fun (r_9 : Unit) => Option.bind (chkM s.2.1 ((nat_lit 10 : Nat) : Int))
  fun (r_10 : Unit) => Option.bind (idxM o_3 (((nat_lit 0 : Nat) : Int) + s.2.1 * ((nat_lit 10 : Nat) : Int) + s.2.1 * ((nat_lit 1 : Nat) : Int)))
  fun (r : Int) => some (Sum.inl (r, IntKind.wrap IntKind.i64 (s.2.1 + (1 : Int)), o_3)) else some (Sum.inr (Sum.inl (s.1, s.2.2))))
def pr (m : Mx) (k : Nat) (d : Int) (i : Nat) : Mx := fun x y => if x < i ∧ x ≠ k then (tt m k x y).tdiv d else m x y
theorem red_step {n k : Nat} {m : Mx} {d : Int} (hn : n ≤ 8) (hk : k < n) (hd : 0 < d) (hp : m k k ≠ 0) (b1 : ∀ i j, i < n → j < 10 → ab (m i j) ≤ 671846400000) (b2 : ∀ j, j < 10 → ab (m k j) ≤ 83980800000) (b3 : ∀ i, i < n → ab (m i k) ≤ 67184640) (b4 : ab (m k k) ≤ 1679616) :
    redB (n : Int) (d, (k : Int), fl m) = some (.inl (m k k, (k : Int) + 1, fl (pr m k d n))) := by
  unfold redB
  dsimp only
  rw [ltI (by omega), cond_true]
  refine bind_of (srch hn hk fun h => absurd h hp) ?_
  rw [if_neg hp, neI (by omega), cond_false]
  have k8 := ck8 (p := k) (by omega)
  have hput := fl_put (M := m) (p := k) (by omega) (zr k)
  rw [← ten_row (m k)] at hput
  refine bind_of k8 (bind_of (fl_slice (by omega) (zr k) (zr2 k)) (bind_of k8 (bind_of (fl_slice (by omega) (zr k) (zr2 k)) (bind_of k8 (bind_of hput (bind_of k8 (bind_of hput ?_)))))))
  refine bind_of (x := fl (pr m k d n)) ?_ ?_
  · have e0 : fl m = fl (pr m k d 0) := fl_congr fun x y _ _ => by unfold pr; rw [if_neg (by omega)]
    rw [e0]
    refine count_loop (fun i => fl (pr m k d i)) n (fun i hi => ?_) ?_
    · dsimp only
      rw [ltI (by omega), cond_true]
      refine bind_of (x := fl (pr m k d (i + 1))) ?_ (by rw [wrap_in (by omega) (by omega)])
      by_cases hik : i = k
      · rw [eqI (by omega), cond_true]
        congr 1
        refine fl_congr fun x y _ _ => ?_
        unfold pr
        by_cases hx : x < i ∧ x ≠ k
        · rw [if_pos hx, if_pos ⟨by omega, hx.2⟩]
        · rw [if_neg hx, if_neg (by omega)]
      · rw [neI (by omega), cond_false]
        refine bind_of (ck8 (by omega)) (bind_of (ck10 (by omega)) (bind_of (fl_idx (by omega) (by omega) (z1 i k)) ?_))
        have p1 : ∀ y, pr m k d i i y = m i y := fun y => by unfold pr; rw [if_neg (by omega)]
        have p2 : ∀ y, pr m k d i k y = m k y := fun y => by unfold pr; rw [if_neg (by omega)]
        have L := row_loop (m := pr m k d i) (d := d) hn hk hi hik hd (fun j hj => by rw [p1]; exact b1 i j hi hj) (fun j hj => by rw [p2]; exact b2 j hj) (by rw [p1]; exact b3 i hi) (by rw [p2]; exact b4)
        refine bind_of L ?_
        congr 1
        refine fl_congr fun x y _ hy => ?_
        have ht : tt (pr m k d i) k i y = tt m k i y := by unfold tt; rw [p1, p1, p2, p2]
        unfold part
        by_cases hx : x = i
        · subst hx
          rw [if_pos ⟨rfl, hy⟩, ht]
          unfold pr
          rw [if_pos ⟨by omega, hik⟩]
        · rw [if_neg (by omega)]
          unfold pr
          by_cases hx2 : x < i ∧ x ≠ k
          · rw [if_pos hx2, if_pos ⟨by omega, hx2.2⟩]
          · rw [if_neg hx2, if_neg (by omega)]
    · dsimp only
      rw [geI (by omega), cond_false]
  · refine bind_of k8 (bind_of (ck10 (by omega)) (bind_of (fl_idx (by omega) (by omega) (z1 k k)) ?_))
    have p2 : pr m k d n k k = m k k := by unfold pr; rw [if_neg (by omega)]
    rw [p2, wrap_in (by omega) (by omega)]
theorem red_stop {n k : Nat} {m : Mx} {d : Int} (hn : n ≤ 8) (hk : k < n) (h0 : m k k = 0) (hz : ∀ x, k ≤ x → x < n → m x k = 0) : redB (n : Int) (d, (k : Int), fl m) = some (.inr (.inr (0, fl m))) := by
  unfold redB
  dsimp only
  rw [ltI (by omega), cond_true]
  refine bind_of (srch hn hk fun _ => hz) ?_
  rw [if_pos h0, eqI rfl, cond_true]
theorem red_ok {A : Mx} {n : Nat} {B : Int} {a : Nat → Nat} (h : Lap A n 10 B a) :
    ((∀ k, k < n → del A (k + 1) ≠ 0) ∧ loopM (redB (n : Int)) (1, 0, fl A) = some (.inl (del A n, fl (stt A n n)))) ∨ ((∃ k, k < n ∧ del A (k + 1) = 0) ∧ ∃ l, loopM (redB (n : Int)) (1, 0, fl A) = some (.inr (0, l))) := by
  have hn := h.hn
  have step : ∀ k, k < n → (∀ l, l < k → del A (l + 1) ≠ 0) → del A (k + 1) ≠ 0 → redB (n : Int) (del A k, (k : Int), fl (stt A n k)) = some (.inl (del A (k + 1), ((k + 1 : Nat) : Int), fl (stt A n (k + 1)))) := fun k hk hl hp => by
    obtain ⟨b, l, z, d⟩ := run_ok h k (by omega) hl
    obtain ⟨s1, s2, s3, s4⟩ := sizes h b l z d (by omega)
    obtain ⟨b', l', z', d'⟩ := run_ok h (k + 1) (by omega) fun j hj => by
      by_cases e : j = k
      · rw [e]; exact hp
      · exact hl j (by omega)
    obtain ⟨s1', _⟩ := sizes h b' l' z' d' (by omega)
    have hpv := b.pivot (by omega) hk h.hW
    rw [red_step hn hk d (by rw [hpv]; exact hp) s2 (fun j hj => s3 k j (Nat.le_refl k) hk hj) (fun i hi => s4 i hi hk) (by rw [hpv]; unfold ab; omega), hpv]
    congr 4
    refine fl_congr fun x y _ _ => ?_
    show _ = if x = k ∨ n ≤ x then stt A n k x y else (tt (stt A n k) k x y).tdiv (del A k)
    unfold pr
    by_cases hx : x < n ∧ x ≠ k
    · rw [if_pos hx, if_neg (by omega)]
    · rw [if_neg hx, if_pos (by omega)]
  by_cases hall : ∀ k, k < n → del A (k + 1) ≠ 0
  · left
    refine ⟨hall, ?_⟩
    exact loopM_fn (body := redB (n : Int)) (fun k => (del A k, (k : Int), fl (stt A n k))) n (fun k hk => step k hk (fun l hl => hall l (by omega)) (hall k hk)) (by
      unfold redB
      dsimp only
      rw [geI (by omega), cond_false])
  · right
    have hex : ∃ k, k < n ∧ del A (k + 1) = 0 := by
      refine Classical.byContradiction fun hno => hall fun k hk hz => hno ⟨k, hk, hz⟩
    refine ⟨hex, ?_⟩
    have least : ∀ m, (∃ k, k < m ∧ k < n ∧ del A (k + 1) = 0) → ∃ k, k < n ∧ del A (k + 1) = 0 ∧ ∀ l, l < k → del A (l + 1) ≠ 0 := by
      intro m
      induction m with
      | zero => rintro ⟨k, hk, _⟩; exact absurd hk (Nat.not_lt_zero _)
      | succ m ih =>
        rintro ⟨k, hk, hkn, hz⟩
        by_cases hlow : ∃ k, k < m ∧ k < n ∧ del A (k + 1) = 0
        · exact ih hlow
        · refine ⟨k, hkn, hz, fun l hl hz' => hlow ⟨l, by omega, by omega, hz'⟩⟩
    obtain ⟨k1, hk1, hz1⟩ := hex
    obtain ⟨k, hk, hz, hl⟩ := least n ⟨k1, hk1, hk1, hz1⟩
    obtain ⟨b, l, z, d⟩ := run_ok h k (by omega) hl
    have hpv := b.pivot (by omega) hk h.hW
    have h0 : stt A n k k k = 0 := by rw [hpv]; exact hz
    exact ⟨_, loopM_fn (body := redB (n : Int)) (fun k => (del A k, (k : Int), fl (stt A n k))) k (fun j hj => step j (by omega) (fun l' hl' => hl l' (by omega)) (hl j hj)) (red_stop hn hk h0 (l.zero hk h0))⟩
end Go.Proofs.Ytklddmmnggcffaa
/-
  Network: Least.
  No conditions.
-/
namespace Go.Proofs.Ytklddmmnggcffaa
open Go Go.Abs Go.PE Go.Det
set_option linter.unusedVariables false
def big (a : Int) : Prop := -9000000000000000000 ≤ a ∧ a ≤ 9000000000000000000
def gI (a b : Int) : Int := ((Int.gcd a b : Nat) : Int)
theorem gcd_loop : ∀ (N : Nat) (a b : Int), b.natAbs ≤ N → big a → big b → ∃ r, loopM (fun (s : Int × Int) => bif PE.notM (eqM s.2 (0 : Int)) then Option.bind (remM s.1 s.2) fun (r : Int) => some (Sum.inl (s.2, r)) else some (Sum.inr s.1)) (a, b) = some r ∧ r.natAbs = Int.gcd a b ∧ big r := by
  intro N
  induction N with
  | zero =>
    intro a b hN ha hb
    have e : b = 0 := by omega
    subst e
    refine ⟨a, ?_, ?_, ha⟩
    · rw [loopM_eq]; rfl
    · show _ = Nat.gcd a.natAbs 0
      rw [Nat.gcd_zero_right]
  | succ N ih =>
    intro a b hN ha hb
    by_cases e : b = 0
    · subst e
      refine ⟨a, ?_, ?_, ha⟩
      · rw [loopM_eq]; rfl
      · show _ = Nat.gcd a.natAbs 0
        rw [Nat.gcd_zero_right]
    · have ht := Int.natAbs_tmod a b
      have hlt : a.natAbs % b.natAbs < b.natAbs := Nat.mod_lt _ (by omega)
      have hbt : big (a.tmod b) := by unfold big at *; omega
      obtain ⟨r, h1, h2, h3⟩ := ih b (a.tmod b) (by omega) hb hbt
      refine ⟨r, ?_, ?_, h3⟩
      · rw [loopM_eq]
        dsimp only
        have e1 : remM a b = some (a.tmod b) := by unfold remM; rw [decide_eq_false e]
        rw [neI e, notF, cond_true, e1]
        exact h1
      · rw [h2]
        show Nat.gcd b.natAbs (a.tmod b).natAbs = Nat.gcd a.natAbs b.natAbs
        rw [ht, Nat.gcd_comm a.natAbs b.natAbs, Nat.gcd_rec b.natAbs a.natAbs, Nat.gcd_comm]
theorem m52_eq {a b : Int} (ha : big a) (hb : big b) : m52 (a, b) = some (gI a b) := by
  obtain ⟨r, h1, h2, h3⟩ := gcd_loop b.natAbs a b (Nat.le_refl _) ha hb
  unfold m52
  refine bind_of h1 ?_
  unfold big at h3
  have w : IntKind.wrap IntKind.i64 (negM r) = -r := wrap_in (n := -r) (by omega) (by omega)
  rw [w]
  unfold gI
  congr 1
  omega
theorem gI_left (a b : Int) : gI a b ∣ a := Int.gcd_dvd_left a b
theorem gI_right (a b : Int) : gI a b ∣ b := Int.gcd_dvd_right a b
theorem gI_nn (a b : Int) : 0 ≤ gI a b := Int.natCast_nonneg _
theorem gI_pos {a : Int} (h : 0 < a) (b : Int) : 0 < gI a b ∧ gI a b ≤ a := by
  have h1 := gI_nn a b
  have h2 := Int.le_of_dvd h (gI_left a b)
  refine ⟨?_, h2⟩
  refine Int.not_le.1 fun hle => ?_
  have e : gI a b = 0 := by omega
  have := gI_left a b
  rw [e] at this
  have := Int.zero_dvd.1 this
  omega
theorem gI_add {g d x t : Int} (h : g ∣ d) : gI g (x + t * d) = gI g x := by
  refine Int.dvd_antisymm (gI_nn _ _) (gI_nn _ _) ?_ ?_
  · refine Int.dvd_coe_gcd (gI_left _ _) ?_
    have h1 := gI_right g (x + t * d)
    have h2 : gI g (x + t * d) ∣ t * d := Int.dvd_trans (gI_left _ _) (Int.dvd_trans h (Int.dvd_mul_left t d))
    have := Int.dvd_sub h1 h2
    rwa [Int.add_sub_cancel] at this
  · refine Int.dvd_coe_gcd (gI_left _ _) ?_
    exact Int.dvd_add (gI_right _ _) (Int.dvd_trans (gI_left _ _) (Int.dvd_trans h (Int.dvd_mul_left t d)))
def gc (d : Int) (X Y : Nat → Int) : Nat → Int
  | 0 => d
  | k + 1 => gI (gI (gc d X Y k) (X k)) (Y k)
theorem gc_pos {d : Int} (hd : 0 < d) (X Y : Nat → Int) : ∀ k, 0 < gc d X Y k ∧ gc d X Y k ≤ d
  | 0 => ⟨hd, Int.le_refl d⟩
  | k + 1 => by
    obtain ⟨h1, h2⟩ := gc_pos hd X Y k
    have h3 := gI_pos h1 (X k)
    have h4 := gI_pos h3.1 (Y k)
    show 0 < gI (gI (gc d X Y k) (X k)) (Y k) ∧ gI (gI (gc d X Y k) (X k)) (Y k) ≤ d
    omega
theorem gc_dvd (d : Int) (X Y : Nat → Int) : ∀ k, gc d X Y k ∣ d ∧ ∀ i, i < k → gc d X Y k ∣ X i ∧ gc d X Y k ∣ Y i
  | 0 => ⟨Int.dvd_refl d, fun i hi => absurd hi (Nat.not_lt_zero _)⟩
  | k + 1 => by
    obtain ⟨h1, h2⟩ := gc_dvd d X Y k
    have h3 : gc d X Y (k + 1) ∣ gI (gc d X Y k) (X k) := gI_left _ _
    have h4 : gc d X Y (k + 1) ∣ gc d X Y k := Int.dvd_trans h3 (gI_left _ _)
    refine ⟨Int.dvd_trans h4 h1, fun i hi => ?_⟩
    by_cases e : i = k
    · subst e
      exact ⟨Int.dvd_trans h3 (gI_right _ _), gI_right _ _⟩
    · obtain ⟨h5, h6⟩ := h2 i (by omega)
      exact ⟨Int.dvd_trans h4 h5, Int.dvd_trans h4 h6⟩
theorem gc_add (d u v : Int) (X Y : Nat → Int) : ∀ k, gc d (fun i => X i + u * d) (fun i => Y i + v * d) k = gc d X Y k
  | 0 => rfl
  | k + 1 => by
    show gI (gI (gc d (fun i => X i + u * d) (fun i => Y i + v * d) k) (X k + u * d)) (Y k + v * d) = gI (gI (gc d X Y k) (X k)) (Y k)
    have h := (gc_dvd d X Y k).1
    rw [gc_add d u v X Y k, gI_add h, gI_add (Int.dvd_trans (gI_left _ _) h)]
noncomputable def gB (n : Int) (l : List Int) : Int × Int × Int × List Int × List Int → Option ((Int × Int × Int × List Int × List Int) ⊕ (Int × Int × List Int × List Int)) :=
  (fun (s : Int × Int × Int × List Int × List Int) => bif ltM s.2.1 n then Option.bind (chkM s.2.1 ((nat_lit 8 : Nat) : Int))
  fun (r_1 : Unit) => Option.bind (idxM l (((nat_lit 0 : Nat) : Int) + s.2.1 * ((nat_lit 10 : Nat) : Int) + (8 : Int))) fun (r_2 : Int) => Option.bind (appM (nat_lit 8) s.2.2.2.1 [r_2])
  fun (r_3 : List Int) => Option.bind (chkM s.2.1 ((nat_lit 8 : Nat) : Int)) fun (r_4 : Unit) => Option.bind (idxM l (((nat_lit 0 : Nat) : Int) + s.2.1 * ((nat_lit 10 : Nat) : Int) + (9 : Int)))
  fun (r_5 : Int) => Option.bind (appM (nat_lit 8) s.2.2.2.2 [r_5]) fun (r_6 : List Int) => Option.bind (chkM s.2.1 (lenM r_3))
  fun (r_7 : Unit) => Option.bind (idxM r_3 s.2.1) fun (r_8 : Int) => Option.bind (m52 (s.1, r_8)) fun (r_9 : Int) => Option.bind (chkM s.2.1 (lenM r_6))
  fun (r_10 : Unit) => Option.bind (idxM r_6 s.2.1) fun (r_11 : Int) => Option.bind (m52 (r_9, r_11)) fun (r : Int) => some (Sum.inl (r, IntKind.wrap IntKind.i64 (s.2.1 + (1 : Int)), s.2.2.1, r_3, r_6)) else some (Sum.inr (s.1, s.2.2.1, s.2.2.2.1, s.2.2.2.2)))
theorem gB_ok {n : Nat} {M : Mx} {d : Int} (hn : n ≤ 8) (hd : 0 < d) (hd2 : big d) (hM : ∀ i j, i < n → j < 10 → big (M i j)) : loopM (gB (n : Int) (fl M)) (d, (0 : Int), d, [], []) = some (gc d (fun i => M i 8) (fun i => M i 9) n, d, row n (fun i => M i 8), row n fun i => M i 9) := by
  refine loopM_fn (body := gB (n : Int) (fl M)) (fun k => (gc d (fun i => M i 8) (fun i => M i 9) k, (k : Int), d, row k (fun i => M i 8), row k fun i => M i 9)) n (fun k hk => ?_) ?_
  · obtain ⟨g1, g2⟩ := gc_pos hd (fun i => M i 8) (fun i => M i 9) k
    have hg : big (gc d (fun i => M i 8) (fun i => M i 9) k) := by unfold big at *; omega
    have h8 := hM k 8 hk (by omega)
    have h9 := hM k 9 hk (by omega)
    obtain ⟨g3, g4⟩ := gI_pos g1 (M k 8)
    have hg2 : big (gI (gc d (fun i => M i 8) (fun i => M i 9) k) (M k 8)) := by unfold big at *; omega
    have l1 : lenM (row (k + 1) fun i => M i 8) = (k : Int) + 1 := by rw [lenR]; omega
    have l2 : lenM (row (k + 1) fun i => M i 9) = (k : Int) + 1 := by rw [lenR]; omega
    unfold gB
    dsimp only
    rw [ltI (by omega), cond_true]
    refine bind_of (ck8 (by omega)) (bind_of (fl_idx (by omega) (by omega) (z8 k)) (bind_of (app_row (g := fun i => M i 8) (by show (k + 1) * 8 ≤ 140737488355328; omega)) (bind_of (ck8 (by omega)) (bind_of (fl_idx (by omega) (by omega) (z9 k)) (bind_of (app_row (g := fun i => M i 9) (by show (k + 1) * 8 ≤ 140737488355328; omega)) ?_)))))
    rw [l1, l2]
    refine bind_of (chkM_of (by omega) (by omega)) (bind_of (row_idx (by omega)) (bind_of (m52_eq hg h8) (bind_of (chkM_of (by omega) (by omega)) (bind_of (row_idx (by omega)) (bind_of (m52_eq hg2 h9) ?_)))))
    rw [wrap_in (by omega) (by omega)]
    rfl
  · unfold gB
    dsimp only
    rw [geI (by omega), cond_false]
noncomputable def qB (n : Int) (g : Int) : Int × List Int × List Int → Option ((Int × List Int × List Int) ⊕ (List Int × List Int)) :=
  (fun (s : Int × List Int × List Int) => bif ltM s.1 n then Option.bind (chkM s.1 (lenM s.2.1)) fun (r_2 : Unit) => Option.bind (idxM s.2.1 s.1)
  fun (r_3 : Int) => Option.bind (divM IntKind.i64 r_3 g) fun (r_4 : Int) => Option.bind (chkM s.1 (lenM s.2.1)) fun (r_5 : Unit) => Option.bind (setM s.2.1 s.1
  fun (x : Int) => some r_4) fun (r_6 : List Int) => Option.bind (chkM s.1 (lenM s.2.2)) fun (r_7 : Unit) => Option.bind (idxM s.2.2 s.1)
  fun (r_8 : Int) => Option.bind (divM IntKind.i64 r_8 g) fun (r_9 : Int) => Option.bind (chkM s.1 (lenM s.2.2)) fun (r_10 : Unit) => Option.bind (setM s.2.2 s.1
  fun (x : Int) => some r_9) fun (r : List Int) => some (Sum.inl (IntKind.wrap IntKind.i64 (s.1 + (1 : Int)), r_6, r)) else some (Sum.inr (s.2.1, s.2.2)))
theorem qB_ok {n : Nat} {X Y : Nat → Int} {g : Int} (hn : n ≤ 8) (hg : 0 < g) (hX : ∀ i, i < n → big (X i)) (hY : ∀ i, i < n → big (Y i)) : loopM (qB (n : Int) g) ((0 : Int), row n X, row n Y) = some (row n (fun i => (X i).tdiv g), row n fun i => (Y i).tdiv g) := by
  have qq : ∀ v : Int, big v → IntKind.wrap IntKind.i64 (v.tdiv g) = v.tdiv g := fun v hv => by
    have := Int.natAbs_tdiv_le_natAbs v g
    unfold big at hv
    exact wrap_in (by omega) (by omega)
  have e0 : ∀ X : Nat → Int, row n X = row n fun i => if i < 0 then (X i).tdiv g else X i := fun X => row_congr fun i _ => by rw [if_neg (Nat.not_lt_zero _)]
  have e1 : ∀ X : Nat → Int, (row n fun i => (X i).tdiv g) = row n fun i => if i < n then (X i).tdiv g else X i := fun X => row_congr fun i hi => by rw [if_pos hi]
  rw [e0 X, e0 Y, e1 X, e1 Y]
  refine loopM_fn (body := qB (n : Int) g) (fun k => ((k : Int), row n (fun i => if i < k then (X i).tdiv g else X i), row n fun i => if i < k then (Y i).tdiv g else Y i)) n (fun k hk => ?_) ?_
  · have st : ∀ X : Nat → Int, big (X k) → (Option.bind (idxM (row n fun i => if i < k then (X i).tdiv g else X i) (k : Int)) fun r => divM IntKind.i64 r g) = some ((X k).tdiv g) := fun X hXk => by
      rw [row_idx hk, Option.bind_some, if_neg (Nat.lt_irrefl k), divM_pos (by omega), qq _ hXk]
    have ss : ∀ X : Nat → Int, setM (row n fun i => if i < k then (X i).tdiv g else X i) (k : Int) (fun _ => some ((X k).tdiv g)) = some (row n fun i => if i < k + 1 then (X i).tdiv g else X i) := fun X => by
      rw [set_rowA hk]
      congr 1
      refine row_congr fun i _ => ?_
      by_cases e : i = k
      · rw [if_pos e, if_pos (by omega), e]
      · rw [if_neg e]
        by_cases h : i < k
        · rw [if_pos h, if_pos (by omega)]
        · rw [if_neg h, if_neg (by omega)]
    obtain ⟨x1, y1, z1⟩ := Option.bind_eq_some_iff.1 (st X (hX k hk))
    obtain ⟨x2, y2, z2⟩ := Option.bind_eq_some_iff.1 (st Y (hY k hk))
    have l1 : ∀ g : Nat → Int, lenM (row n g) = (n : Int) := fun g => lenR ..
    unfold qB
    dsimp only
    rw [ltI (by omega), cond_true, l1, l1]
    refine bind_of (chkM_of (by omega) (by omega)) (bind_of y1 (bind_of z1 (bind_of (chkM_of (by omega) (by omega)) (bind_of (ss X) (bind_of (chkM_of (by omega) (by omega)) (bind_of y2 (bind_of z2 (bind_of (chkM_of (by omega) (by omega)) (bind_of (ss Y) ?_)))))))))
    rw [wrap_in (by omega) (by omega)]
    rfl
  · unfold qB
    dsimp only
    rw [geI (by omega), cond_false]
end Go.Proofs.Ytklddmmnggcffaa
/-
  Network: what Least computes.
  No conditions.
-/
namespace Go.Proofs.Ytklddmmnggcffaa
open Go Go.Abs Go.PE Go.Det
set_option linter.unusedVariables false
def xs8 (c : Net) (i : Nat) : Int := stt (nmA c) c.1.toNat c.1.toNat i 8
def xs9 (c : Net) (i : Nat) : Int := stt (nmA c) c.1.toNat c.1.toNat i 9
def gcN (c : Net) : Int := gc (del (nmA c) c.1.toNat) (xs8 c) (xs9 c) c.1.toNat
def lstN (c : Net) : List Int × List Int × Int := (row c.1.toNat (fun i => (xs8 c i).tdiv (gcN c)), row c.1.toNat (fun i => (xs9 c i).tdiv (gcN c)), (del (nmA c) c.1.toNat).tdiv (gcN c))
def regN (c : Net) : Prop := ∀ k, k < c.1.toNat → del (nmA c) (k + 1) ≠ 0
theorem zero_fl : ([(0 : Int), (0 : Int), (0 : Int), (0 : Int), (0 : Int), (0 : Int), (0 : Int), (0 : Int), (0 : Int), (0 : Int), (0 : Int), (0 : Int), (0 : Int), (0 : Int), (0 : Int), (0 : Int), (0 : Int), (0 : Int), (0 : Int), (0 : Int), (0 : Int), (0 : Int), (0 : Int), (0 : Int), (0 : Int), (0 : Int), (0 : Int), (0 : Int), (0 : Int), (0 : Int), (0 : Int), (0 : Int), (0 : Int), (0 : Int), (0 : Int), (0 : Int), (0 : Int), (0 : Int), (0 : Int), (0 : Int), (0 : Int), (0 : Int), (0 : Int), (0 : Int), (0 : Int), (0 : Int), (0 : Int), (0 : Int), (0 : Int), (0 : Int), (0 : Int), (0 : Int), (0 : Int), (0 : Int), (0 : Int), (0 : Int), (0 : Int), (0 : Int), (0 : Int), (0 : Int), (0 : Int), (0 : Int), (0 : Int), (0 : Int), (0 : Int), (0 : Int), (0 : Int), (0 : Int), (0 : Int), (0 : Int), (0 : Int), (0 : Int), (0 : Int), (0 : Int), (0 : Int), (0 : Int), (0 : Int), (0 : Int), (0 : Int), (0 : Int)] : List Int) = fl fun _ _ => 0 := rfl
theorem m25_eq {c : Net} (h : NOK c) (hL : Lap (nmA c) c.1.toNat 10 50000 (dgN (nmA c))) : (regN c ∧ 0 < del (nmA c) c.1.toNat ∧ m25 c = some (lstN c, 0)) ∨ (¬ regN c ∧ m25 c = some (([], [], 0), 100)) := by
  have h0 := h.n0
  have h8 := h.n8
  have hN : ((c.1.toNat : Nat) : Int) = c.1 := by omega
  have F := nm_fix h
  rw [← zero_fl] at F
  rcases red_ok hL with ⟨hall, hr⟩ | ⟨⟨k, hk, hz⟩, l, hr⟩
  · left
    obtain ⟨b, lb, z, d⟩ := run_ok hL c.1.toNat (Nat.le_refl _) hall
    obtain ⟨s1, s2, _, _⟩ := sizes hL b lb z d (Nat.le_refl _)
    refine ⟨hall, d, ?_⟩
    have hbig : ∀ i j, i < c.1.toNat → j < 10 → big (stt (nmA c) c.1.toNat c.1.toNat i j) := fun i j hi hj => by
      have h1 := s2 i j hi hj
      have h2 := ab_le (stt (nmA c) c.1.toNat c.1.toNat i j)
      unfold big
      omega
    have G := gB_ok (M := stt (nmA c) c.1.toNat c.1.toNat) (n := c.1.toNat) (d := del (nmA c) c.1.toNat) (by omega) d (by unfold big; omega) hbig
    obtain ⟨g1, g2⟩ := gc_pos d (xs8 c) (xs9 c) c.1.toNat
    have Q := qB_ok (n := c.1.toNat) (X := xs8 c) (Y := xs9 c) (g := gcN c) (by omega) g1 (fun i hi => hbig i 8 hi (by omega)) (fun i hi => hbig i 9 hi (by omega))
    rw [hN] at hr G Q
    unfold m25
    refine bind_of (m18_eq c) ?_
    rw [nval_iff.2 h, notT, cond_false]
    refine bind_of F (bind_of (nm_sgt h) (bind_of (bind_of hr rfl) ?_))
    dsimp only
    rw [neI (by omega), cond_false]
    refine bind_of G ?_
    dsimp only
    rw [geI (by omega), cond_false, Option.bind_some]
    have hq : divM IntKind.i64 (del (nmA c) c.1.toNat) (gcN c) = some ((del (nmA c) c.1.toNat).tdiv (gcN c)) := by
      have hg0 : gcN c ≠ 0 := by unfold gcN; omega
      have := Int.natAbs_tdiv_le_natAbs (del (nmA c) c.1.toNat) (gcN c)
      rw [divM_pos hg0, wrap_in (by omega) (by omega)]
    refine bind_of hq ?_
    exact bind_of Q rfl
  · right
    refine ⟨fun hall => hall k hk hz, ?_⟩
    rw [hN] at hr
    unfold m25
    refine bind_of (m18_eq c) ?_
    rw [nval_iff.2 h, notT, cond_false]
    exact bind_of F (bind_of (nm_sgt h) (bind_of (bind_of hr rfl) rfl))
end Go.Proofs.Ytklddmmnggcffaa
/-
  Network: sizes of boxes; corners of boxes are allowed.
  No conditions.
-/
namespace Go.Proofs.Ytklddmmnggcffaa
open Go Go.Abs Go.PE
set_option linter.unusedVariables false
end Go.Proofs.Ytklddmmnggcffaa
/-
  Network: moved fixes, a reversed sight.
  No conditions.
-/
namespace Go.Proofs.Ytklddmmnggcffaa
open Go Go.Abs Go.PE Go.Det
set_option linter.unusedVariables false
def farF (u v : Int) (f : Fix) : Fix := (f.1, f.2.1 + u, f.2.2.1 + v, f.2.2.2)
def farN (u v : Int) (c : Net) : Net := (c.1, c.2.1.map (farF u v), c.2.2)
def rvS (s : Sgt) : Sgt := (s.2.1, s.1, -s.2.2.1, -s.2.2.2.1, s.2.2.2.2)
def bkN (k : Nat) (c : Net) : Net := (c.1, c.2.1, c.2.2.set k (rvS (c.2.2.getD k (0, 0, 0, 0, 0))))
def phi (n : Nat) (u : Int) (i : Nat) : Int := if i < n then u else 0
theorem bds_map {g : Obs → Obs} {φ : Nat → Int} : ∀ {os : List Obs}, (∀ o ∈ os, two (g o) = (two o).map (shB φ)) → bds (os.map g) = (bds os).map (shB φ)
  | [], _ => rfl
  | o :: r, h => by
    show two (g o) ++ bds (r.map g) = (two o ++ bds r).map (shB φ)
    rw [List.map_append, h o (List.mem_cons_self ..), bds_map (os := r) fun o ho => h o (List.mem_cons_of_mem _ ho)]
theorem far_bds {c : Net} (h : NOK c) {u v t : Int} {d1 : Fix → Int} {d2 : Sgt → Int} (hd : ∀ f, d1 (farF u v f) = d1 f + t) : bds (obs d1 d2 (farN u v c)) = (bds (obs d1 d2 c)).map (shB (phi c.1.toNat t)) := by
  have h0 := h.n0
  unfold obs farN
  dsimp only
  rw [bds_app, bds_app, List.map_append]
  congr 1
  · have e : (c.2.1.map (farF u v)).map (fOb d1 c.1) = (c.2.1.map (fOb d1 c.1)).map fun o => (o.1, o.2.1, o.2.2.1 + t, o.2.2.2) := by
      rw [List.map_map, List.map_map]
      refine List.map_congr_left fun f _ => ?_
      show (c.1, f.1, d1 (farF u v f), f.2.2.2) = (c.1, f.1, d1 f + t, f.2.2.2)
      rw [hd]
    rw [e]
    refine bds_map fun o ho => ?_
    obtain ⟨f, hf, rfl⟩ := List.mem_map.1 ho
    have hm := h.fx f hf
    have e1 : phi c.1.toNat t c.1.toNat = 0 := if_neg (Nat.lt_irrefl _)
    have e2 : phi c.1.toNat t f.1.toNat = t := if_pos (by omega)
    unfold two shB fOb
    simp only [List.map_cons, List.map_nil, e1, e2]
    rw [show d1 f + t + f.2.2.2 = d1 f + f.2.2.2 + t - 0 by omega, show f.2.2.2 - (d1 f + t) = f.2.2.2 - d1 f + 0 - t by omega]
  · have e : c.2.2.map (sOb d2) = (c.2.2.map (sOb d2)).map fun o => o := (List.map_id' _).symm
    rw [e]
    conv => rhs; rw [← e]
    refine bds_map fun o ho => ?_
    obtain ⟨s, hs, rfl⟩ := List.mem_map.1 ho
    have hm := h.sg s hs
    have e1 : phi c.1.toNat t s.1.toNat = t := if_pos (by omega)
    have e2 : phi c.1.toNat t s.2.1.toNat = t := if_pos (by omega)
    unfold two shB sOb
    simp only [List.map_cons, List.map_nil, e1, e2]
    rw [show d2 s + s.2.2.2.2 + t - t = d2 s + s.2.2.2.2 by omega, show s.2.2.2.2 - d2 s + t - t = s.2.2.2.2 - d2 s by omega]
theorem far_X {c : Net} (h : NOK c) (u v : Int) : axX (farN u v c) = ((axX c).1, (axX c).2.map (shB (phi c.1.toNat u))) := by
  unfold axX obX
  rw [far_bds h (t := u) fun f => rfl]
  rfl
theorem far_Y {c : Net} (h : NOK c) (u v : Int) : axY (farN u v c) = ((axY c).1, (axY c).2.map (shB (phi c.1.toNat v))) := by
  unfold axY obY
  rw [far_bds h (t := v) fun f => rfl]
  rfl
theorem bk_sub {c : Net} {k : Nat} {d1 : Fix → Int} {d2 : Sgt → Int} (hd : ∀ s, d2 (rvS s) = -d2 s) {b : Int × Int × Int} : b ∈ bds (obs d1 d2 (bkN k c)) ↔ b ∈ bds (obs d1 d2 c) := by
  obtain ⟨a, b, m⟩ := b
  have rv : ∀ s, ((a = (sOb d2 (rvS s)).1 ∧ b = (sOb d2 (rvS s)).2.1 ∧ m = (sOb d2 (rvS s)).2.2.1 + (sOb d2 (rvS s)).2.2.2) ∨ (a = (sOb d2 (rvS s)).2.1 ∧ b = (sOb d2 (rvS s)).1 ∧ m = (sOb d2 (rvS s)).2.2.2 - (sOb d2 (rvS s)).2.2.1)) ↔ ((a = (sOb d2 s).1 ∧ b = (sOb d2 s).2.1 ∧ m = (sOb d2 s).2.2.1 + (sOb d2 s).2.2.2) ∨ (a = (sOb d2 s).2.1 ∧ b = (sOb d2 s).1 ∧ m = (sOb d2 s).2.2.2 - (sOb d2 s).2.2.1)) := fun s => by
    have := hd s
    unfold sOb
    dsimp only
    have r1 : (rvS s).1 = s.2.1 := rfl
    have r2 : (rvS s).2.1 = s.1 := rfl
    have r3 : (rvS s).2.2.2.2 = s.2.2.2.2 := rfl
    rw [r1, r2, r3, this]
    omega
  rw [mem_bds, mem_bds]
  constructor
  · rintro ⟨o, ho, hh⟩
    rcases List.mem_append.1 ho with ho | ho
    · exact ⟨o, List.mem_append.2 (.inl ho), hh⟩
    · obtain ⟨s, hs, rfl⟩ := List.mem_map.1 ho
      rcases List.mem_or_eq_of_mem_set hs with hs | rfl
      · exact ⟨_, List.mem_append.2 (.inr (List.mem_map.2 ⟨s, hs, rfl⟩)), hh⟩
      · by_cases hk : k < c.2.2.length
        · exact ⟨_, List.mem_append.2 (.inr (List.mem_map.2 ⟨_, memD hk _, rfl⟩)), (rv _).1 hh⟩
        · have e : c.2.2.set k (rvS (c.2.2.getD k (0, 0, 0, 0, 0))) = c.2.2 := List.set_eq_of_length_le (by omega)
          have hs' : rvS (c.2.2.getD k (0, 0, 0, 0, 0)) ∈ c.2.2 := by
            have hs2 : rvS (c.2.2.getD k (0, 0, 0, 0, 0)) ∈ c.2.2.set k (rvS (c.2.2.getD k (0, 0, 0, 0, 0))) := hs
            rwa [e] at hs2
          exact ⟨_, List.mem_append.2 (.inr (List.mem_map.2 ⟨_, hs', rfl⟩)), hh⟩
  · rintro ⟨o, ho, hh⟩
    rcases List.mem_append.1 ho with ho | ho
    · exact ⟨o, List.mem_append.2 (.inl ho), hh⟩
    · obtain ⟨s, hs, rfl⟩ := List.mem_map.1 ho
      obtain ⟨i, hi, rfl⟩ := List.mem_iff_getElem.1 hs
      by_cases hik : i = k
      · subst hik
        refine ⟨sOb d2 (rvS c.2.2[i]), List.mem_append.2 (.inr (List.mem_map.2 ⟨_, ?_, rfl⟩)), (rv _).2 hh⟩
        have e : c.2.2.getD i (0, 0, 0, 0, 0) = c.2.2[i] := getD_of hi
        show rvS c.2.2[i] ∈ c.2.2.set i (rvS (c.2.2.getD i (0, 0, 0, 0, 0)))
        rw [e]
        exact List.mem_set hi _
      · refine ⟨_, List.mem_append.2 (.inr (List.mem_map.2 ⟨c.2.2[i], ?_, rfl⟩)), hh⟩
        have hl : i < (c.2.2.set k (rvS (c.2.2.getD k (0, 0, 0, 0, 0)))).length := by rw [List.length_set]; exact hi
        have e : (c.2.2.set k (rvS (c.2.2.getD k (0, 0, 0, 0, 0))))[i] = c.2.2[i] := by rw [List.getElem_set]; rw [if_neg (fun h => hik h.symm)]
        show c.2.2[i] ∈ c.2.2.set k (rvS (c.2.2.getD k (0, 0, 0, 0, 0)))
        rw [← e]
        exact List.getElem_mem hl
theorem shf_bk {c : Net} (k : Nat) : Shf (axX c) (axX (bkN k c)) (fun _ => 0) ∧ Shf (axY c) (axY (bkN k c)) (fun _ => 0) :=
  ⟨⟨rfl, fun a b m hm => by rw [show m + 0 - 0 = m by omega]; exact (bk_sub (d1 := fX) (d2 := sX) fun _ => rfl).2 hm, fun a b m hm => by rw [show m - 0 + 0 = m by omega]; exact (bk_sub (d1 := fX) (d2 := sX) fun _ => rfl).1 hm⟩,
   ⟨rfl, fun a b m hm => by rw [show m + 0 - 0 = m by omega]; exact (bk_sub (d1 := fY) (d2 := sY) fun _ => rfl).2 hm, fun a b m hm => by rw [show m - 0 + 0 = m by omega]; exact (bk_sub (d1 := fY) (d2 := sY) fun _ => rfl).1 hm⟩⟩
theorem shf_far {c : Net} (h : NOK c) (u v : Int) : Shf (axX c) (axX (farN u v c)) (phi c.1.toNat u) ∧ Shf (axY c) (axY (farN u v c)) (phi c.1.toNat v) := by
  rw [far_X h, far_Y h]
  exact ⟨shf_map _ _, shf_map _ _⟩
def mvB (b : Bx) (u v : Int) : Bx := (b.1 + u, b.2.1 + u, b.2.2.1 + v, b.2.2.2 + v)
theorem ap_sh {c c' : Net} {φ ψ : Nat → Int} (h : NOK c) (h' : NOK c') (SX : Shf (axX c) (axX c') φ) (SY : Shf (axY c) (axY c') ψ) : okN c' = okN c ∧ ∀ i j, i ≤ c.1.toNat → j ≤ c.1.toNat → apM c' i j = if okN c = true ∧ cnB c i j = true then (mvB (boxR c i j) (φ j - φ i) (ψ j - ψ i), 0) else err := by
  have hok : okN c' = okN c := by
    unfold okN
    rw [SX.ov (sysX h) (sysX h'), SY.ov (sysY h) (sysY h')]
  refine ⟨hok, fun i j hi hj => ?_⟩
  unfold apM
  rw [hok]
  by_cases ho : okN c = true
  · obtain ⟨o1, o2⟩ := okN_iff.1 ho
    have nX := axX_n h
    have nY := axY_n h
    have f1 := SX.fw (sysX h) (sysX h') o1 (i := i) (j := j) (by omega) (by omega)
    have f2 := SX.fw (sysX h) (sysX h') o1 (i := j) (j := i) (by omega) (by omega)
    have f3 := SY.fw (sysY h) (sysY h') o2 (i := i) (j := j) (by omega) (by omega)
    have f4 := SY.fw (sysY h) (sysY h') o2 (i := j) (j := i) (by omega) (by omega)
    have hcn : cnB c' i j = cnB c i j := by
      unfold cnB
      rw [Bool.eq_iff_iff, decide_eq_true_eq, decide_eq_true_eq]
      show fwS (axX c') i j ≠ _ ↔ fwS (axX c) i j ≠ _
      omega
    rw [hcn]
    by_cases hc : okN c = true ∧ cnB c i j = true
    · rw [if_pos hc, if_pos hc]
      have c1 := (cnB_iff h ho hi hj).1 hc.2
      have aX := (axisX h ho).cn
      have aY := (axisY h ho).cn
      have n1 := (aX i j hi hj).2 c1
      have n2 := (aX j i hj hi).2 c1.symm
      have n3 := (aY i j hi hj).2 c1
      have n4 := (aY j i hj hi).2 c1.symm
      have f1 := (f1.resolve_left fun h => n1 h.1).2.2
      have f2 := (f2.resolve_left fun h => n2 h.1).2.2
      have f3 := (f3.resolve_left fun h => n3 h.1).2.2
      have f4 := (f4.resolve_left fun h => n4 h.1).2.2
      unfold boxR mvB fX' fY'
      dsimp only
      show ((-fwS (axX c') j i, fwS (axX c') i j, -fwS (axY c') j i, fwS (axY c') i j), (0 : Int)) = _
      rw [f1, f2, f3, f4]
      congr 1
      refine Prod.ext ?_ (Prod.ext ?_ (Prod.ext ?_ ?_)) <;> dsimp only <;> omega
    · rw [if_neg hc, if_neg hc]
      rfl
  · rw [if_neg fun h => ho h.1, if_neg fun h => ho h.1]
    rfl
theorem bl_far {c : Net} (h : NOK c) {u v : Int} (h' : NOK (farN u v c)) (hu : -10000 ≤ u ∧ u ≤ 10000) (hv : -10000 ≤ v ∧ v ≤ 10000) : blL (farN u v c) = blL c := by
  obtain ⟨SX, SY⟩ := shf_far h u v
  have o1 := SX.ov (sysX h) (sysX h')
  have o2 := SY.ov (sysY h) (sysY h')
  have hp : ∀ t : Int, (-10000 ≤ t ∧ t ≤ 10000) → ∀ i, -10000 ≤ phi c.1.toNat t i ∧ phi c.1.toNat t i ≤ 10000 := fun t ht i => by unfold phi; split <;> omega
  have c1 : cycL (axX (farN u v c)).2 = cycL (axX c).2 := by
    have s1 := (sys_all (sysX h)).2.1
    have s2 := (sys_all (sysX h')).2.1
    rw [far_X h] at s2 ⊢
    exact cycL_shift s1 s2 (hp u hu)
  have c2 : cycL (axY (farN u v c)).2 = cycL (axY c).2 := by
    have s1 := (sys_all (sysY h)).2.1
    have s2 := (sys_all (sysY h')).2.1
    rw [far_Y h] at s2 ⊢
    exact cycL_shift s1 s2 (hp v hv)
  unfold blL best
  rw [o1, o2, c1, c2]
end Go.Proofs.Ytklddmmnggcffaa
/-
  Network: Least of moved fixes, and of a reversed sight.
  No conditions.
-/
namespace Go.Proofs.Ytklddmmnggcffaa
open Go Go.Abs Go.PE Go.Det
set_option linter.unusedVariables false
theorem fold_set {α β : Type} {f : β → α → β} {y : α} : ∀ {l : List α} {k : Nat} {z : α}, (k < l.length → ∀ M, f M y = f M (l.getD k z)) → ∀ a, (l.set k y).foldl f a = l.foldl f a
  | [], _, _, _, _ => rfl
  | x :: r, 0, z, h, a => by
    show r.foldl f (f a y) = r.foldl f (f a x)
    rw [h (by simp) a]
    rfl
  | x :: r, k + 1, z, h, a => by
    show (r.set k y).foldl f (f a x) = r.foldl f (f a x)
    exact fold_set (l := r) (k := k) (z := z) (fun hk M => h (by rw [List.length_cons]; omega) M) (f a x)
theorem sgM_rev (n : Nat) (M : Mx) (s : Sgt) : sgM n M (rvS s) = sgM n M s := by
  funext i j
  unfold sgM obM rvS
  dsimp only
  rw [Int.neg_neg, Int.neg_neg]
  unfold adM
  grind
theorem nm_bk (c : Net) (k : Nat) : nmA (bkN k c) = nmA c := fold_set (z := (0, 0, 0, 0, 0)) (fun _ M => sgM_rev _ M _) _
def Rel (n : Nat) (u v : Int) (M M' : Mx) : Prop := ∀ r, r < n → (∀ j, j < 8 → M' r j = M r j) ∧ M' r 8 = M r 8 + u * sm n (M r) ∧ M' r 9 = M r 9 + v * sm n (M r)
theorem rel_fx {n : Nat} {u v : Int} {M M' : Mx} (hn : n ≤ 8) (f : Fix) (hf : f.1.toNat < n) (h : Rel n u v M M') : Rel n u v (fxM n M f) (fxM n M' (farF u v f)) := fun r hr => by
  obtain ⟨h1, h2, h3⟩ := h r hr
  unfold fxM obM farF
  rw [adM_row hn hr, adM_row hn hr]
  dsimp only
  refine ⟨fun j hj => ?_, ?_, ?_⟩
  · have := h1 j hj
    unfold adM
    grind
  · unfold adM
    grind
  · unfold adM
    grind
theorem rel_sg {n : Nat} {u v : Int} {M M' : Mx} (hn : n ≤ 8) (s : Sgt) (h1 : s.1.toNat < n) (h2 : s.2.1.toNat < n) (h : Rel n u v M M') : Rel n u v (sgM n M s) (sgM n M' s) := fun r hr => by
  obtain ⟨g1, g2, g3⟩ := h r hr
  unfold sgM obM
  rw [adM_row hn hr, adM_row hn hr]
  refine ⟨fun j hj => ?_, ?_, ?_⟩
  · have := g1 j hj
    unfold adM
    grind
  · unfold adM
    grind
  · unfold adM
    grind
theorem rel_fold {α β : Type} {n : Nat} {u v : Int} {g : Mx → α → Mx} {g' : Mx → β → Mx} {t : α → β} : ∀ (xs : List α) {M M' : Mx}, (∀ x ∈ xs, ∀ M M', Rel n u v M M' → Rel n u v (g M x) (g' M' (t x))) → Rel n u v M M' → Rel n u v (xs.foldl g M) ((xs.map t).foldl g' M')
  | [], M, M', _, h => h
  | x :: r, M, M', hx, h => rel_fold r (fun y hy => hx y (List.mem_cons_of_mem _ hy)) (hx x (List.mem_cons_self ..) M M' h)
theorem nm_far {c : Net} (h : NOK c) (u v : Int) : Rel c.1.toNat u v (nmA c) (nmA (farN u v c)) := by
  have h0 := h.n0
  have h8 := h.n8
  have z : Rel c.1.toNat u v (fun _ _ => 0) (fun _ _ => 0) := fun r _ => by
    rw [sm_zero fun _ _ => rfl]
    exact ⟨fun _ _ => rfl, by omega, by omega⟩
  have h1 := rel_fold (t := farF u v) c.2.1 (fun f hf M M' hM => rel_fx (by omega) f (by have := h.fx f hf; omega) hM) z
  have h2 := rel_fold (t := fun s => s) c.2.2 (fun s hs M M' hM => rel_sg (by omega) s (by have := h.sg s hs; omega) (by have := h.sg s hs; omega) hM) h1
  rw [List.map_id'] at h2
  exact h2
theorem far_del {c : Net} (h : NOK c) (u v : Int) {k : Nat} (hk : k ≤ c.1.toNat) : del (nmA (farN u v c)) k = del (nmA c) k := by
  have h8 := h.n8
  exact det_congr fun i hi j hj => (nm_far h u v i (by omega)).1 j (by omega)
theorem far_xs {c : Net} (h : NOK c) {u v : Int} (hL : Lap (nmA c) c.1.toNat 10 50000 (dgN (nmA c))) (hL' : Lap (nmA (farN u v c)) c.1.toNat 10 50000 (dgN (nmA (farN u v c)))) (hr : regN c) {i : Nat} (hi : i < c.1.toNat) :
    xs8 (farN u v c) i = xs8 c i + u * del (nmA c) c.1.toNat ∧ xs9 (farN u v c) i = xs9 c i + v * del (nmA c) c.1.toNat := by
  have h8 := h.n8
  have hr' : ∀ k, k < c.1.toNat → del (nmA (farN u v c)) (k + 1) ≠ 0 := fun k hk => by
    rw [far_del h u v (by omega)]
    exact hr k hk
  obtain ⟨b, _, _, d⟩ := run_ok hL c.1.toNat (Nat.le_refl _) hr
  obtain ⟨b', _, _, _⟩ := run_ok hL' c.1.toNat (Nat.le_refl _) hr'
  have hR := nm_far h u v
  exact ⟨moved (c := 8) (by omega) (by omega) b b' (by omega) (far_del h u v (Nat.le_refl _)) (fun r j hr hj => (hR r hr).1 j (by omega)) (fun r hr => (hR r hr).2.1) hi,
    moved (c := 9) (by omega) (by omega) b b' (by omega) (far_del h u v (Nat.le_refl _)) (fun r j hr hj => (hR r hr).1 j (by omega)) (fun r hr => (hR r hr).2.2) hi⟩
theorem gc_congr {d : Int} {X X' Y Y' : Nat → Int} : ∀ {k : Nat}, (∀ i, i < k → X i = X' i ∧ Y i = Y' i) → gc d X Y k = gc d X' Y' k
  | 0, _ => rfl
  | k + 1, h => by
    show gI (gI (gc d X Y k) (X k)) (Y k) = gI (gI (gc d X' Y' k) (X' k)) (Y' k)
    rw [gc_congr (k := k) fun i hi => h i (by omega), (h k (by omega)).1, (h k (by omega)).2]
theorem far_gc {c : Net} (h : NOK c) {u v : Int} (hL : Lap (nmA c) c.1.toNat 10 50000 (dgN (nmA c))) (hL' : Lap (nmA (farN u v c)) c.1.toNat 10 50000 (dgN (nmA (farN u v c)))) (hr : regN c) : gcN (farN u v c) = gcN c := by
  unfold gcN
  show gc (del (nmA (farN u v c)) c.1.toNat) _ _ c.1.toNat = _
  rw [far_del h u v (Nat.le_refl _), gc_congr (X' := fun i => xs8 c i + u * del (nmA c) c.1.toNat) (Y' := fun i => xs9 c i + v * del (nmA c) c.1.toNat) fun i hi => far_xs h hL hL' hr hi, gc_add]
theorem tdiv_add {g x d t : Int} (hg : 0 < g) (h1 : g ∣ x) (h2 : g ∣ d) : (x + t * d).tdiv g = x.tdiv g + t * d.tdiv g := by
  obtain ⟨a, rfl⟩ := h1
  obtain ⟨b, rfl⟩ := h2
  have e : g * a + t * (g * b) = g * (a + t * b) := by grind
  rw [e, Int.mul_tdiv_cancel_left _ (by omega), Int.mul_tdiv_cancel_left _ (by omega), Int.mul_tdiv_cancel_left _ (by omega)]
theorem far_lst {c : Net} (h : NOK c) {u v : Int} (hL : Lap (nmA c) c.1.toNat 10 50000 (dgN (nmA c))) (hL' : Lap (nmA (farN u v c)) c.1.toNat 10 50000 (dgN (nmA (farN u v c)))) (hr : regN c) (hd : 0 < del (nmA c) c.1.toNat) :
    lstN (farN u v c) = (row c.1.toNat (fun i => (xs8 c i).tdiv (gcN c) + u * (del (nmA c) c.1.toNat).tdiv (gcN c)), row c.1.toNat (fun i => (xs9 c i).tdiv (gcN c) + v * (del (nmA c) c.1.toNat).tdiv (gcN c)), (del (nmA c) c.1.toNat).tdiv (gcN c)) := by
  have hg := (gc_pos hd (xs8 c) (xs9 c) c.1.toNat).1
  obtain ⟨q1, q2⟩ := gc_dvd (del (nmA c) c.1.toNat) (xs8 c) (xs9 c) c.1.toNat
  unfold lstN
  rw [far_gc h hL hL' hr]
  show (row c.1.toNat _, row c.1.toNat _, (del (nmA (farN u v c)) c.1.toNat).tdiv (gcN c)) = _
  rw [far_del h u v (Nat.le_refl _)]
  refine Prod.ext (row_congr fun i hi => ?_) (Prod.ext (row_congr fun i hi => ?_) rfl)
  · rw [(far_xs h hL hL' hr hi).1]
    exact tdiv_add hg (q2 i hi).1 q1
  · rw [(far_xs h hL hL' hr hi).2]
    exact tdiv_add hg (q2 i hi).2 q1
end Go.Proofs.Ytklddmmnggcffaa
/-
  Network: the law NetworkMoves.
  No conditions.
-/
namespace Go.Proofs.Ytklddmmnggcffaa
open Go Go.Abs Go.PE Go.Det
set_option linter.unusedVariables false
theorem boxQ_far {c : Net} (h : NOK c) {p : Int} (hp : ¬ p < c.1) : boxQ c p = err := by
  unfold boxQ
  rw [if_neg]
  rintro ⟨_, h2⟩
  have := inB_iff.1 h2
  omega
theorem aptR_far {c : Net} (h : NOK c) {p q : Int} (hp : ¬ (p < c.1 ∧ q < c.1)) : aptR c p q = err := by
  unfold aptR
  rw [if_neg]
  rintro ⟨_, h2, h3⟩
  have := inB_iff.1 h2
  have := inB_iff.1 h3
  omega
theorem mvB_0 (b : Bx) : mvB b 0 0 = b := by
  unfold mvB
  simp
def smB (b : Bx) : Prop := (-1000000000000000000 ≤ b.1 ∧ b.1 ≤ 1000000000000000000) ∧ (-1000000000000000000 ≤ b.2.1 ∧ b.2.1 ≤ 1000000000000000000) ∧ (-1000000000000000000 ≤ b.2.2.1 ∧ b.2.2.1 ≤ 1000000000000000000) ∧ -1000000000000000000 ≤ b.2.2.2 ∧ b.2.2.2 ≤ 1000000000000000000
theorem box_three {c : Net} {u v : Int} {k : Nat} (h : NOK c) (h1 : NOK (farN u v c)) (h2 : NOK (bkN k c)) (p : Nat) :
    boxQ (bkN k c) p = boxQ c p ∧ ((boxQ c p = err ∧ boxQ (farN u v c) p = err) ∨ ∃ b, smB b ∧ boxQ c p = (b, 0) ∧ boxQ (farN u v c) p = (mvB b u v, 0)) := by
  have h0 := h.n0
  by_cases hp : (p : Int) < c.1
  · have lp : p < c.1.toNat := by omega
    have e0 : boxQ c p = apM c c.1.toNat p := boxQ_in h lp
    have e1 : boxQ (farN u v c) p = apM (farN u v c) c.1.toNat p := boxQ_in h1 lp
    have e2 : boxQ (bkN k c) p = apM (bkN k c) c.1.toNat p := boxQ_in h2 lp
    rw [e0, e1, e2]
    obtain ⟨SX, SY⟩ := shf_far h u v
    obtain ⟨TX, TY⟩ := shf_bk (c := c) k
    rw [(ap_sh h h1 SX SY).2 _ _ (Nat.le_refl _) (by omega), (ap_sh h h2 TX TY).2 _ _ (Nat.le_refl _) (by omega)]
    have g1 : ∀ t : Int, phi c.1.toNat t p = t := fun t => if_pos lp
    have g2 : ∀ t : Int, phi c.1.toNat t c.1.toNat = 0 := fun t => if_neg (Nat.lt_irrefl _)
    rw [g1, g1, g2, g2, Int.sub_zero, Int.sub_zero, Int.sub_zero, mvB_0]
    unfold apM
    by_cases hc : okN c = true ∧ cnB c c.1.toNat p = true
    · rw [if_pos hc, if_pos hc, if_pos hc]
      have c1 := (cnB_iff h hc.1 (Nat.le_refl _) (by omega)).1 hc.2
      have aX := axisX h hc.1
      have aY := axisY h hc.1
      have b1 := aX.bd c.1.toNat p (Nat.le_refl _) (by omega) ((aX.cn _ _ (Nat.le_refl _) (by omega)).2 c1)
      have b2 := aX.bd p c.1.toNat (by omega) (Nat.le_refl _) ((aX.cn _ _ (by omega) (Nat.le_refl _)).2 c1.symm)
      have b3 := aY.bd c.1.toNat p (Nat.le_refl _) (by omega) ((aY.cn _ _ (Nat.le_refl _) (by omega)).2 c1)
      have b4 := aY.bd p c.1.toNat (by omega) (Nat.le_refl _) ((aY.cn _ _ (by omega) (Nat.le_refl _)).2 c1.symm)
      exact ⟨rfl, .inr ⟨_, by unfold smB boxR; dsimp only; omega, rfl, rfl⟩⟩
    · rw [if_neg hc, if_neg hc, if_neg hc]
      exact ⟨rfl, .inl ⟨rfl, rfl⟩⟩
  · rw [boxQ_far h hp, boxQ_far h1 hp, boxQ_far h2 hp]
    exact ⟨rfl, .inl ⟨rfl, rfl⟩⟩
theorem apt_three {c : Net} {u v : Int} {k : Nat} (h : NOK c) (h1 : NOK (farN u v c)) (h2 : NOK (bkN k c)) (p q : Nat) : aptR (farN u v c) p q = aptR c p q ∧ aptR (bkN k c) p q = aptR c p q := by
  have h0 := h.n0
  by_cases hpq : (p : Int) < c.1 ∧ (q : Int) < c.1
  · have lp : p < c.1.toNat := by omega
    have lq : q < c.1.toNat := by omega
    have e0 : aptR c p q = apM c p q := aptR_in h lp lq
    have e1 : aptR (farN u v c) p q = apM (farN u v c) p q := aptR_in h1 lp lq
    have e2 : aptR (bkN k c) p q = apM (bkN k c) p q := aptR_in h2 lp lq
    rw [e0, e1, e2]
    obtain ⟨SX, SY⟩ := shf_far h u v
    obtain ⟨TX, TY⟩ := shf_bk (c := c) k
    rw [(ap_sh h h1 SX SY).2 _ _ (by omega) (by omega), (ap_sh h h2 TX TY).2 _ _ (by omega) (by omega)]
    have g1 : ∀ t : Int, phi c.1.toNat t p = t := fun t => if_pos lp
    have g2 : ∀ t : Int, phi c.1.toNat t q = t := fun t => if_pos lq
    rw [g1, g1, g2, g2, Int.sub_self, Int.sub_self, Int.sub_self, mvB_0]
    exact ⟨rfl, rfl⟩
  · rw [aptR_far h hpq, aptR_far h1 hpq, aptR_far h2 hpq]
    exact ⟨rfl, rfl⟩
theorem m24_self {l : List Int} (hl : l.length ≤ 1000) : m24 (l, l) = some true := by
  unfold m24
  refine bind_of (m49_eq (by show l.length ≤ _; omega)) ?_
  rw [decide_eq_true rfl]
theorem m26_self {a b : List Int} {d : Int} (ha : a.length ≤ 1000) (hb : b.length ≤ 1000) : m26 ((a, b, d), a, b, d) = some true := by
  unfold m26
  refine bind_of (m24_self ha) ?_
  rw [cond_true]
  refine bind_of (m24_self hb) ?_
  rw [eqI rfl]
  rfl
end Go.Proofs.Ytklddmmnggcffaa
/-
  Network: the law NetworkMoves, put together.
  No conditions.
-/
namespace Go.Proofs.Ytklddmmnggcffaa
open Go Go.Abs Go.PE Go.Det
set_option linter.unusedVariables false
structure Mad (c : Net) : Prop where
  ok : NOK c
  fl : c.2.1.length ≤ 6
  sl : c.2.2.length ≤ 17
  fx : ∀ f ∈ c.2.1, -511 ≤ f.2.1 ∧ f.2.1 ≤ 511 ∧ -511 ≤ f.2.2.1 ∧ f.2.2.1 ≤ 511
  sg : ∀ s ∈ c.2.2, -1071 ≤ s.2.2.1 ∧ s.2.2.1 ≤ 1071 ∧ -1071 ≤ s.2.2.2.1 ∧ s.2.2.2.1 ≤ 1071
theorem made_mad (x : NNum) : Mad (madeN x) where
  ok := made_ok x
  fl := by
    show (row (nF x) (fxf x)).length ≤ 6
    rw [row_length]
    unfold nF
    split <;> omega
  sl := by
    show (msg x).length ≤ 17
    rw [msg_len]
    exact base_len x
  fx := fun f hf => by
    have := fix_keeps hf
    unfold KF at this
    omega
  sg := fun s hs => by
    have hd1 := pk_lo (c := x.2.2.2.2.2.2.tdiv 2) (n := 60) (by omega)
    have hd2 := pk_hi (c := x.2.2.2.2.2.2.tdiv 2) (n := 60) (by omega)
    rcases msg_mem hs with h | ⟨s', h, rfl⟩
    · have := base_keeps h
      unfold KS at this
      omega
    · have := base_keeps h
      unfold KS at this
      unfold bent
      split
      · dsimp only; omega
      · dsimp only; omega
theorem far_nok {c : Net} (h : Mad c) {u v : Int} (hu : -1000 ≤ u ∧ u ≤ 1000) (hv : -1000 ≤ v ∧ v ≤ 1000) : NOK (farN u v c) where
  n0 := h.ok.n0
  n8 := h.ok.n8
  fl := by show (c.2.1.map (farF u v)).length ≤ 8; rw [List.length_map]; exact h.ok.fl
  sl := h.ok.sl
  fx := fun f hf => by
    obtain ⟨g, hg, rfl⟩ := List.mem_map.1 hf
    have a := h.ok.fx g hg
    have b := h.fx g hg
    show 0 ≤ g.1 ∧ g.1 < c.1 ∧ -10000 ≤ g.2.1 + u ∧ g.2.1 + u ≤ 10000 ∧ -10000 ≤ g.2.2.1 + v ∧ g.2.2.1 + v ≤ 10000 ∧ 0 ≤ g.2.2.2 ∧ g.2.2.2 ≤ 1000
    omega
  sg := h.ok.sg
theorem bk_nok {c : Net} (h : NOK c) (k : Nat) : NOK (bkN k c) where
  n0 := h.n0
  n8 := h.n8
  fl := h.fl
  sl := by show (c.2.2.set k _).length ≤ 20; rw [List.length_set]; exact h.sl
  fx := h.fx
  sg := fun s hs => by
    have hs : s ∈ c.2.2.set k (rvS (c.2.2.getD k (0, 0, 0, 0, 0))) := hs
    by_cases hk : k < c.2.2.length
    · rcases List.mem_or_eq_of_mem_set hs with hs | rfl
      · exact h.sg s hs
      · have := h.sg _ (memD hk (0, 0, 0, 0, 0))
        generalize c.2.2.getD k (0, 0, 0, 0, 0) = s at *
        show 0 ≤ s.2.1 ∧ s.2.1 < c.1 ∧ 0 ≤ s.1 ∧ s.1 < c.1 ∧ s.2.1 ≠ s.1 ∧ -10000 ≤ -s.2.2.1 ∧ -s.2.2.1 ≤ 10000 ∧ -10000 ≤ -s.2.2.2.1 ∧ -s.2.2.2.1 ≤ 10000 ∧ 0 ≤ s.2.2.2.2 ∧ s.2.2.2.2 ≤ 1000
        omega
    · rw [List.set_eq_of_length_le (by omega)] at hs
      exact h.sg s hs
theorem lap_c {c : Net} (h : Mad c) : Lap (nmA c) c.1.toNat 10 50000 (dgN (nmA c)) := by
  have h0 := h.ok.n0
  have h8 := h.ok.n8
  have hf := h.fl
  have hs := h.sl
  exact lap_of (by omega) (nmA_ni (VF := 511) (VS := 1071) ⟨h.ok, fun f hf => by have := h.fx f hf; omega, fun s hs => by have := h.sg s hs; omega⟩) (by omega) (by omega)
theorem lap_far {c : Net} (h : Mad c) {u v : Int} (hu : -1000 ≤ u ∧ u ≤ 1000) (hv : -1000 ≤ v ∧ v ≤ 1000) : Lap (nmA (farN u v c)) c.1.toNat 10 50000 (dgN (nmA (farN u v c))) := by
  have h0 := h.ok.n0
  have h8 := h.ok.n8
  have hf := h.fl
  have hs := h.sl
  have hl : (farN u v c).2.1.length = c.2.1.length := List.length_map ..
  have hl2 : (farN u v c).2.2.length = c.2.2.length := rfl
  have hn := nmA_ni (c := farN u v c) (VF := 1511) (VS := 1071) ⟨far_nok h hu hv, fun f hf => by
    obtain ⟨g, hg, rfl⟩ := List.mem_map.1 hf
    have := h.fx g hg
    show (-1511 ≤ g.2.1 + u ∧ g.2.1 + u ≤ 1511) ∧ -1511 ≤ g.2.2.1 + v ∧ g.2.2.1 + v ≤ 1511
    omega, fun s hs => by have := h.sg s hs; omega⟩
  rw [hl, hl2] at hn
  exact lap_of (by omega) hn (by omega) (by omega)
theorem blLen (c : Net) : (blL c).length ≤ (best c).length := by
  refine Nat.le_trans (compact_len _) ?_
  rw [(isortI_perm _).length_eq, List.length_map]
  exact Nat.le_refl _
theorem pass5 {n : Nat} {body : Int → Option (Int ⊕ (Unit ⊕ Bool))} (hb : ∀ k, k < n → body (k : Int) = some (.inl ((k : Int) + 1))) (he : body (n : Int) = some (.inr (.inl ()))) : loopM body 0 = some (.inl ()) := by
  obtain ⟨b, q1, q2⟩ := all_loop (n := n) (fun _ => true) (body := body) hb he
  have : b = true := q2.2 fun _ _ => rfl
  subst this
  exact q1
theorem lst_bk (c : Net) (k : Nat) : lstN (bkN k c) = lstN c ∧ (regN (bkN k c) ↔ regN c) := by
  have e := nm_bk c k
  unfold lstN regN gcN xs8 xs9
  rw [e]
  exact ⟨rfl, Iff.rfl⟩
theorem least_three {c : Net} (h : Mad c) {u v : Int} (hu : -1000 ≤ u ∧ u ≤ 1000) (hv : -1000 ≤ v ∧ v ≤ 1000) (k : Nat) :
    (m25 c = some (([], [], 0), 100) ∧ m25 (farN u v c) = some (([], [], 0), 100) ∧ m25 (bkN k c) = some (([], [], 0), 100)) ∨
    ∃ (X Y : Nat → Int) (d : Int), (0 ≤ d ∧ d ≤ 1679616) ∧ (∀ i, i < c.1.toNat → (-671846400000 ≤ X i ∧ X i ≤ 671846400000) ∧ -671846400000 ≤ Y i ∧ Y i ≤ 671846400000) ∧ m25 c = some ((row c.1.toNat X, row c.1.toNat Y, d), 0) ∧
      m25 (farN u v c) = some ((row c.1.toNat (fun i => X i + u * d), row c.1.toNat (fun i => Y i + v * d), d), 0) ∧ m25 (bkN k c) = some ((row c.1.toNat X, row c.1.toNat Y, d), 0) := by
  have hL := lap_c h
  have hL' := lap_far h hu hv
  have hLb : Lap (nmA (bkN k c)) (bkN k c).1.toNat 10 50000 (dgN (nmA (bkN k c))) := by rw [nm_bk]; exact hL
  obtain ⟨lb, rb⟩ := lst_bk c k
  have rf : regN (farN u v c) ↔ regN c := by
    constructor <;> intro hr j hj
    · have := hr j hj
      rwa [far_del h.ok u v (by omega)] at this
    · rw [far_del h.ok u v (by have : j < c.1.toNat := hj; omega)]
      exact hr j hj
  rcases m25_eq h.ok hL with ⟨r0, d0, e0⟩ | ⟨r0, e0⟩
  · rcases m25_eq (far_nok h hu hv) hL' with ⟨r1, _, e1⟩ | ⟨r1, _⟩
    · rcases m25_eq (bk_nok h.ok k) hLb with ⟨_, _, e2⟩ | ⟨r2, _⟩
      · right
        rw [far_lst h.ok hL hL' r0 d0] at e1
        rw [lb] at e2
        obtain ⟨b, l, z, d⟩ := run_ok hL c.1.toNat (Nat.le_refl _) r0
        obtain ⟨s1, s2, _, _⟩ := sizes hL b l z d (Nat.le_refl _)
        have hq : ∀ x : Int, ab x ≤ 671846400000 → -671846400000 ≤ x.tdiv (gcN c) ∧ x.tdiv (gcN c) ≤ 671846400000 := fun x hx => by
          have h1 := Int.natAbs_tdiv_le_natAbs x (gcN c)
          have h2 := ab_le x
          omega
        refine ⟨fun i => (xs8 c i).tdiv (gcN c), fun i => (xs9 c i).tdiv (gcN c), (del (nmA c) c.1.toNat).tdiv (gcN c), ?_, fun i hi => ⟨hq _ (s2 i 8 hi (by omega)), hq _ (s2 i 9 hi (by omega))⟩, e0, e1, e2⟩
        have h1 := Int.natAbs_tdiv_le_natAbs (del (nmA c) c.1.toNat) (gcN c)
        have h2 : 0 ≤ (del (nmA c) c.1.toNat).tdiv (gcN c) := Int.tdiv_nonneg (by omega) (by have := (gc_pos d (xs8 c) (xs9 c) c.1.toNat).1; unfold gcN; omega)
        omega
      · exact absurd (rb.2 r0) r2
    · exact absurd (rf.2 r0) r1
  · left
    refine ⟨e0, ?_, ?_⟩
    · rcases m25_eq (far_nok h hu hv) hL' with ⟨r1, _⟩ | ⟨_, e1⟩
      · exact absurd (rf.1 r1) r0
      · exact e1
    · rcases m25_eq (bk_nok h.ok k) hLb with ⟨r2, _⟩ | ⟨_, e2⟩
      · exact absurd (rb.1 r2) r0
      · exact e2
theorem law5_ok (x : NNum × Int × Int × Int × Int × Int) (h : NN x.1) (h1 : i64 x.2.1) (h2 : i64 x.2.2.1) (h3 : i64 x.2.2.2.1) (h4 : i64 x.2.2.2.2.1) (h5 : i64 x.2.2.2.2.2) : m5 x = some true := by
  obtain ⟨x, dx, dy, wh, p0, q0⟩ := x
  have hm := made_mad x
  unfold m5
  refine bind_of sane_ok ?_
  rw [notT, cond_false]
  refine bind_of (m9_eq h) ?_
  dsimp only at h1 h2 h3 h4 h5
  dsimp only
  generalize madeN x = c at *
  have hc := hm.ok
  have h0 := hc.n0
  have h8 := hc.n8
  have hfl := hm.fl
  have hsl := hm.sl
  refine bind_of (m15_eq h1 (by omega)) (bind_of (m15_eq h2 (by omega)) ?_)
  have u1 := pk_lo (c := dx) (n := 2001) (by omega)
  have u2 := pk_hi (c := dx) (n := 2001) (by omega)
  have v1 := pk_lo (c := dy) (n := 2001) (by omega)
  have v2 := pk_hi (c := dy) (n := 2001) (by omega)
  rw [wrap_in (n := pk dx 2001 - 1000) (by omega) (by omega), wrap_in (n := pk dy 2001 - 1000) (by omega) (by omega)]
  have hu : ∃ u, u = pk dx 2001 - 1000 := ⟨_, rfl⟩
  have hv : ∃ v, v = pk dy 2001 - 1000 := ⟨_, rfl⟩
  obtain ⟨u, hu⟩ := hu
  obtain ⟨v, hv⟩ := hv
  rw [← hu, ← hv]
  have bu : -1000 ≤ u ∧ u ≤ 1000 := by omega
  have bv : -1000 ≤ v ∧ v ≤ 1000 := by omega
  have hfar := far_nok hm bu bv
  refine bind_of (x := (c.1, c.2.2, c.2.1.map (farF u v))) ?_ ?_
  · refine count_loop (fun k => (c.1, c.2.2, (c.2.1.take k).map (farF u v))) c.2.1.length (fun k hk => ?_) ?_
    · have b := hm.fx _ (List.getElem_mem hk)
      have hlk : ((c.2.1.take k).map (farF u v)).length ≤ 6 := by rw [List.length_map, List.length_take]; omega
      dsimp only
      rw [ltI (by show (k : Int) < (c.2.1.length : Int); omega), cond_true, idxM_lt hk, Option.bind_some, List.take_succ_eq_append_getElem hk, List.map_append]
      generalize c.2.1[k] = f at *
      rw [wrap_in (n := f.2.1 + u) (by omega) (by omega), wrap_in (n := f.2.2.1 + v) (by omega) (by omega)]
      refine bind_of (appM_of ?_) ?_
      · show (((c.2.1.take k).map (farF u v)).length + 1) * 32 ≤ 140737488355328
        omega
      · rw [wrap_in (by omega) (by omega)]
        rfl
    · dsimp only
      rw [geI (by show (c.2.1.length : Int) ≤ (c.2.1.length : Int); omega), cond_false, List.take_length]
  refine bind_of (x := c.2.2) (by rw [appM_of (by simp; omega)]; rfl) ?_
  obtain ⟨k, hk⟩ : ∃ k : Nat, (bif ltM (0 : Int) (lenM c.2.2) then Option.bind (m15 (wh, lenM c.2.2)) fun (r_5 : Int) => Option.bind (idxM c.2.2 r_5) fun (r_6 : Int × Int × Int × Int × Int) => Option.bind (chkM r_5 (lenM c.2.2)) fun (r_7 : Unit) => Option.bind (setM c.2.2 r_5 fun (x : Int × Int × Int × Int × Int) => some (r_6.2.1, r_6.1, IntKind.wrap IntKind.i64 (negM r_6.2.2.1), IntKind.wrap IntKind.i64 (negM r_6.2.2.2.1), r_6.2.2.2.2)) fun (r : List (Int × Int × Int × Int × Int)) => some r else some c.2.2) = some (c.2.2.set k (rvS (c.2.2.getD k (0, 0, 0, 0, 0)))) := by
    by_cases hz : c.2.2.length = 0
    · refine ⟨0, ?_⟩
      rw [geI (by show (c.2.2.length : Int) ≤ 0; omega), cond_false, List.set_eq_of_length_le (by omega)]
    · have hl : 0 < c.2.2.length := by omega
      have hlt := pN_lt (c := wh) (n := c.2.2.length) hl
      refine ⟨pN wh c.2.2.length, ?_⟩
      have b := hm.sg _ (memD hlt (0, 0, 0, 0, 0))
      rw [ltI (by show (0 : Int) < (c.2.2.length : Int); omega), cond_true]
      have e15 : m15 (wh, lenM c.2.2) = some ((pN wh c.2.2.length : Nat) : Int) := by
        rw [pN_eq hl]
        exact m15_eq h3 (by show (0 : Int) < (c.2.2.length : Int); omega)
      refine bind_of e15 (bind_of (idxD hlt (0, 0, 0, 0, 0)) (bind_of (chkM_of (by omega) (by show _ < (c.2.2.length : Int); omega)) ?_))
      have n1 : IntKind.wrap IntKind.i64 (negM (c.2.2.getD (pN wh c.2.2.length) (0, 0, 0, 0, 0)).2.2.1) = -(c.2.2.getD (pN wh c.2.2.length) (0, 0, 0, 0, 0)).2.2.1 := wrap_in (n := -(c.2.2.getD (pN wh c.2.2.length) (0, 0, 0, 0, 0)).2.2.1) (by omega) (by omega)
      have n2 : IntKind.wrap IntKind.i64 (negM (c.2.2.getD (pN wh c.2.2.length) (0, 0, 0, 0, 0)).2.2.2.1) = -(c.2.2.getD (pN wh c.2.2.length) (0, 0, 0, 0, 0)).2.2.2.1 := wrap_in (n := -(c.2.2.getD (pN wh c.2.2.length) (0, 0, 0, 0, 0)).2.2.2.1) (by omega) (by omega)
      rw [n1, n2]
      refine bind_of (setM_of (y := rvS (c.2.2.getD (pN wh c.2.2.length) (0, 0, 0, 0, 0))) (by omega) (by omega) rfl) ?_
      rw [Int.toNat_natCast]
  refine bind_of hk ?_
  have hbk := bk_nok hc k
  have e8p : m15 (p0, (8 : Int)) = some ((pN p0 8 : Nat) : Int) := by rw [pN_eq (by omega)]; exact m15_eq h4 (by omega)
  have e8q : m15 (q0, (8 : Int)) = some ((pN q0 8 : Nat) : Int) := by rw [pN_eq (by omega)]; exact m15_eq h5 (by omega)
  refine bind_of e8p (bind_of e8q ?_)
  generalize pN p0 8 = p
  generalize pN q0 8 = q
  refine bind_of (m14_eq c p) (bind_of (m14_eq (farN u v c) p) (bind_of (m14_eq (bkN k c) p) ?_))
  obtain ⟨B3, B12⟩ := box_three hc hfar hbk (u := u) (v := v) (k := k) p
  obtain ⟨A2, A3⟩ := apt_three hc hfar hbk (u := u) (v := v) (k := k) p q
  have selfB : ∀ b : Bx, PE.notM (PE.andM (eqM b.1 b.1) (PE.andM (eqM b.2.1 b.2.1) (PE.andM (eqM b.2.2.1 b.2.2.1) (eqM b.2.2.2 b.2.2.2)))) = false := fun b => by
    rw [eqI rfl, eqI rfl, eqI rfl, eqI rfl]; rfl
  have rest : (Option.bind (m22 (c, (p : Int), (q : Int))) fun r_11 => (Option.bind (m22 (farN u v c, (p : Int), (q : Int))) fun r_12 => (Option.bind (m22 (bkN k c, (p : Int), (q : Int))) fun r_13 => (Option.bind (m10 c) fun r_14 => (Option.bind (m10 (farN u v c)) fun r_15 => (Option.bind (m10 (bkN k c)) fun r_16 => some (r_11, r_12, r_13, r_14, r_15, r_16)))))))  = some (aptR c p q, aptR c p q, aptR c p q, (blL c, !okN c), (blL c, !okN c), (blL (bkN k c), !okN c)) := by
    obtain ⟨SX, SY⟩ := shf_far hc u v
    obtain ⟨TX, TY⟩ := shf_bk (c := c) k
    have o1 := (ap_sh hc hfar SX SY).1
    have o2 := (ap_sh hc hbk TX TY).1
    rw [m22_eq, m22_eq, m22_eq, A2, A3, m10_eq hc, m10_eq hfar, m10_eq hbk, o1, o2, bl_far hc hfar (by omega) (by omega)]
    rfl
  obtain ⟨r11, w1, rest⟩ := Option.bind_eq_some_iff.1 rest
  obtain ⟨r12, w2, rest⟩ := Option.bind_eq_some_iff.1 rest
  obtain ⟨r13, w3, rest⟩ := Option.bind_eq_some_iff.1 rest
  obtain ⟨r14, w4, rest⟩ := Option.bind_eq_some_iff.1 rest
  obtain ⟨r15, w5, rest⟩ := Option.bind_eq_some_iff.1 rest
  obtain ⟨r16, w6, rest⟩ := Option.bind_eq_some_iff.1 rest
  have rest := Option.some.inj rest
  injection rest with q1 rest
  injection rest with q2 rest
  injection rest with q3 rest
  injection rest with q4 rest
  injection rest with q5 q6
  subst q1 q2 q3 q4 q5 q6
  rw [B3]
  have first : ∃ r10, (bif PE.andM (PE.notM (PE.orM (PE.notM (eqM (boxQ c p).2 (boxQ (farN u v c) p).2)) (PE.notM (eqM (boxQ c p).2 (boxQ c p).2)))) (eqM (boxQ c p).2 (0 : Int)) then m23 (((boxQ c p).1.1, (boxQ c p).1.2.1, (boxQ c p).1.2.2.1, (boxQ c p).1.2.2.2), u, v) else some ((0 : Int), (0 : Int), (0 : Int), (0 : Int))) = some r10 ∧
      PE.orM (PE.orM (PE.orM (PE.notM (eqM (boxQ c p).2 (boxQ (farN u v c) p).2)) (PE.notM (eqM (boxQ c p).2 (boxQ c p).2))) (PE.andM (eqM (boxQ c p).2 (0 : Int)) (PE.notM (PE.andM (eqM (boxQ (farN u v c) p).1.1 r10.1) (PE.andM (eqM (boxQ (farN u v c) p).1.2.1 r10.2.1) (PE.andM (eqM (boxQ (farN u v c) p).1.2.2.1 r10.2.2.1) (eqM (boxQ (farN u v c) p).1.2.2.2 r10.2.2.2))))))) (PE.notM (PE.andM (eqM (boxQ c p).1.1 (boxQ c p).1.1) (PE.andM (eqM (boxQ c p).1.2.1 (boxQ c p).1.2.1) (PE.andM (eqM (boxQ c p).1.2.2.1 (boxQ c p).1.2.2.1) (eqM (boxQ c p).1.2.2.2 (boxQ c p).1.2.2.2))))) = false := by
    rw [selfB]
    rcases B12 with ⟨b1, b2⟩ | ⟨b, bs, b1, b2⟩
    · rw [b1, b2]
      exact ⟨_, rfl, rfl⟩
    · rw [b1, b2]
      dsimp only
      refine ⟨mvB b u v, ?_, ?_⟩
      · unfold smB at bs
        rw [eqI rfl, notT, orF, notF, andT, cond_true]
        unfold m23 mvB
        dsimp only
        rw [wrap_in (n := b.1 + u) (by omega) (by omega), wrap_in (n := b.2.1 + u) (by omega) (by omega), wrap_in (n := b.2.2.1 + v) (by omega) (by omega), wrap_in (n := b.2.2.2 + v) (by omega) (by omega)]
      · rw [selfB, eqI rfl]
        rfl
  obtain ⟨r10, f1, f2⟩ := first
  refine bind_of f1 ?_
  rw [f2, cond_false]
  refine bind_of w1 (bind_of w2 (bind_of w3 (bind_of w4 (bind_of w5 (bind_of w6 ?_)))))
  have ebb : ∀ b : Bool, eqbM b b = true := fun b => decide_eq_true rfl
  have hb24 : m24 (blL c, blL c) = some true := m24_self (by have := blLen c; have := best_len hc; omega)
  dsimp only
  rw [selfB, eqI rfl, ebb, notT, orF, orF, orF, orF, orF, notF, cond_true]
  refine bind_of hb24 ?_
  rw [notT, orF, cond_false]
  rcases least_three hm bu bv k with ⟨g1, g2, g3⟩ | ⟨X, Y, d, hd, hXY, g1, g2, g3⟩
  · refine bind_of g1 (bind_of g2 (bind_of g3 ?_))
    refine bind_of (x := true) (by
      show (bif PE.notM (PE.orM (PE.notM (eqM (100 : Int) 100)) (PE.notM (eqM (100 : Int) 100))) then m26 (([], [], 0), [], [], 0) else some false) = some true
      rw [eqI rfl, notT, orF, notF, cond_true]
      exact m26_self (by decide) (by decide)) ?_
    show (bif PE.orM (PE.orM (PE.orM (PE.orM (PE.orM (PE.orM (PE.notM (eqM (100 : Int) 100)) (PE.notM (eqM (100 : Int) 100))) (PE.notM true)) (PE.notM (eqM (0 : Int) 0))) (PE.notM (eqM (lenM ([] : List Int)) (lenM ([] : List Int))))) (PE.notM (eqM (lenM ([] : List Int)) (lenM ([] : List Int))))) (PE.notM (eqM (lenM ([] : List Int)) (lenM ([] : List Int)))) then some false else _) = some true
    rw [eqI rfl, eqI rfl, eqI rfl, notT, orF, orF, orF, orF, orF, orF, cond_false]
    refine bind_of (x := Sum.inl ()) (pass5 (n := 0) (fun j hj => absurd hj (Nat.not_lt_zero _)) ?_) rfl
    rw [geI (by show (0 : Int) ≤ 0; omega), cond_false]
  · refine bind_of g1 (bind_of g2 (bind_of g3 ?_))
    have l1 : ∀ g : Nat → Int, lenM (row c.1.toNat g) = (c.1.toNat : Int) := fun g => lenR ..
    refine bind_of (x := true) (by
      dsimp only
      rw [eqI rfl, notT, orF, notF, cond_true]
      exact m26_self (by rw [row_length]; omega) (by rw [row_length]; omega)) ?_
    dsimp only
    rw [l1, l1, l1, l1, eqI rfl, eqI rfl, eqI rfl, notT, orF, orF, orF, orF, orF, orF, cond_false]
    refine bind_of (x := Sum.inl ()) (pass5 (n := c.1.toNat) (fun j hj => ?_) ?_) rfl
    · obtain ⟨b1, b2⟩ := hXY j hj
      have t1 : -1679616000 ≤ u * d ∧ u * d ≤ 1679616000 := by
        have h1 : u * d ≤ 1000 * d := Int.mul_le_mul_of_nonneg_right bu.2 hd.1
        have h2 : -1000 * d ≤ u * d := Int.mul_le_mul_of_nonneg_right bu.1 hd.1
        omega
      have t2 : -1679616000 ≤ v * d ∧ v * d ≤ 1679616000 := by
        have h1 : v * d ≤ 1000 * d := Int.mul_le_mul_of_nonneg_right bv.2 hd.1
        have h2 : -1000 * d ≤ v * d := Int.mul_le_mul_of_nonneg_right bv.1 hd.1
        omega
      rw [ltI (by omega), cond_true, row_idx hj, Option.bind_some, row_idx hj, Option.bind_some]
      rw [wrap_in (n := u * d) (by omega) (by omega), wrap_in (n := v * d) (by omega) (by omega), wrap_in (n := X j + u * d) (by omega) (by omega), eqI rfl, notT, notF, cond_true, cond_true, row_idx hj, Option.bind_some, row_idx hj, Option.bind_some, wrap_in (n := Y j + v * d) (by omega) (by omega), eqI rfl, notT, orF, cond_false, wrap_in (by omega) (by omega)]
    · rw [geI (by omega), cond_false]
end Go.Proofs.Ytklddmmnggcffaa
/-
  Network: what is known of the integers that determine a network.
  No conditions.
-/
namespace Go.Proofs.Ytklddmmnggcffaa
open Go Go.Abs Go.PE
theorem nn_ok {x : NNum} (h : InR (.pair (.list (.pair tI tI)) (.pair (.list tI) (.pair (.list (.pair tI (.pair tI (.pair tI tI)))) (.pair (.list (.pair tI (.pair tI (.pair tI (.pair tI tI))))) (.pair tI (.pair tI tI)))))) x) : NN x := by
  obtain ⟨⟨_, h1⟩, ⟨_, h2⟩, ⟨_, h3⟩, ⟨_, h4⟩, h5, h6, h7⟩ := h
  refine ⟨fun p hp => ?_, fun v hv => ?_, fun f hf => ?_, fun s hs => ?_, h5, h6, h7⟩
  · obtain ⟨i, hi, rfl⟩ := List.mem_iff_getElem.1 hp
    exact h1 i _ (List.getElem?_eq_getElem hi)
  · obtain ⟨i, hi, rfl⟩ := List.mem_iff_getElem.1 hv
    exact h2 i _ (List.getElem?_eq_getElem hi)
  · obtain ⟨i, hi, rfl⟩ := List.mem_iff_getElem.1 hf
    exact h3 i _ (List.getElem?_eq_getElem hi)
  · obtain ⟨i, hi, rfl⟩ := List.mem_iff_getElem.1 hs
    exact h4 i _ (List.getElem?_eq_getElem hi)
end Go.Proofs.Ytklddmmnggcffaa
