/-
  Texts of this proof, put together: F, Bs, Ca, Cb, Cc, Cd, Ce, Cf, Ch, Ci, Cj, Ck, Cl, Cg.
  No conditions.
-/
import Derived.Test.YtklddmmnggcffaaZ5
set_option linter.all false
/-
  The models with loops of bounded rounds, and that they answer no more than the models (printed by gen_twin.py). No conditions.
-/
namespace Go.Proofs.Ytklddmmnggcffaa
open Go Go.Abs Go.PE Go.Proofs
set_option linter.unusedVariables false
set_option maxRecDepth 100000
set_option maxHeartbeats 0
def m38F : (Int × Int × Int) → Option (Bool) :=
  fun (x : Int × Int × Int) => some (PE.andM (leM x.2.1 x.1) (leM x.1 x.2.2))
theorem le38 (x) : Le (m38F x) (m38 x) := by
  unfold m38F m38
  repeat' first | with_reducible exact Le.refl _ | intro _ | apply Le.bind | apply Le.cond | apply Le.nil | apply Le.loop | apply Le.elim
def m42F : (Int × Int × Int) → Option (Bool) :=
  fun (x : Int × Int × Int) => Option.bind (m38F (x.1, IntKind.wrap IntKind.i64 (negM x.2.2), x.2.2)) fun (r : Bool) => Option.bind (bif r then m38F (x.2.1,
  IntKind.wrap IntKind.i64 (negM x.2.2), x.2.2) else some false) fun (r_1 : Bool) => some (PE.andM r r_1)
theorem le42 (x) : Le (m42F x) (m42 x) := by
  unfold m42F m42
  repeat' first | exact le38 _ | with_reducible exact Le.refl _ | intro _ | apply Le.bind | apply Le.cond | apply Le.nil | apply Le.loop | apply Le.elim
def m18F : (Int × (List (Int × Int × Int × Int)) × List (Int × Int × Int × Int × Int)) → Option (Bool) :=
  fun (x : Int × List (Int × Int × Int × Int) × List (Int × Int × Int × Int × Int)) => Option.bind (m38F (x.1, (0 : Int), (8 : Int))) fun (r : Bool) => bif PE.orM
  (PE.orM (PE.notM r) (ltM (8 : Int) (lenM x.2.1))) (ltM (20 : Int) (lenM x.2.2)) then some false else Option.bind (Option.bind (loopF (fun (s : Int) => bif ltM
  s (lenM x.2.1) then Option.bind (idxM x.2.1 s) fun (r_1 : Int × Int × Int × Int) => Option.bind (m38F (r_1.1, (0 : Int), IntKind.wrap IntKind.i64 (x.1 - (1 :
  Int)))) fun (r_2 : Bool) => Option.bind (bif PE.notM (PE.notM r_2) then m42F (r_1.2.1, r_1.2.2.1, (10000 : Int)) else some false) fun (r_3 : Bool) =>
  Option.bind (bif PE.notM (PE.orM (PE.notM r_2) (PE.notM r_3)) then m38F (r_1.2.2.2, (0 : Int), (1000 : Int)) else some false) fun (r : Bool) => bif PE.orM
  (PE.orM (PE.notM r_2) (PE.notM r_3)) (PE.notM r) then some (Sum.inr (Sum.inr s)) else some (Sum.inl (IntKind.wrap IntKind.i64 (s + (1 : Int)))) else some
  (Sum.inr (Sum.inl ()))) (0 : Int)) fun (o : Unit ⊕ Int) => Sum.elim (fun (t : Unit) => some (-1 : Int)) (fun (t : Int) => some t) o) fun (ov : Int) =>
  Option.bind (bif PE.notM (leM (0 : Int) ov) then Option.bind (Option.bind (loopF (fun (s : Int) => bif ltM s (lenM x.2.2) then Option.bind (idxM x.2.2 s) fun
  (r_1 : Int × Int × Int × Int × Int) => Option.bind (m38F (r_1.1, (0 : Int), IntKind.wrap IntKind.i64 (x.1 - (1 : Int)))) fun (r_2 : Bool) => Option.bind (bif
  PE.notM (PE.notM r_2) then m38F (r_1.2.1, (0 : Int), IntKind.wrap IntKind.i64 (x.1 - (1 : Int))) else some false) fun (r_3 : Bool) => Option.bind (bif PE.notM
  (PE.orM (PE.orM (PE.notM r_2) (PE.notM r_3)) (eqM r_1.1 r_1.2.1)) then m42F (r_1.2.2.1, r_1.2.2.2.1, (10000 : Int)) else some false) fun (r_4 : Bool) =>
  Option.bind (bif PE.notM (PE.orM (PE.orM (PE.orM (PE.notM r_2) (PE.notM r_3)) (eqM r_1.1 r_1.2.1)) (PE.notM r_4)) then m38F (r_1.2.2.2.2, (0 : Int), (1000 :
  Int)) else some false) fun (r : Bool) => bif PE.orM (PE.orM (PE.orM (PE.orM (PE.notM r_2) (PE.notM r_3)) (eqM r_1.1 r_1.2.1)) (PE.notM r_4)) (PE.notM r) then
  some (Sum.inr (Sum.inr s)) else some (Sum.inl (IntKind.wrap IntKind.i64 (s + (1 : Int)))) else some (Sum.inr (Sum.inl ()))) (0 : Int)) fun (o : Unit ⊕ Int) =>
  Sum.elim (fun (t : Unit) => some (-1 : Int)) (fun (t : Int) => some t) o) fun (ov : Int) => some (leM (0 : Int) ov) else some false) fun (ov_1 : Bool) => some
  (PE.andM (PE.notM (leM (0 : Int) ov)) (PE.notM ov_1))
theorem le18 (x) : Le (m18F x) (m18 x) := by
  unfold m18F m18
  repeat' first | exact le38 _ | exact le42 _ | with_reducible exact Le.refl _ | intro _ | apply Le.bind | apply Le.cond | apply Le.nil | apply Le.loop | apply Le.elim
def m53F : (Int × Int) → Option (Int) :=
  fun (x : Int × Int) => some x.1
theorem le53 (x) : Le (m53F x) (m53 x) := by
  unfold m53F m53
  repeat' first | with_reducible exact Le.refl _ | intro _ | apply Le.bind | apply Le.cond | apply Le.nil | apply Le.loop | apply Le.elim
def m54F : (Int × Int) → Option (Int) :=
  fun (x : Int × Int) => some x.2
theorem le54 (x) : Le (m54F x) (m54 x) := by
  unfold m54F m54
  repeat' first | with_reducible exact Le.refl _ | intro _ | apply Le.bind | apply Le.cond | apply Le.nil | apply Le.loop | apply Le.elim
def m32F : (Int × (List (Int × Int × Int × Int)) × List (Int × Int × Int × Int × Int)) → Option ((Int × List (Int × Int × Int)) × Int × List (Int × Int × Int)) :=
  fun (x : Int × List (Int × Int × Int × Int) × List (Int × Int × Int × Int × Int)) => Option.bind (loopF (fun (s : Int × Int × Int × List (Int × Int × Int) ×
  List (Int × Int × Int)) => bif ltM s.1 (lenM x.2.1) then Option.bind (idxM x.2.1 s.1) fun (r : Int × Int × Int × Int) => Option.bind (m53F (r.2.1, r.2.2.1))
  fun (r_1 : Int) => Option.bind (appM (nat_lit 24) s.2.2.2.1 [(x.1, r.1, IntKind.wrap IntKind.i64 (r_1 + r.2.2.2)), (r.1, x.1, IntKind.wrap IntKind.i64
  (r.2.2.2 - r_1))]) fun (r_2 : List (Int × Int × Int)) => Option.bind (m54F (r.2.1, r.2.2.1)) fun (r_3 : Int) => Option.bind (appM (nat_lit 24) s.2.2.2.2
  [(x.1, r.1, IntKind.wrap IntKind.i64 (r_3 + r.2.2.2)), (r.1, x.1, IntKind.wrap IntKind.i64 (r.2.2.2 - r_3))]) fun (r : List (Int × Int × Int)) => some
  (Sum.inl (IntKind.wrap IntKind.i64 (s.1 + (1 : Int)), s.2.1, s.2.2.1, r_2, r)) else some (Sum.inr (s.2.1, s.2.2.1, s.2.2.2.1, s.2.2.2.2))) ((0 : Int),
  IntKind.wrap IntKind.i64 (x.1 + (1 : Int)), IntKind.wrap IntKind.i64 (x.1 + (1 : Int)), [], [])) fun (o : Int × Int × List (Int × Int × Int) × List (Int × Int
  × Int)) => Option.bind (loopF (fun (s : Int × Int × Int × List (Int × Int × Int) × List (Int × Int × Int)) => bif ltM s.1 (lenM x.2.2) then Option.bind (idxM
  x.2.2 s.1) fun (r : Int × Int × Int × Int × Int) => Option.bind (m53F (r.2.2.1, r.2.2.2.1)) fun (r_1 : Int) => Option.bind (appM (nat_lit 24) s.2.2.2.1 [(r.1,
  r.2.1, IntKind.wrap IntKind.i64 (r_1 + r.2.2.2.2)), (r.2.1, r.1, IntKind.wrap IntKind.i64 (r.2.2.2.2 - r_1))]) fun (r_2 : List (Int × Int × Int)) =>
  Option.bind (m54F (r.2.2.1, r.2.2.2.1)) fun (r_3 : Int) => Option.bind (appM (nat_lit 24) s.2.2.2.2 [(r.1, r.2.1, IntKind.wrap IntKind.i64 (r_3 + r.2.2.2.2)),
  (r.2.1, r.1, IntKind.wrap IntKind.i64 (r.2.2.2.2 - r_3))]) fun (r : List (Int × Int × Int)) => some (Sum.inl (IntKind.wrap IntKind.i64 (s.1 + (1 : Int)),
  s.2.1, s.2.2.1, r_2, r)) else some (Sum.inr (s.2.1, s.2.2.1, s.2.2.2.1, s.2.2.2.2))) ((0 : Int), o.1, o.2.1, o.2.2.1, o.2.2.2)) fun (o : Int × Int × List (Int
  × Int × Int) × List (Int × Int × Int)) => some ((o.1, o.2.2.1), o.2.1, o.2.2.2)
theorem le32 (x) : Le (m32F x) (m32 x) := by
  unfold m32F m32
  repeat' first | exact le53 _ | exact le54 _ | with_reducible exact Le.refl _ | intro _ | apply Le.bind | apply Le.cond | apply Le.nil | apply Le.loop | apply Le.elim
def m60F : (Int × Int × Int) → Option (Bool) :=
  fun (x : Int × Int × Int) => some (PE.andM (leM x.2.1 x.1) (leM x.1 x.2.2))
theorem le60 (x) : Le (m60F x) (m60 x) := by
  unfold m60F m60
  repeat' first | with_reducible exact Le.refl _ | intro _ | apply Le.bind | apply Le.cond | apply Le.nil | apply Le.loop | apply Le.elim
def m63F : (Int × Int × Int × Int) → Option (Bool) :=
  fun (x : Int × Int × Int × Int) => Option.bind (m60F (x.2.1, (0 : Int), IntKind.wrap IntKind.i64 (x.1 - (1 : Int)))) fun (r : Bool) => Option.bind (bif r then
  m60F (x.2.2.1, (0 : Int), IntKind.wrap IntKind.i64 (x.1 - (1 : Int))) else some false) fun (r_1 : Bool) => Option.bind (bif PE.andM r r_1 then m60F (x.2.2.2,
  (-1000000000 : Int), (1000000000 : Int)) else some false) fun (r_2 : Bool) => some (PE.andM (PE.andM r r_1) r_2)
theorem le63 (x) : Le (m63F x) (m63 x) := by
  unfold m63F m63
  repeat' first | exact le60 _ | with_reducible exact Le.refl _ | intro _ | apply Le.bind | apply Le.cond | apply Le.nil | apply Le.loop | apply Le.elim
def m36F : (Int × List (Int × Int × Int)) → Option (Bool) :=
  fun (x : Int × List (Int × Int × Int)) => Option.bind (m60F (x.1, (0 : Int), (16 : Int))) fun (r : Bool) => Option.bind (bif PE.andM r (leM (lenM x.2) (60 :
  Int)) then Option.bind (Option.bind (loopF (fun (s : Int) => bif ltM s (lenM x.2) then Option.bind (idxM x.2 s) fun (r_1 : Int × Int × Int) => Option.bind
  (m63F (x.1, r_1.1, r_1.2.1, r_1.2.2)) fun (r : Bool) => bif PE.notM r then some (Sum.inr (Sum.inr s)) else some (Sum.inl (IntKind.wrap IntKind.i64 (s + (1 :
  Int)))) else some (Sum.inr (Sum.inl ()))) (0 : Int)) fun (o : Unit ⊕ Int) => Sum.elim (fun (t : Unit) => some (-1 : Int)) (fun (t : Int) => some t) o) fun (ov
  : Int) => some (leM (0 : Int) ov) else some false) fun (ov : Bool) => some (PE.andM (PE.andM r (leM (lenM x.2) (60 : Int))) (PE.notM ov))
theorem le36 (x) : Le (m36F x) (m36 x) := by
  unfold m36F m36
  repeat' first | exact le60 _ | exact le63 _ | with_reducible exact Le.refl _ | intro _ | apply Le.bind | apply Le.cond | apply Le.nil | apply Le.loop | apply Le.elim
def m86F : (Int × Int) → Option (Int) :=
  fun (x : Int × Int) => bif eqM x.1 x.2 then some (0 : Int) else some (1152921504606846976 : Int)
theorem le86 (x) : Le (m86F x) (m86 x) := by
  unfold m86F m86
  repeat' first | with_reducible exact Le.refl _ | intro _ | apply Le.bind | apply Le.cond | apply Le.nil | apply Le.loop | apply Le.elim
def m64F : Int → Option (List (List Int)) :=
  fun (x : Int) => Option.bind (mkM x x (nat_lit 24) []) fun (r : List (List Int)) => Option.bind (loopF (fun (s : Int × List (List Int)) => bif ltM s.1 x then
  Option.bind (loopF (fun (s_1 : Int × List (List Int)) => bif ltM s_1.1 x then Option.bind (chkM s.1 (lenM s_1.2)) fun (r_1 : Unit) => Option.bind (chkM s.1
  (lenM s_1.2)) fun (r_2 : Unit) => Option.bind (m86F (s.1, s_1.1)) fun (r_3 : Int) => Option.bind (app2M (nat_lit 8) s_1.2 s.1 [r_3]) fun (r_4 : List (List
  Int)) => Option.bind (chkM s.1 (lenM r_4)) fun (r_5 : Unit) => Option.bind (Option.bind (sameM s.1 s.1) fun (x : Unit) => Option.bind (sameM s.1 s.1) fun (x :
  Unit) => chkM s.1 (lenM r_4)) fun (r : Unit) => some (Sum.inl (IntKind.wrap IntKind.i64 (s_1.1 + (1 : Int)), r_4)) else some (Sum.inr s_1.2)) ((0 : Int),
  s.2)) fun (o : List (List Int)) => some (Sum.inl (IntKind.wrap IntKind.i64 (s.1 + (1 : Int)), o)) else some (Sum.inr s.2)) ((0 : Int), r)) fun (o : List (List
  Int)) => some o
theorem le64 (x) : Le (m64F x) (m64 x) := by
  unfold m64F m64
  repeat' first | exact le86 _ | with_reducible exact Le.refl _ | intro _ | apply Le.bind | apply Le.cond | apply Le.nil | apply Le.loop | apply Le.elim
def m56F : (Int × Int) → Option (Int) :=
  fun (x : Int × Int) => bif PE.orM (eqM x.1 (1152921504606846976 : Int)) (eqM x.2 (1152921504606846976 : Int)) then some (1152921504606846976 : Int) else some
  (IntKind.wrap IntKind.i64 (x.1 + x.2))
theorem le56 (x) : Le (m56F x) (m56 x) := by
  unfold m56F m56
  repeat' first | with_reducible exact Le.refl _ | intro _ | apply Le.bind | apply Le.cond | apply Le.nil | apply Le.loop | apply Le.elim
def m37F : (Int × List (Int × Int × Int)) → Option (List (List Int) × Bool) :=
  fun (x : Int × List (Int × Int × Int)) => Option.bind (mkM x.1 x.1 (nat_lit 24) []) fun (r : List (List Int)) => Option.bind (loopF (fun (s : Int × List (List
  Int)) => bif ltM s.1 x.1 then Option.bind (loopF (fun (s_1 : Int × List (List Int)) => bif ltM s_1.1 x.1 then Option.bind (chkM s.1 (lenM s_1.2)) fun (r_1 :
  Unit) => Option.bind (chkM s.1 (lenM s_1.2)) fun (r_2 : Unit) => Option.bind (m86F (s.1, s_1.1)) fun (r_3 : Int) => Option.bind (app2M (nat_lit 8) s_1.2 s.1
  [r_3]) fun (r_4 : List (List Int)) => Option.bind (chkM s.1 (lenM r_4)) fun (r_5 : Unit) => Option.bind (Option.bind (sameM s.1 s.1) fun (x : Unit) =>
  Option.bind (sameM s.1 s.1) fun (x : Unit) => chkM s.1 (lenM r_4)) fun (r : Unit) => some (Sum.inl (IntKind.wrap IntKind.i64 (s_1.1 + (1 : Int)), r_4)) else
  some (Sum.inr s_1.2)) ((0 : Int), s.2)) fun (o : List (List Int)) => some (Sum.inl (IntKind.wrap IntKind.i64 (s.1 + (1 : Int)), o)) else some (Sum.inr s.2))
  ((0 : Int), r)) fun (o : List (List Int)) => Option.bind (loopF (fun (s : Int × List (List Int)) => bif ltM s.1 (lenM x.2) then Option.bind (idxM x.2 s.1) fun
  (r_1 : Int × Int × Int) => Option.bind (chkM r_1.1 (lenM s.2)) fun (r_2 : Unit) => Option.bind (chkM r_1.1 (lenM s.2)) fun (r_3 : Unit) => Option.bind (chkM
  r_1.1 (lenM s.2)) fun (r_4 : Unit) => Option.bind (chkM r_1.1 (lenM s.2)) fun (r_5 : Unit) => Option.bind (Option.bind (idxM s.2 r_1.1) fun (xs : List Int) =>
  chkM r_1.2.1 (lenM xs)) fun (r_6 : Unit) => Option.bind (Option.bind (idxM s.2 r_1.1) fun (xs : List Int) => Option.bind (idxM xs r_1.2.1) fun (x : Int) =>
  some x) fun (r_7 : Int) => Option.bind (Option.bind (idxM s.2 r_1.1) fun (xs : List Int) => chkM r_1.2.1 (lenM xs)) fun (r_8 : Unit) => Option.bind (set2M s.2
  r_1.1 r_1.2.1 fun (x : Int) => some (min r_7 r_1.2.2)) fun (r : List (List Int)) => some (Sum.inl (IntKind.wrap IntKind.i64 (s.1 + (1 : Int)), r)) else some
  (Sum.inr s.2)) ((0 : Int), o)) fun (o_1 : List (List Int)) => Option.bind (loopF (fun (s : Int × List (List Int)) => bif ltM s.1 x.1 then Option.bind (mkM x.1
  x.1 (nat_lit 8) (0 : Int)) fun (r_1 : List Int) => Option.bind (chkM s.1 (lenM s.2)) fun (r_2 : Unit) => Option.bind (chkM s.1 (lenM s.2)) fun (r_3 : Unit) =>
  Option.bind (idxM s.2 s.1) fun (r_4 : List Int) => Option.bind (loopF (fun (s_1 : Int × List (List Int)) => bif ltM s_1.1 x.1 then Option.bind (loopF (fun
  (s_2 : Int × List (List Int)) => bif ltM s_2.1 x.1 then Option.bind (chkM s_1.1 (lenM s_2.2)) fun (r_5 : Unit) => Option.bind (chkM s_1.1 (lenM s_2.2)) fun
  (r_6 : Unit) => Option.bind (chkM s_1.1 (lenM s_2.2)) fun (r_7 : Unit) => Option.bind (chkM s_1.1 (lenM s_2.2)) fun (r_8 : Unit) => Option.bind (Option.bind
  (idxM s_2.2 s_1.1) fun (xs : List Int) => chkM s_2.1 (lenM xs)) fun (r_9 : Unit) => Option.bind (Option.bind (idxM s_2.2 s_1.1) fun (xs : List Int) =>
  Option.bind (idxM xs s_2.1) fun (x : Int) => some x) fun (r_10 : Int) => Option.bind (chkM s_1.1 (lenM s_2.2)) fun (r_11 : Unit) => Option.bind (chkM s_1.1
  (lenM s_2.2)) fun (r_12 : Unit) => Option.bind (Option.bind (idxM s_2.2 s_1.1) fun (xs : List Int) => chkM s.1 (lenM xs)) fun (r_13 : Unit) => Option.bind
  (Option.bind (idxM s_2.2 s_1.1) fun (xs : List Int) => Option.bind (idxM xs s.1) fun (x : Int) => some x) fun (r_14 : Int) => Option.bind (chkM s_2.1 (lenM
  (copyM r_1 r_4))) fun (r_15 : Unit) => Option.bind (idxM (copyM r_1 r_4) s_2.1) fun (r_16 : Int) => Option.bind (m56F (r_14, r_16)) fun (r_17 : Int) =>
  Option.bind (Option.bind (idxM s_2.2 s_1.1) fun (xs : List Int) => chkM s_2.1 (lenM xs)) fun (r_18 : Unit) => Option.bind (set2M s_2.2 s_1.1 s_2.1 fun (x :
  Int) => some (min r_10 r_17)) fun (r : List (List Int)) => some (Sum.inl (IntKind.wrap IntKind.i64 (s_2.1 + (1 : Int)), r)) else some (Sum.inr s_2.2)) ((0 :
  Int), s_1.2)) fun (o : List (List Int)) => some (Sum.inl (IntKind.wrap IntKind.i64 (s_1.1 + (1 : Int)), o)) else some (Sum.inr s_1.2)) ((0 : Int), s.2)) fun
  (o : List (List Int)) => some (Sum.inl (IntKind.wrap IntKind.i64 (s.1 + (1 : Int)), o)) else some (Sum.inr s.2)) ((0 : Int), o_1)) fun (o_2 : List (List Int))
  => Option.bind (loopF (fun (s : Int) => bif ltM s x.1 then Option.bind (chkM s (lenM o_2)) fun (r_1 : Unit) => Option.bind (chkM s (lenM o_2)) fun (r_2 :
  Unit) => Option.bind (Option.bind (idxM o_2 s) fun (xs : List Int) => chkM s (lenM xs)) fun (r_3 : Unit) => Option.bind (Option.bind (idxM o_2 s) fun (xs :
  List Int) => Option.bind (idxM xs s) fun (x : Int) => some x) fun (r : Int) => bif ltM r (0 : Int) then some (Sum.inr (Sum.inr false)) else some (Sum.inl
  (IntKind.wrap IntKind.i64 (s + (1 : Int)))) else some (Sum.inr (Sum.inl ()))) (0 : Int)) fun (o : Unit ⊕ Bool) => Sum.elim (fun (t : Unit) => some (o_2,
  true)) (fun (t : Bool) => some ([], t)) o
theorem le37 (x) : Le (m37F x) (m37 x) := by
  unfold m37F m37
  repeat' first | exact le56 _ | exact le86 _ | with_reducible exact Le.refl _ | intro _ | apply Le.bind | apply Le.cond | apply Le.nil | apply Le.loop | apply Le.elim
def m12F : (Int × List (Int × Int × Int)) → Option (List (List Int) × Int) :=
  fun (x : Int × List (Int × Int × Int)) => Option.bind (m36F (x.1, x.2)) fun (r : Bool) => bif PE.notM r then some ([], (90 : Int)) else Option.bind (m37F (x.1,
  x.2)) fun (r : List (List Int) × Bool) => bif PE.notM r.2 then some ([], (90 : Int)) else some (r.1, (0 : Int))
theorem le12 (x) : Le (m12F x) (m12 x) := by
  unfold m12F m12
  repeat' first | exact le36 _ | exact le37 _ | with_reducible exact Le.refl _ | intro _ | apply Le.bind | apply Le.cond | apply Le.nil | apply Le.loop | apply Le.elim
def m39F : ((Int × (List (Int × Int × Int × Int)) × List (Int × Int × Int × Int × Int)) × Int × Int) → Option ((Int × Int × Int × Int) × Int) :=
  fun (x : (Int × List (Int × Int × Int × Int) × List (Int × Int × Int × Int × Int)) × Int × Int) => Option.bind (m32F (x.1.1, x.1.2.1, x.1.2.2)) fun (r : (Int ×
  List (Int × Int × Int)) × Int × List (Int × Int × Int)) => Option.bind (m12F (r.1.1, r.1.2)) fun (r_1 : List (List Int) × Int) => Option.bind (m12F (r.2.1,
  r.2.2)) fun (r_2 : List (List Int) × Int) => Option.bind (bif PE.notM (PE.orM (PE.notM (eqM r_1.2 (0 : Int))) (PE.notM (eqM r_2.2 (0 : Int)))) then idxM r_1.1
  x.2.1 else some []) fun (r_3 : List Int) => Option.bind (bif PE.notM (PE.orM (PE.notM (eqM r_1.2 (0 : Int))) (PE.notM (eqM r_2.2 (0 : Int)))) then idxM r_3
  x.2.2 else some (0 : Int)) fun (r_4 : Int) => bif PE.orM (PE.orM (PE.notM (eqM r_1.2 (0 : Int))) (PE.notM (eqM r_2.2 (0 : Int)))) (eqM r_4
  (1152921504606846976 : Int)) then some (((0 : Int), (0 : Int), (0 : Int), (0 : Int)), (100 : Int)) else Option.bind (idxM r_1.1 x.2.2) fun (r_5 : List Int) =>
  Option.bind (idxM r_5 x.2.1) fun (r_6 : Int) => Option.bind (idxM r_1.1 x.2.1) fun (r_7 : List Int) => Option.bind (idxM r_7 x.2.2) fun (r_8 : Int) =>
  Option.bind (idxM r_2.1 x.2.2) fun (r_9 : List Int) => Option.bind (idxM r_9 x.2.1) fun (r_10 : Int) => Option.bind (idxM r_2.1 x.2.1) fun (r_11 : List Int)
  => Option.bind (idxM r_11 x.2.2) fun (r : Int) => some ((IntKind.wrap IntKind.i64 (negM r_6), r_8, IntKind.wrap IntKind.i64 (negM r_10), r), (0 : Int))
theorem le39 (x) : Le (m39F x) (m39 x) := by
  unfold m39F m39
  repeat' first | exact le12 _ | exact le32 _ | with_reducible exact Le.refl _ | intro _ | apply Le.bind | apply Le.cond | apply Le.nil | apply Le.loop | apply Le.elim
def m14F : ((Int × (List (Int × Int × Int × Int)) × List (Int × Int × Int × Int × Int)) × Int) → Option ((Int × Int × Int × Int) × Int) :=
  fun (x : (Int × List (Int × Int × Int × Int) × List (Int × Int × Int × Int × Int)) × Int) => Option.bind (m18F (x.1.1, x.1.2.1, x.1.2.2)) fun (r : Bool) =>
  Option.bind (bif PE.notM (PE.notM r) then m38F (x.2, (0 : Int), IntKind.wrap IntKind.i64 (x.1.1 - (1 : Int))) else some false) fun (r_1 : Bool) => bif PE.orM
  (PE.notM r) (PE.notM r_1) then some (((0 : Int), (0 : Int), (0 : Int), (0 : Int)), (100 : Int)) else Option.bind (m39F ((x.1.1, x.1.2.1, x.1.2.2), x.1.1,
  x.2)) fun (r : (Int × Int × Int × Int) × Int) => some ((r.1.1, r.1.2.1, r.1.2.2.1, r.1.2.2.2), r.2)
theorem le14 (x) : Le (m14F x) (m14 x) := by
  unfold m14F m14
  repeat' first | exact le18 _ | exact le38 _ | exact le39 _ | with_reducible exact Le.refl _ | intro _ | apply Le.bind | apply Le.cond | apply Le.nil | apply Le.loop | apply Le.elim
def m22F : ((Int × (List (Int × Int × Int × Int)) × List (Int × Int × Int × Int × Int)) × Int × Int) → Option ((Int × Int × Int × Int) × Int) :=
  fun (x : (Int × List (Int × Int × Int × Int) × List (Int × Int × Int × Int × Int)) × Int × Int) => Option.bind (m18F (x.1.1, x.1.2.1, x.1.2.2)) fun (r : Bool)
  => Option.bind (bif PE.notM (PE.notM r) then m38F (x.2.1, (0 : Int), IntKind.wrap IntKind.i64 (x.1.1 - (1 : Int))) else some false) fun (r_1 : Bool) =>
  Option.bind (bif PE.notM (PE.orM (PE.notM r) (PE.notM r_1)) then m38F (x.2.2, (0 : Int), IntKind.wrap IntKind.i64 (x.1.1 - (1 : Int))) else some false) fun
  (r_2 : Bool) => bif PE.orM (PE.orM (PE.notM r) (PE.notM r_1)) (PE.notM r_2) then some (((0 : Int), (0 : Int), (0 : Int), (0 : Int)), (100 : Int)) else
  Option.bind (m39F ((x.1.1, x.1.2.1, x.1.2.2), x.2.1, x.2.2)) fun (r : (Int × Int × Int × Int) × Int) => some ((r.1.1, r.1.2.1, r.1.2.2.1, r.1.2.2.2), r.2)
theorem le22 (x) : Le (m22F x) (m22 x) := by
  unfold m22F m22
  repeat' first | exact le18 _ | exact le38 _ | exact le39 _ | with_reducible exact Le.refl _ | intro _ | apply Le.bind | apply Le.cond | apply Le.nil | apply Le.loop | apply Le.elim
def m52F : (Int × Int) → Option (Int) :=
  fun (x : Int × Int) => Option.bind (loopF (fun (s : Int × Int) => bif PE.notM (eqM s.2 (0 : Int)) then Option.bind (remM s.1 s.2) fun (r : Int) => some (Sum.inl
  (s.2, r)) else some (Sum.inr s.1)) (x.1, x.2)) fun (o : Int) => some (max o (IntKind.wrap IntKind.i64 (negM o)))
theorem le52 (x) : Le (m52F x) (m52 x) := by
  unfold m52F m52
  repeat' first | with_reducible exact Le.refl _ | intro _ | apply Le.bind | apply Le.cond | apply Le.nil | apply Le.loop | apply Le.elim
def m25F : (Int × (List (Int × Int × Int × Int)) × List (Int × Int × Int × Int × Int)) → Option ((List Int × List Int × Int) × Int) :=
  fun (x : Int × List (Int × Int × Int × Int) × List (Int × Int × Int × Int × Int)) => Option.bind (m18F (x.1, x.2.1, x.2.2)) fun (r : Bool) => bif PE.notM r then
  some (([], [], (0 : Int)), (100 : Int)) else Option.bind (loopF (fun (s : Int × List Int) => bif ltM s.1 (lenM x.2.1) then Option.bind (idxM x.2.1 s.1) fun
  (r_1 : Int × Int × Int × Int) => Option.bind (bif eqM r_1.1 x.1 then some s.2 else Option.bind (chkM r_1.1 ↑(nat_lit 8)) fun (r_2 : Unit) => Option.bind (chkM
  r_1.1 ↑(nat_lit 10)) fun (r_3 : Unit) => Option.bind (idxM s.2 (↑(nat_lit 0) + r_1.1 * ↑(nat_lit 10) + r_1.1 * ↑(nat_lit 1))) fun (r_4 : Int) => Option.bind
  (chkM r_1.1 ↑(nat_lit 8)) fun (r_5 : Unit) => Option.bind (chkM r_1.1 ↑(nat_lit 10)) fun (r_6 : Unit) => Option.bind (setM s.2 (↑(nat_lit 0) + r_1.1 *
  ↑(nat_lit 10) + r_1.1 * ↑(nat_lit 1)) fun (x : Int) => some (IntKind.wrap IntKind.i64 (r_4 + (1 : Int)))) fun (r_7 : List Int) => Option.bind (chkM r_1.1
  ↑(nat_lit 8)) fun (r_8 : Unit) => Option.bind (idxM r_7 (↑(nat_lit 0) + r_1.1 * ↑(nat_lit 10) + (8 : Int))) fun (r_9 : Int) => Option.bind (chkM r_1.1
  ↑(nat_lit 8)) fun (r_10 : Unit) => Option.bind (setM r_7 (↑(nat_lit 0) + r_1.1 * ↑(nat_lit 10) + (8 : Int)) fun (x : Int) => some (IntKind.wrap IntKind.i64
  (r_9 + r_1.2.1))) fun (r_11 : List Int) => Option.bind (chkM r_1.1 ↑(nat_lit 8)) fun (r_12 : Unit) => Option.bind (idxM r_11 (↑(nat_lit 0) + r_1.1 * ↑(nat_lit
  10) + (9 : Int))) fun (r_13 : Int) => Option.bind (chkM r_1.1 ↑(nat_lit 8)) fun (r_14 : Unit) => Option.bind (setM r_11 (↑(nat_lit 0) + r_1.1 * ↑(nat_lit 10)
  + (9 : Int)) fun (x : Int) => some (IntKind.wrap IntKind.i64 (r_13 + r_1.2.2.1))) fun (r_15 : List Int) => bif ltM x.1 x.1 then Option.bind (chkM r_1.1
  ↑(nat_lit 8)) fun (r_16 : Unit) => Option.bind (chkM x.1 ↑(nat_lit 10)) fun (r_17 : Unit) => Option.bind (idxM r_15 (↑(nat_lit 0) + r_1.1 * ↑(nat_lit 10) +
  x.1 * ↑(nat_lit 1))) fun (r_18 : Int) => Option.bind (chkM r_1.1 ↑(nat_lit 8)) fun (r_19 : Unit) => Option.bind (chkM x.1 ↑(nat_lit 10)) fun (r_20 : Unit) =>
  Option.bind (setM r_15 (↑(nat_lit 0) + r_1.1 * ↑(nat_lit 10) + x.1 * ↑(nat_lit 1)) fun (x : Int) => some (IntKind.wrap IntKind.i64 (r_18 - (1 : Int)))) fun (r
  : List Int) => some r else some r_15) fun (ov : List Int) => Option.bind (bif eqM x.1 x.1 then some ov else Option.bind (chkM x.1 ↑(nat_lit 8)) fun (r_2 :
  Unit) => Option.bind (chkM x.1 ↑(nat_lit 10)) fun (r_3 : Unit) => Option.bind (idxM ov (↑(nat_lit 0) + x.1 * ↑(nat_lit 10) + x.1 * ↑(nat_lit 1))) fun (r_4 :
  Int) => Option.bind (chkM x.1 ↑(nat_lit 8)) fun (r_5 : Unit) => Option.bind (chkM x.1 ↑(nat_lit 10)) fun (r_6 : Unit) => Option.bind (setM ov (↑(nat_lit 0) +
  x.1 * ↑(nat_lit 10) + x.1 * ↑(nat_lit 1)) fun (x : Int) => some (IntKind.wrap IntKind.i64 (r_4 + (1 : Int)))) fun (r_7 : List Int) => Option.bind (chkM x.1
  ↑(nat_lit 8)) fun (r_8 : Unit) => Option.bind (idxM r_7 (↑(nat_lit 0) + x.1 * ↑(nat_lit 10) + (8 : Int))) fun (r_9 : Int) => Option.bind (chkM x.1 ↑(nat_lit
  8)) fun (r_10 : Unit) => Option.bind (setM r_7 (↑(nat_lit 0) + x.1 * ↑(nat_lit 10) + (8 : Int)) fun (x : Int) => some (IntKind.wrap IntKind.i64 (r_9 +
  IntKind.wrap IntKind.i64 (negM r_1.2.1)))) fun (r_11 : List Int) => Option.bind (chkM x.1 ↑(nat_lit 8)) fun (r_12 : Unit) => Option.bind (idxM r_11 (↑(nat_lit
  0) + x.1 * ↑(nat_lit 10) + (9 : Int))) fun (r_13 : Int) => Option.bind (chkM x.1 ↑(nat_lit 8)) fun (r_14 : Unit) => Option.bind (setM r_11 (↑(nat_lit 0) + x.1
  * ↑(nat_lit 10) + (9 : Int)) fun (x : Int) => some (IntKind.wrap IntKind.i64 (r_13 + IntKind.wrap IntKind.i64 (negM r_1.2.2.1)))) fun (r_15 : List Int) => bif
  ltM r_1.1 x.1 then Option.bind (chkM x.1 ↑(nat_lit 8)) fun (r_16 : Unit) => Option.bind (chkM r_1.1 ↑(nat_lit 10)) fun (r_17 : Unit) => Option.bind (idxM r_15
  (↑(nat_lit 0) + x.1 * ↑(nat_lit 10) + r_1.1 * ↑(nat_lit 1))) fun (r_18 : Int) => Option.bind (chkM x.1 ↑(nat_lit 8)) fun (r_19 : Unit) => Option.bind (chkM
  r_1.1 ↑(nat_lit 10)) fun (r_20 : Unit) => Option.bind (setM r_15 (↑(nat_lit 0) + x.1 * ↑(nat_lit 10) + r_1.1 * ↑(nat_lit 1)) fun (x : Int) => some
  (IntKind.wrap IntKind.i64 (r_18 - (1 : Int)))) fun (r : List Int) => some r else some r_15) fun (ov : List Int) => some (Sum.inl (IntKind.wrap IntKind.i64
  (s.1 + (1 : Int)), ov)) else some (Sum.inr s.2)) ((0 : Int), [(0 : Int), (0 : Int), (0 : Int), (0 : Int), (0 : Int), (0 : Int), (0 : Int), (0 : Int), (0 :
  Int), (0 : Int), (0 : Int), (0 : Int), (0 : Int), (0 : Int), (0 : Int), (0 : Int), (0 : Int), (0 : Int), (0 : Int), (0 : Int), (0 : Int), (0 : Int), (0 :
  Int), (0 : Int), (0 : Int), (0 : Int), (0 : Int), (0 : Int), (0 : Int), (0 : Int), (0 : Int), (0 : Int), (0 : Int), (0 : Int), (0 : Int), (0 : Int), (0 :
  Int), (0 : Int), (0 : Int), (0 : Int), (0 : Int), (0 : Int), (0 : Int), (0 : Int), (0 : Int), (0 : Int), (0 : Int), (0 : Int), (0 : Int), (0 : Int), (0 :
  Int), (0 : Int), (0 : Int), (0 : Int), (0 : Int), (0 : Int), (0 : Int), (0 : Int), (0 : Int), (0 : Int), (0 : Int), (0 : Int), (0 : Int), (0 : Int), (0 :
  Int), (0 : Int), (0 : Int), (0 : Int), (0 : Int), (0 : Int), (0 : Int), (0 : Int), (0 : Int), (0 : Int), (0 : Int), (0 : Int), (0 : Int), (0 : Int), (0 :
  Int), (0 : Int)])) fun (o : List Int) => Option.bind (loopF (fun (s : Int × List Int) => bif ltM s.1 (lenM x.2.2) then Option.bind (idxM x.2.2 s.1) fun (r_1 :
  Int × Int × Int × Int × Int) => Option.bind (bif eqM r_1.2.1 x.1 then some s.2 else Option.bind (chkM r_1.2.1 ↑(nat_lit 8)) fun (r_2 : Unit) => Option.bind
  (chkM r_1.2.1 ↑(nat_lit 10)) fun (r_3 : Unit) => Option.bind (idxM s.2 (↑(nat_lit 0) + r_1.2.1 * ↑(nat_lit 10) + r_1.2.1 * ↑(nat_lit 1))) fun (r_4 : Int) =>
  Option.bind (chkM r_1.2.1 ↑(nat_lit 8)) fun (r_5 : Unit) => Option.bind (chkM r_1.2.1 ↑(nat_lit 10)) fun (r_6 : Unit) => Option.bind (setM s.2 (↑(nat_lit 0) +
  r_1.2.1 * ↑(nat_lit 10) + r_1.2.1 * ↑(nat_lit 1)) fun (x : Int) => some (IntKind.wrap IntKind.i64 (r_4 + (1 : Int)))) fun (r_7 : List Int) => Option.bind
  (chkM r_1.2.1 ↑(nat_lit 8)) fun (r_8 : Unit) => Option.bind (idxM r_7 (↑(nat_lit 0) + r_1.2.1 * ↑(nat_lit 10) + (8 : Int))) fun (r_9 : Int) => Option.bind
  (chkM r_1.2.1 ↑(nat_lit 8)) fun (r_10 : Unit) => Option.bind (setM r_7 (↑(nat_lit 0) + r_1.2.1 * ↑(nat_lit 10) + (8 : Int)) fun (x : Int) => some
  (IntKind.wrap IntKind.i64 (r_9 + r_1.2.2.1))) fun (r_11 : List Int) => Option.bind (chkM r_1.2.1 ↑(nat_lit 8)) fun (r_12 : Unit) => Option.bind (idxM r_11
  (↑(nat_lit 0) + r_1.2.1 * ↑(nat_lit 10) + (9 : Int))) fun (r_13 : Int) => Option.bind (chkM r_1.2.1 ↑(nat_lit 8)) fun (r_14 : Unit) => Option.bind (setM r_11
  (↑(nat_lit 0) + r_1.2.1 * ↑(nat_lit 10) + (9 : Int)) fun (x : Int) => some (IntKind.wrap IntKind.i64 (r_13 + r_1.2.2.2.1))) fun (r_15 : List Int) => bif ltM
  r_1.1 x.1 then Option.bind (chkM r_1.2.1 ↑(nat_lit 8)) fun (r_16 : Unit) => Option.bind (chkM r_1.1 ↑(nat_lit 10)) fun (r_17 : Unit) => Option.bind (idxM r_15
  (↑(nat_lit 0) + r_1.2.1 * ↑(nat_lit 10) + r_1.1 * ↑(nat_lit 1))) fun (r_18 : Int) => Option.bind (chkM r_1.2.1 ↑(nat_lit 8)) fun (r_19 : Unit) => Option.bind
  (chkM r_1.1 ↑(nat_lit 10)) fun (r_20 : Unit) => Option.bind (setM r_15 (↑(nat_lit 0) + r_1.2.1 * ↑(nat_lit 10) + r_1.1 * ↑(nat_lit 1)) fun (x : Int) => some
  (IntKind.wrap IntKind.i64 (r_18 - (1 : Int)))) fun (r : List Int) => some r else some r_15) fun (ov : List Int) => Option.bind (bif eqM r_1.1 x.1 then some ov
  else Option.bind (chkM r_1.1 ↑(nat_lit 8)) fun (r_2 : Unit) => Option.bind (chkM r_1.1 ↑(nat_lit 10)) fun (r_3 : Unit) => Option.bind (idxM ov (↑(nat_lit 0) +
  r_1.1 * ↑(nat_lit 10) + r_1.1 * ↑(nat_lit 1))) fun (r_4 : Int) => Option.bind (chkM r_1.1 ↑(nat_lit 8)) fun (r_5 : Unit) => Option.bind (chkM r_1.1 ↑(nat_lit
  10)) fun (r_6 : Unit) => Option.bind (setM ov (↑(nat_lit 0) + r_1.1 * ↑(nat_lit 10) + r_1.1 * ↑(nat_lit 1)) fun (x : Int) => some (IntKind.wrap IntKind.i64
  (r_4 + (1 : Int)))) fun (r_7 : List Int) => Option.bind (chkM r_1.1 ↑(nat_lit 8)) fun (r_8 : Unit) => Option.bind (idxM r_7 (↑(nat_lit 0) + r_1.1 * ↑(nat_lit
  10) + (8 : Int))) fun (r_9 : Int) => Option.bind (chkM r_1.1 ↑(nat_lit 8)) fun (r_10 : Unit) => Option.bind (setM r_7 (↑(nat_lit 0) + r_1.1 * ↑(nat_lit 10) +
  (8 : Int)) fun (x : Int) => some (IntKind.wrap IntKind.i64 (r_9 + IntKind.wrap IntKind.i64 (negM r_1.2.2.1)))) fun (r_11 : List Int) => Option.bind (chkM
  r_1.1 ↑(nat_lit 8)) fun (r_12 : Unit) => Option.bind (idxM r_11 (↑(nat_lit 0) + r_1.1 * ↑(nat_lit 10) + (9 : Int))) fun (r_13 : Int) => Option.bind (chkM
  r_1.1 ↑(nat_lit 8)) fun (r_14 : Unit) => Option.bind (setM r_11 (↑(nat_lit 0) + r_1.1 * ↑(nat_lit 10) + (9 : Int)) fun (x : Int) => some (IntKind.wrap
  IntKind.i64 (r_13 + IntKind.wrap IntKind.i64 (negM r_1.2.2.2.1)))) fun (r_15 : List Int) => bif ltM r_1.2.1 x.1 then Option.bind (chkM r_1.1 ↑(nat_lit 8)) fun
  (r_16 : Unit) => Option.bind (chkM r_1.2.1 ↑(nat_lit 10)) fun (r_17 : Unit) => Option.bind (idxM r_15 (↑(nat_lit 0) + r_1.1 * ↑(nat_lit 10) + r_1.2.1 *
  ↑(nat_lit 1))) fun (r_18 : Int) => Option.bind (chkM r_1.1 ↑(nat_lit 8)) fun (r_19 : Unit) => Option.bind (chkM r_1.2.1 ↑(nat_lit 10)) fun (r_20 : Unit) =>
  Option.bind (setM r_15 (↑(nat_lit 0) + r_1.1 * ↑(nat_lit 10) + r_1.2.1 * ↑(nat_lit 1)) fun (x : Int) => some (IntKind.wrap IntKind.i64 (r_18 - (1 : Int))))
  fun (r : List Int) => some r else some r_15) fun (ov : List Int) => some (Sum.inl (IntKind.wrap IntKind.i64 (s.1 + (1 : Int)), ov)) else some (Sum.inr s.2))
  ((0 : Int), o)) fun (o_1 : List Int) => Option.bind (Option.bind (loopF (fun (s : Int × Int × List Int) => bif ltM s.2.1 x.1 then Option.bind (loopF (fun (s_1
  : Int) => Option.bind (bif ltM s_1 x.1 then chkM s_1 ↑(nat_lit 8) else some ()) fun (r_1 : Unit) => Option.bind (bif ltM s_1 x.1 then chkM s.2.1 ↑(nat_lit 10)
  else some ()) fun (r_2 : Unit) => Option.bind (bif ltM s_1 x.1 then idxM s.2.2 (↑(nat_lit 0) + s_1 * ↑(nat_lit 10) + s.2.1 * ↑(nat_lit 1)) else some (0 :
  Int)) fun (r : Int) => bif PE.andM (ltM s_1 x.1) (eqM r (0 : Int)) then some (Sum.inl (IntKind.wrap IntKind.i64 (s_1 + (1 : Int)))) else some (Sum.inr s_1))
  s.2.1) fun (o_2 : Int) => bif eqM o_2 x.1 then some (Sum.inr (Sum.inr ((0 : Int), s.2.2))) else Option.bind (chkM s.2.1 ↑(nat_lit 8)) fun (r_1 : Unit) =>
  Option.bind (sliceM s.2.2 (↑(nat_lit 0) + s.2.1 * ↑(nat_lit 10)) (↑(nat_lit 0) + s.2.1 * ↑(nat_lit 10) + ↑(nat_lit 10))) fun (r_2 : List Int) => Option.bind
  (chkM o_2 ↑(nat_lit 8)) fun (r_3 : Unit) => Option.bind (sliceM s.2.2 (↑(nat_lit 0) + o_2 * ↑(nat_lit 10)) (↑(nat_lit 0) + o_2 * ↑(nat_lit 10) + ↑(nat_lit
  10))) fun (r_4 : List Int) => Option.bind (chkM o_2 ↑(nat_lit 8)) fun (r_5 : Unit) => Option.bind (putM s.2.2 (↑(nat_lit 0) + o_2 * ↑(nat_lit 10)) [nthD r_2
  (nat_lit 0) (0 : Int), nthD r_2 (nat_lit 1) (0 : Int), nthD r_2 (nat_lit 2) (0 : Int), nthD r_2 (nat_lit 3) (0 : Int), nthD r_2 (nat_lit 4) (0 : Int), nthD
  r_2 (nat_lit 5) (0 : Int), nthD r_2 (nat_lit 6) (0 : Int), nthD r_2 (nat_lit 7) (0 : Int), nthD r_2 (nat_lit 8) (0 : Int), nthD r_2 (nat_lit 9) (0 : Int)])
  fun (r_6 : List Int) => Option.bind (chkM s.2.1 ↑(nat_lit 8)) fun (r_7 : Unit) => Option.bind (putM r_6 (↑(nat_lit 0) + s.2.1 * ↑(nat_lit 10)) [nthD r_4
  (nat_lit 0) (0 : Int), nthD r_4 (nat_lit 1) (0 : Int), nthD r_4 (nat_lit 2) (0 : Int), nthD r_4 (nat_lit 3) (0 : Int), nthD r_4 (nat_lit 4) (0 : Int), nthD
  r_4 (nat_lit 5) (0 : Int), nthD r_4 (nat_lit 6) (0 : Int), nthD r_4 (nat_lit 7) (0 : Int), nthD r_4 (nat_lit 8) (0 : Int), nthD r_4 (nat_lit 9) (0 : Int)])
  fun (r_8 : List Int) => Option.bind (loopF (fun (s_1 : Int × List Int) => bif ltM s_1.1 x.1 then Option.bind (bif eqM s_1.1 s.2.1 then some s_1.2 else
  Option.bind (chkM s_1.1 ↑(nat_lit 8)) fun (r_9 : Unit) => Option.bind (chkM s.2.1 ↑(nat_lit 10)) fun (r_10 : Unit) => Option.bind (idxM s_1.2 (↑(nat_lit 0) +
  s_1.1 * ↑(nat_lit 10) + s.2.1 * ↑(nat_lit 1))) fun (r_11 : Int) => Option.bind (loopF (fun (s_2 : Int × List Int) => bif ltM s_2.1 (10 : Int) then Option.bind
  (chkM s_1.1 ↑(nat_lit 8)) fun (r_12 : Unit) => Option.bind (chkM s_2.1 ↑(nat_lit 10)) fun (r_13 : Unit) => Option.bind (idxM s_2.2 (↑(nat_lit 0) + s_1.1 *
  ↑(nat_lit 10) + s_2.1 * ↑(nat_lit 1))) fun (r_14 : Int) => Option.bind (chkM s.2.1 ↑(nat_lit 8)) fun (r_15 : Unit) => Option.bind (chkM s.2.1 ↑(nat_lit 10))
  fun (r_16 : Unit) => Option.bind (idxM s_2.2 (↑(nat_lit 0) + s.2.1 * ↑(nat_lit 10) + s.2.1 * ↑(nat_lit 1))) fun (r_17 : Int) => Option.bind (chkM s.2.1
  ↑(nat_lit 8)) fun (r_18 : Unit) => Option.bind (chkM s_2.1 ↑(nat_lit 10)) fun (r_19 : Unit) => Option.bind (idxM s_2.2 (↑(nat_lit 0) + s.2.1 * ↑(nat_lit 10) +
  s_2.1 * ↑(nat_lit 1))) fun (r_20 : Int) => Option.bind (divM IntKind.i64 (IntKind.wrap IntKind.i64 (IntKind.wrap IntKind.i64 (r_14 * r_17) - IntKind.wrap
  IntKind.i64 (r_11 * r_20))) s.1) fun (r_21 : Int) => Option.bind (chkM s_1.1 ↑(nat_lit 8)) fun (r_22 : Unit) => Option.bind (chkM s_2.1 ↑(nat_lit 10)) fun
  (r_23 : Unit) => Option.bind (setM s_2.2 (↑(nat_lit 0) + s_1.1 * ↑(nat_lit 10) + s_2.1 * ↑(nat_lit 1)) fun (x : Int) => some r_21) fun (r : List Int) => some
  (Sum.inl (IntKind.wrap IntKind.i64 (s_2.1 + (1 : Int)), r)) else some (Sum.inr s_2.2)) ((0 : Int), s_1.2)) fun (o : List Int) => some o) fun (o : List Int) =>
  some (Sum.inl (IntKind.wrap IntKind.i64 (s_1.1 + (1 : Int)), o)) else some (Sum.inr s_1.2)) ((0 : Int), r_8)) fun (o_3 : List Int) => Option.bind (chkM s.2.1
  ↑(nat_lit 8)) fun (r_9 : Unit) => Option.bind (chkM s.2.1 ↑(nat_lit 10)) fun (r_10 : Unit) => Option.bind (idxM o_3 (↑(nat_lit 0) + s.2.1 * ↑(nat_lit 10) +
  s.2.1 * ↑(nat_lit 1))) fun (r : Int) => some (Sum.inl (r, IntKind.wrap IntKind.i64 (s.2.1 + (1 : Int)), o_3)) else some (Sum.inr (Sum.inl (s.1, s.2.2)))) ((1
  : Int), (0 : Int), o_1)) fun (o : Int × List Int ⊕ Int × List Int) => Sum.elim (fun (t : Int × List Int) => some (t.1, t.2)) (fun (t : Int × List Int) => some
  (t.1, t.2)) o) fun (ov : Int × List Int) => bif eqM ov.1 (0 : Int) then some (([], [], (0 : Int)), (100 : Int)) else Option.bind (loopF (fun (s : Int × Int ×
  Int × List Int × List Int) => bif ltM s.2.1 x.1 then Option.bind (chkM s.2.1 ↑(nat_lit 8)) fun (r_1 : Unit) => Option.bind (idxM ov.2 (↑(nat_lit 0) + s.2.1 *
  ↑(nat_lit 10) + (8 : Int))) fun (r_2 : Int) => Option.bind (appM (nat_lit 8) s.2.2.2.1 [r_2]) fun (r_3 : List Int) => Option.bind (chkM s.2.1 ↑(nat_lit 8))
  fun (r_4 : Unit) => Option.bind (idxM ov.2 (↑(nat_lit 0) + s.2.1 * ↑(nat_lit 10) + (9 : Int))) fun (r_5 : Int) => Option.bind (appM (nat_lit 8) s.2.2.2.2
  [r_5]) fun (r_6 : List Int) => Option.bind (chkM s.2.1 (lenM r_3)) fun (r_7 : Unit) => Option.bind (idxM r_3 s.2.1) fun (r_8 : Int) => Option.bind (m52F (s.1,
  r_8)) fun (r_9 : Int) => Option.bind (chkM s.2.1 (lenM r_6)) fun (r_10 : Unit) => Option.bind (idxM r_6 s.2.1) fun (r_11 : Int) => Option.bind (m52F (r_9,
  r_11)) fun (r : Int) => some (Sum.inl (r, IntKind.wrap IntKind.i64 (s.2.1 + (1 : Int)), s.2.2.1, r_3, r_6)) else some (Sum.inr (s.1, s.2.2.1, s.2.2.2.1,
  s.2.2.2.2))) (ov.1, (0 : Int), ov.1, [], [])) fun (o_2 : Int × Int × List Int × List Int) => Option.bind (bif ltM ov.1 (0 : Int) then some (IntKind.wrap
  IntKind.i64 (negM o_2.1)) else some o_2.1) fun (o_3 : Int) => Option.bind (divM IntKind.i64 o_2.2.1 o_3) fun (r_1 : Int) => Option.bind (loopF (fun (s : Int ×
  List Int × List Int) => bif ltM s.1 x.1 then Option.bind (chkM s.1 (lenM s.2.1)) fun (r_2 : Unit) => Option.bind (idxM s.2.1 s.1) fun (r_3 : Int) =>
  Option.bind (divM IntKind.i64 r_3 o_3) fun (r_4 : Int) => Option.bind (chkM s.1 (lenM s.2.1)) fun (r_5 : Unit) => Option.bind (setM s.2.1 s.1 fun (x : Int) =>
  some r_4) fun (r_6 : List Int) => Option.bind (chkM s.1 (lenM s.2.2)) fun (r_7 : Unit) => Option.bind (idxM s.2.2 s.1) fun (r_8 : Int) => Option.bind (divM
  IntKind.i64 r_8 o_3) fun (r_9 : Int) => Option.bind (chkM s.1 (lenM s.2.2)) fun (r_10 : Unit) => Option.bind (setM s.2.2 s.1 fun (x : Int) => some r_9) fun (r
  : List Int) => some (Sum.inl (IntKind.wrap IntKind.i64 (s.1 + (1 : Int)), r_6, r)) else some (Sum.inr (s.2.1, s.2.2))) ((0 : Int), o_2.2.2.1, o_2.2.2.2)) fun
  (o : List Int × List Int) => some ((o.1, o.2, r_1), (0 : Int))
theorem le25 (x) : Le (m25F x) (m25 x) := by
  unfold m25F m25
  repeat' first | exact le18 _ | exact le52 _ | with_reducible exact Le.refl _ | intro _ | apply Le.bind | apply Le.cond | apply Le.nil | apply Le.loop | apply Le.elim
def m72F : (Int × Int) → Option (Int) :=
  fun (x : Int × Int) => some (1152921504606846976 : Int)
theorem le72 (x) : Le (m72F x) (m72 x) := by
  unfold m72F m72
  repeat' first | with_reducible exact Le.refl _ | intro _ | apply Le.bind | apply Le.cond | apply Le.nil | apply Le.loop | apply Le.elim
def m57F : ((Int × List (Int × Int × Int)) × List (List (List Int)) × Int × Int × Int × Int) → Option (List Int) :=
  fun (x : (Int × List (Int × Int × Int)) × List (List (List Int)) × Int × Int × Int × Int) => Option.bind (loopF (fun (s : Int × Int × Int × List Int) => bif ltM
  (0 : Int) s.2.1 then Option.bind (Option.bind (loopF (fun (s_1 : Int) => bif ltM s_1 (lenM x.1.2) then Option.bind (idxM x.1.2 s_1) fun (r : Int × Int × Int)
  => Option.bind (bif eqM r.1 s.1 then idxM x.2.1 (IntKind.wrap IntKind.i64 (s.2.1 - (1 : Int))) else some []) fun (r_1 : List (List Int)) => Option.bind (bif
  eqM r.1 s.1 then idxM r_1 r.2.1 else some []) fun (r_2 : List Int) => Option.bind (bif eqM r.1 s.1 then idxM r_2 x.2.2.2.1 else some (0 : Int)) fun (r_3 :
  Int) => Option.bind (bif eqM r.1 s.1 then m56F (r.2.2, r_3) else some (0 : Int)) fun (r_4 : Int) => bif PE.andM (eqM r.1 s.1) (leM r_4 s.2.2.1) then some
  (Sum.inr (Sum.inr s_1)) else some (Sum.inl (IntKind.wrap IntKind.i64 (s_1 + (1 : Int)))) else some (Sum.inr (Sum.inl ()))) (0 : Int)) fun (o : Unit ⊕ Int) =>
  Sum.elim (fun (t : Unit) => some (-1 : Int)) (fun (t : Int) => some t) o) fun (ov : Int) => Option.bind (idxM x.1.2 ov) fun (r : Int × Int × Int) =>
  Option.bind (idxM x.1.2 ov) fun (r_1 : Int × Int × Int) => Option.bind (appM (nat_lit 8) s.2.2.2 [ov]) fun (r_2 : List Int) => some (Sum.inl (r.2.1,
  IntKind.wrap IntKind.i64 (s.2.1 - (1 : Int)), IntKind.wrap IntKind.i64 (s.2.2.1 - r_1.2.2), r_2)) else some (Sum.inr (s.1, s.2.1, s.2.2.1, s.2.2.2)))
  (x.2.2.1, x.2.2.2.2.1, x.2.2.2.2.2, [])) fun (o : Int × Int × Int × List Int) => some o.2.2.2
theorem le57 (x) : Le (m57F x) (m57 x) := by
  unfold m57F m57
  repeat' first | exact le56 _ | with_reducible exact Le.refl _ | intro _ | apply Le.bind | apply Le.cond | apply Le.nil | apply Le.loop | apply Le.elim
def m33F : (Int × List (Int × Int × Int)) → Option (List Int × Bool) :=
  fun (x : Int × List (Int × Int × Int)) => Option.bind (m36F (x.1, x.2)) fun (r : Bool) => bif PE.notM r then some ([], false) else Option.bind (m37F (x.1, x.2))
  fun (r_1 : List (List Int) × Bool) => bif r_1.2 then some ([], false) else Option.bind (m64F x.1) fun (r_2 : List (List Int)) => Option.bind (loopF (fun (s :
  List (List Int) × List (List (List Int))) => Option.bind (appM (nat_lit 24) s.2 [s.1]) fun (r_3 : List (List (List Int))) => Option.bind (loopF (fun (s_1 :
  Int) => bif ltM s_1 (lenM x.2) then Option.bind (idxM x.2 s_1) fun (r_4 : Int × Int × Int) => Option.bind (bif ltM (0 : Int) (IntKind.wrap IntKind.i64 (lenM
  r_3 - (1 : Int))) then chkM (IntKind.wrap IntKind.i64 (IntKind.wrap IntKind.i64 (lenM r_3 - (1 : Int)) - (1 : Int))) (lenM r_3) else some ()) fun (r_5 : Unit)
  => Option.bind (bif ltM (0 : Int) (IntKind.wrap IntKind.i64 (lenM r_3 - (1 : Int))) then idxM r_3 (IntKind.wrap IntKind.i64 (IntKind.wrap IntKind.i64 (lenM
  r_3 - (1 : Int)) - (1 : Int))) else some []) fun (r_6 : List (List Int)) => Option.bind (bif ltM (0 : Int) (IntKind.wrap IntKind.i64 (lenM r_3 - (1 : Int)))
  then idxM r_6 r_4.2.1 else some []) fun (r_7 : List Int) => Option.bind (bif ltM (0 : Int) (IntKind.wrap IntKind.i64 (lenM r_3 - (1 : Int))) then idxM r_7
  r_4.1 else some (0 : Int)) fun (r_8 : Int) => Option.bind (bif ltM (0 : Int) (IntKind.wrap IntKind.i64 (lenM r_3 - (1 : Int))) then m56F (r_4.2.2, r_8) else
  some (0 : Int)) fun (r_9 : Int) => bif PE.andM (ltM (0 : Int) (IntKind.wrap IntKind.i64 (lenM r_3 - (1 : Int)))) (ltM r_9 (0 : Int)) then Option.bind (m57F
  ((x.1, x.2), r_3, r_4.2.1, r_4.1, IntKind.wrap IntKind.i64 (IntKind.wrap IntKind.i64 (lenM r_3 - (1 : Int)) - (1 : Int)), IntKind.wrap IntKind.i64 ((-1 : Int)
  - r_4.2.2))) fun (r_10 : List Int) => Option.bind (appM (nat_lit 8) [s_1] r_10) fun (r : List Int) => some (Sum.inr (Sum.inr (r, true, r_3))) else some
  (Sum.inl (IntKind.wrap IntKind.i64 (s_1 + (1 : Int)))) else some (Sum.inr (Sum.inl ()))) (0 : Int)) fun (o : Unit ⊕ List Int × Bool × List (List (List Int)))
  => Sum.elim (fun (t : Unit) => Option.bind (mkM x.1 x.1 (nat_lit 24) []) fun (r_4 : List (List Int)) => Option.bind (loopF (fun (s_1 : Int × List (List Int))
  => bif ltM s_1.1 x.1 then Option.bind (loopF (fun (s_2 : Int × List (List Int)) => bif ltM s_2.1 x.1 then Option.bind (chkM s_1.1 (lenM s_2.2)) fun (r_5 :
  Unit) => Option.bind (chkM s_1.1 (lenM s_2.2)) fun (r_6 : Unit) => Option.bind (m72F (s_1.1, s_2.1)) fun (r_7 : Int) => Option.bind (app2M (nat_lit 8) s_2.2
  s_1.1 [r_7]) fun (r_8 : List (List Int)) => Option.bind (chkM s_1.1 (lenM r_8)) fun (r_9 : Unit) => Option.bind (Option.bind (sameM s_1.1 s_1.1) fun (x :
  Unit) => Option.bind (sameM s_1.1 s_1.1) fun (x : Unit) => chkM s_1.1 (lenM r_8)) fun (r : Unit) => some (Sum.inl (IntKind.wrap IntKind.i64 (s_2.1 + (1 :
  Int)), r_8)) else some (Sum.inr s_2.2)) ((0 : Int), s_1.2)) fun (o : List (List Int)) => some (Sum.inl (IntKind.wrap IntKind.i64 (s_1.1 + (1 : Int)), o)) else
  some (Sum.inr s_1.2)) ((0 : Int), r_4)) fun (o : List (List Int)) => Option.bind (loopF (fun (s_1 : Int × List (List Int)) => bif ltM s_1.1 (lenM x.2) then
  Option.bind (idxM x.2 s_1.1) fun (r_5 : Int × Int × Int) => Option.bind (loopF (fun (s_2 : Int × List (List Int)) => bif ltM s_2.1 x.1 then Option.bind (chkM
  s_2.1 (lenM s_2.2)) fun (r_6 : Unit) => Option.bind (chkM s_2.1 (lenM s_2.2)) fun (r_7 : Unit) => Option.bind (chkM s_2.1 (lenM s_2.2)) fun (r_8 : Unit) =>
  Option.bind (chkM s_2.1 (lenM s_2.2)) fun (r_9 : Unit) => Option.bind (Option.bind (idxM s_2.2 s_2.1) fun (xs : List Int) => chkM r_5.2.1 (lenM xs)) fun (r_10
  : Unit) => Option.bind (Option.bind (idxM s_2.2 s_2.1) fun (xs : List Int) => Option.bind (idxM xs r_5.2.1) fun (x : Int) => some x) fun (r_11 : Int) =>
  Option.bind (idxM s.1 s_2.1) fun (r_12 : List Int) => Option.bind (idxM r_12 r_5.1) fun (r_13 : Int) => Option.bind (m56F (r_13, r_5.2.2)) fun (r_14 : Int) =>
  Option.bind (Option.bind (idxM s_2.2 s_2.1) fun (xs : List Int) => chkM r_5.2.1 (lenM xs)) fun (r_15 : Unit) => Option.bind (set2M s_2.2 s_2.1 r_5.2.1 fun (x
  : Int) => some (min r_11 r_14)) fun (r : List (List Int)) => some (Sum.inl (IntKind.wrap IntKind.i64 (s_2.1 + (1 : Int)), r)) else some (Sum.inr s_2.2)) ((0 :
  Int), s_1.2)) fun (o : List (List Int)) => some (Sum.inl (IntKind.wrap IntKind.i64 (s_1.1 + (1 : Int)), o)) else some (Sum.inr s_1.2)) ((0 : Int), o)) fun (o
  : List (List Int)) => some (Sum.inl (o, r_3))) (fun (t : List Int × Bool × List (List (List Int))) => some (Sum.inr (t.1, t.2.1, t.2.2))) o) (r_2, [])) fun (o
  : List Int × Bool × List (List (List Int))) => some (o.1, o.2.1)
theorem le33 (x) : Le (m33F x) (m33 x) := by
  unfold m33F m33
  repeat' first | exact le36 _ | exact le37 _ | exact le56 _ | exact le57 _ | exact le64 _ | exact le72 _ | with_reducible exact Le.refl _ | intro _ | apply Le.bind | apply Le.cond | apply Le.nil | apply Le.loop | apply Le.elim
def m10F : (Int × (List (Int × Int × Int × Int)) × List (Int × Int × Int × Int × Int)) → Option (List Int × Bool) :=
  fun (x : Int × List (Int × Int × Int × Int) × List (Int × Int × Int × Int × Int)) => Option.bind (m18F (x.1, x.2.1, x.2.2)) fun (r : Bool) => bif PE.notM r then
  some ([], false) else Option.bind (m32F (x.1, x.2.1, x.2.2)) fun (r_1 : (Int × List (Int × Int × Int)) × Int × List (Int × Int × Int)) => Option.bind
  (Option.bind (m33F (r_1.1.1, r_1.1.2)) fun (r : List Int × Bool) => bif PE.andM r.2 (PE.orM true (ltM (lenM r.1) (0 : Int))) then some (r.1, true) else some
  ([], false)) fun (o : List Int × Bool) => Option.bind (Option.bind (m33F (r_1.2.1, r_1.2.2)) fun (r : List Int × Bool) => bif PE.andM r.2 (PE.orM (PE.notM
  o.2) (ltM (lenM r.1) (lenM o.1))) then some (r.1, true) else some (o.1, o.2)) fun (o_1 : List Int × Bool) => Option.bind (loopF (fun (s : Int × List Int) =>
  bif ltM s.1 (lenM o_1.1) then Option.bind (idxM o_1.1 s.1) fun (r_2 : Int) => Option.bind (divM IntKind.i64 r_2 (2 : Int)) fun (r_3 : Int) => Option.bind
  (appM (nat_lit 8) s.2 [r_3]) fun (r : List Int) => some (Sum.inl (IntKind.wrap IntKind.i64 (s.1 + (1 : Int)), r)) else some (Sum.inr s.2)) ((0 : Int), []))
  fun (o_2 : List Int) => Option.bind (sortI o_2) fun (r_2 : List Int) => Option.bind (compI r_2) fun (r : List Int) => some (r, o_1.2)
theorem le10 (x) : Le (m10F x) (m10 x) := by
  unfold m10F m10
  repeat' first | exact le18 _ | exact le32 _ | exact le33 _ | with_reducible exact Le.refl _ | intro _ | apply Le.bind | apply Le.cond | apply Le.nil | apply Le.loop | apply Le.elim
def m49F : (List Int × List Int) → Option (Bool) :=
  fun (x : List Int × List Int) => bif PE.notM (eqM (lenM x.1) (lenM x.2)) then some false else Option.bind (loopF (fun (s : Int) => bif ltM s (lenM x.1) then
  Option.bind (idxM x.1 s) fun (r : Int) => Option.bind (idxM x.2 s) fun (r_1 : Int) => bif PE.notM (eqM r r_1) then some (Sum.inr (Sum.inr false)) else some
  (Sum.inl (IntKind.wrap IntKind.i64 (s + (1 : Int)))) else some (Sum.inr (Sum.inl ()))) (0 : Int)) fun (o : Unit ⊕ Bool) => Sum.elim (fun (t : Unit) => some
  true) (fun (t : Bool) => some t) o
theorem le49 (x) : Le (m49F x) (m49 x) := by
  unfold m49F m49
  repeat' first | with_reducible exact Le.refl _ | intro _ | apply Le.bind | apply Le.cond | apply Le.nil | apply Le.loop | apply Le.elim
def m24F : (List Int × List Int) → Option (Bool) :=
  fun (x : List Int × List Int) => Option.bind (m49F (x.1, x.2)) fun (r : Bool) => some r
theorem le24 (x) : Le (m24F x) (m24 x) := by
  unfold m24F m24
  repeat' first | exact le49 _ | with_reducible exact Le.refl _ | intro _ | apply Le.bind | apply Le.cond | apply Le.nil | apply Le.loop | apply Le.elim
def m26F : ((List Int × List Int × Int) × List Int × List Int × Int) → Option (Bool) :=
  fun (x : (List Int × List Int × Int) × List Int × List Int × Int) => Option.bind (m24F (x.1.1, x.2.1)) fun (r : Bool) => Option.bind (bif r then m24F (x.1.2.1,
  x.2.2.1) else some false) fun (r_1 : Bool) => some (PE.andM (PE.andM r r_1) (eqM x.1.2.2 x.2.2.2))
theorem le26 (x) : Le (m26F x) (m26 x) := by
  unfold m26F m26
  repeat' first | exact le24 _ | with_reducible exact Le.refl _ | intro _ | apply Le.bind | apply Le.cond | apply Le.nil | apply Le.loop | apply Le.elim
def m41F : (Int × Int) → Option (Bool) :=
  fun (x : Int × Int) => Option.bind (m42F (x.1, x.2, (1000000 : Int))) fun (r : Bool) => some (PE.notM r)
theorem le41 (x) : Le (m41F x) (m41 x) := by
  unfold m41F m41
  repeat' first | exact le42 _ | with_reducible exact Le.refl _ | intro _ | apply Le.bind | apply Le.cond | apply Le.nil | apply Le.loop | apply Le.elim
def m17F : ((Int × (List (Int × Int × Int × Int)) × List (Int × Int × Int × Int × Int)) × List (Int × Int)) → Option (Bool) :=
  fun (x : (Int × List (Int × Int × Int × Int) × List (Int × Int × Int × Int × Int)) × List (Int × Int)) => Option.bind (m18F (x.1.1, x.1.2.1, x.1.2.2)) fun (r :
  Bool) => Option.bind (bif PE.notM (PE.orM (PE.notM r) (PE.notM (eqM (lenM x.2) x.1.1))) then Option.bind (Option.bind (loopF (fun (s : Int) => bif ltM s (lenM
  x.2) then Option.bind (idxM x.2 s) fun (r_1 : Int × Int) => Option.bind (m41F (r_1.1, r_1.2)) fun (r : Bool) => bif r then some (Sum.inr (Sum.inr s)) else
  some (Sum.inl (IntKind.wrap IntKind.i64 (s + (1 : Int)))) else some (Sum.inr (Sum.inl ()))) (0 : Int)) fun (o : Unit ⊕ Int) => Sum.elim (fun (t : Unit) =>
  some (-1 : Int)) (fun (t : Int) => some t) o) fun (ov : Int) => some (leM (0 : Int) ov) else some false) fun (ov : Bool) => bif PE.orM (PE.orM (PE.notM r)
  (PE.notM (eqM (lenM x.2) x.1.1))) ov then some false else Option.bind (nilF x.2 (some []) (Option.bind (appM (nat_lit 16) [] x.2) fun (r : List (Int × Int))
  => some r)) fun (ov_1 : List (Int × Int)) => Option.bind (appM (nat_lit 16) ov_1 [((0 : Int), (0 : Int))]) fun (r_1 : List (Int × Int)) => Option.bind (loopF
  (fun (s : Int) => bif ltM s (lenM x.1.2.1) then Option.bind (idxM x.1.2.1 s) fun (r_2 : Int × Int × Int × Int) => Option.bind (chkM r_2.1 (lenM r_1)) fun (r_3
  : Unit) => Option.bind (Option.bind (idxM r_1 r_2.1) fun (x : Int × Int) => some x.1) fun (r_4 : Int) => Option.bind (chkM x.1.1 (lenM r_1)) fun (r_5 : Unit)
  => Option.bind (Option.bind (idxM r_1 x.1.1) fun (x : Int × Int) => some x.1) fun (r_6 : Int) => Option.bind (chkM r_2.1 (lenM r_1)) fun (r_7 : Unit) =>
  Option.bind (Option.bind (idxM r_1 r_2.1) fun (x : Int × Int) => some x.2) fun (r_8 : Int) => Option.bind (chkM x.1.1 (lenM r_1)) fun (r_9 : Unit) =>
  Option.bind (Option.bind (idxM r_1 x.1.1) fun (x : Int × Int) => some x.2) fun (r_10 : Int) => Option.bind (m42F (IntKind.wrap IntKind.i64 (IntKind.wrap
  IntKind.i64 (r_4 - r_6) - r_2.2.1), IntKind.wrap IntKind.i64 (IntKind.wrap IntKind.i64 (r_8 - r_10) - r_2.2.2.1), r_2.2.2.2)) fun (r : Bool) => bif PE.notM r
  then some (Sum.inr (Sum.inr false)) else some (Sum.inl (IntKind.wrap IntKind.i64 (s + (1 : Int)))) else some (Sum.inr (Sum.inl ()))) (0 : Int)) fun (o : Unit
  ⊕ Bool) => Sum.elim (fun (t : Unit) => Option.bind (loopF (fun (s : Int) => bif ltM s (lenM x.1.2.2) then Option.bind (idxM x.1.2.2 s) fun (r_2 : Int × Int ×
  Int × Int × Int) => Option.bind (chkM r_2.2.1 (lenM r_1)) fun (r_3 : Unit) => Option.bind (Option.bind (idxM r_1 r_2.2.1) fun (x : Int × Int) => some x.1) fun
  (r_4 : Int) => Option.bind (chkM r_2.1 (lenM r_1)) fun (r_5 : Unit) => Option.bind (Option.bind (idxM r_1 r_2.1) fun (x : Int × Int) => some x.1) fun (r_6 :
  Int) => Option.bind (chkM r_2.2.1 (lenM r_1)) fun (r_7 : Unit) => Option.bind (Option.bind (idxM r_1 r_2.2.1) fun (x : Int × Int) => some x.2) fun (r_8 : Int)
  => Option.bind (chkM r_2.1 (lenM r_1)) fun (r_9 : Unit) => Option.bind (Option.bind (idxM r_1 r_2.1) fun (x : Int × Int) => some x.2) fun (r_10 : Int) =>
  Option.bind (m42F (IntKind.wrap IntKind.i64 (IntKind.wrap IntKind.i64 (r_4 - r_6) - r_2.2.2.1), IntKind.wrap IntKind.i64 (IntKind.wrap IntKind.i64 (r_8 -
  r_10) - r_2.2.2.2.1), r_2.2.2.2.2)) fun (r : Bool) => bif PE.notM r then some (Sum.inr (Sum.inr false)) else some (Sum.inl (IntKind.wrap IntKind.i64 (s + (1 :
  Int)))) else some (Sum.inr (Sum.inl ()))) (0 : Int)) fun (o : Unit ⊕ Bool) => Sum.elim (fun (t : Unit) => some true) (fun (t : Bool) => some t) o) (fun (t :
  Bool) => some t) o
theorem le17 (x) : Le (m17F x) (m17 x) := by
  unfold m17F m17
  repeat' first | exact le18 _ | exact le41 _ | exact le42 _ | with_reducible exact Le.refl _ | intro _ | apply Le.bind | apply Le.cond | apply Le.nil | apply Le.loop | apply Le.elim
def m8F : Unit → Option (Bool) :=
  fun (x : Unit) => Option.bind (appM (nat_lit 40) [] [((0 : Int), (1 : Int), (100 : Int), (0 : Int), (3 : Int)), ((1 : Int), (2 : Int), (0 : Int), (50 : Int), (1
  : Int)), ((0 : Int), (2 : Int), (104 : Int), (48 : Int), (2 : Int))]) fun (r : List (Int × Int × Int × Int × Int)) => Option.bind (chkM (2 : Int) (lenM r))
  fun (r_1 : Unit) => Option.bind (setM r (2 : Int) fun (x : Int × Int × Int × Int × Int) => some (x.1, x.2.1, (111 : Int), x.2.2.2)) fun (r_2 : List (Int × Int
  × Int × Int × Int)) => Option.bind (m14F (((3 : Int), [((0 : Int), (0 : Int), (0 : Int), (2 : Int))], [((0 : Int), (1 : Int), (100 : Int), (0 : Int), (3 :
  Int)), ((1 : Int), (2 : Int), (0 : Int), (50 : Int), (1 : Int)), ((0 : Int), (2 : Int), (104 : Int), (48 : Int), (2 : Int))]), (0 : Int))) fun (r_3 : (Int ×
  Int × Int × Int) × Int) => Option.bind (m14F (((3 : Int), [((0 : Int), (0 : Int), (0 : Int), (2 : Int))], [((0 : Int), (1 : Int), (100 : Int), (0 : Int), (3 :
  Int)), ((1 : Int), (2 : Int), (0 : Int), (50 : Int), (1 : Int)), ((0 : Int), (2 : Int), (104 : Int), (48 : Int), (2 : Int))]), (1 : Int))) fun (r_4 : (Int ×
  Int × Int × Int) × Int) => Option.bind (m14F (((3 : Int), [((0 : Int), (0 : Int), (0 : Int), (2 : Int))], [((0 : Int), (1 : Int), (100 : Int), (0 : Int), (3 :
  Int)), ((1 : Int), (2 : Int), (0 : Int), (50 : Int), (1 : Int)), ((0 : Int), (2 : Int), (104 : Int), (48 : Int), (2 : Int))]), (2 : Int))) fun (r_5 : (Int ×
  Int × Int × Int) × Int) => Option.bind (m22F (((3 : Int), [((0 : Int), (0 : Int), (0 : Int), (2 : Int))], [((0 : Int), (1 : Int), (100 : Int), (0 : Int), (3 :
  Int)), ((1 : Int), (2 : Int), (0 : Int), (50 : Int), (1 : Int)), ((0 : Int), (2 : Int), (104 : Int), (48 : Int), (2 : Int))]), (0 : Int), (2 : Int))) fun (r_6
  : (Int × Int × Int × Int) × Int) => Option.bind (m25F ((3 : Int), [((0 : Int), (0 : Int), (0 : Int), (2 : Int))], [((0 : Int), (1 : Int), (100 : Int), (0 :
  Int), (3 : Int)), ((1 : Int), (2 : Int), (0 : Int), (50 : Int), (1 : Int)), ((0 : Int), (2 : Int), (104 : Int), (48 : Int), (2 : Int))])) fun (r_7 : (List Int
  × List Int × Int) × Int) => Option.bind (m10F ((3 : Int), [((0 : Int), (0 : Int), (0 : Int), (2 : Int))], r_2)) fun (r_8 : List Int × Bool) => Option.bind
  (m10F ((3 : Int), [((0 : Int), (0 : Int), (0 : Int), (2 : Int))], [((0 : Int), (1 : Int), (100 : Int), (0 : Int), (3 : Int)), ((1 : Int), (2 : Int), (0 :
  Int), (50 : Int), (1 : Int)), ((0 : Int), (2 : Int), (104 : Int), (48 : Int), (2 : Int))])) fun (r_9 : List Int × Bool) => Option.bind (m14F (((3 : Int), [((0
  : Int), (0 : Int), (0 : Int), (2 : Int))], r_2), (0 : Int))) fun (r_10 : (Int × Int × Int × Int) × Int) => bif PE.orM (PE.orM (PE.orM (PE.orM (PE.orM (PE.orM
  (PE.orM (PE.notM (eqM r_3.2 (0 : Int))) (PE.notM (eqM r_4.2 (0 : Int)))) (PE.notM (eqM r_5.2 (0 : Int)))) (PE.notM (eqM r_6.2 (0 : Int)))) (PE.notM (eqM r_7.2
  (0 : Int)))) (PE.notM (eqM r_10.2 (100 : Int)))) (PE.notM r_8.2)) r_9.2 then some false else Option.bind (m26F ((r_7.1.1, r_7.1.2.1, r_7.1.2.2), [(0 : Int),
  (304 : Int), (308 : Int)], [(0 : Int), (-2 : Int), (146 : Int)], (3 : Int))) fun (r_11 : Bool) => Option.bind (m17F (((3 : Int), [((0 : Int), (0 : Int), (0 :
  Int), (2 : Int))], [((0 : Int), (1 : Int), (100 : Int), (0 : Int), (3 : Int)), ((1 : Int), (2 : Int), (0 : Int), (50 : Int), (1 : Int)), ((0 : Int), (2 :
  Int), (104 : Int), (48 : Int), (2 : Int))]), [((0 : Int), (0 : Int)), ((101 : Int), (-1 : Int)), ((102 : Int), (48 : Int))])) fun (r_12 : Bool) => Option.bind
  (bif r_12 then m17F (((3 : Int), [((0 : Int), (0 : Int), (0 : Int), (2 : Int))], [((0 : Int), (1 : Int), (100 : Int), (0 : Int), (3 : Int)), ((1 : Int), (2 :
  Int), (0 : Int), (50 : Int), (1 : Int)), ((0 : Int), (2 : Int), (104 : Int), (48 : Int), (2 : Int))]), [((0 : Int), (0 : Int)), ((104 : Int), (-1 : Int)),
  ((103 : Int), (48 : Int))]) else some false) fun (r_13 : Bool) => Option.bind (bif PE.andM (PE.andM (PE.andM (PE.andM (PE.andM (PE.andM (eqM r_3.1.1 (-2 :
  Int)) (PE.andM (eqM r_3.1.2.1 (2 : Int)) (PE.andM (eqM r_3.1.2.2.1 (-2 : Int)) (eqM r_3.1.2.2.2 (2 : Int))))) (PE.andM (eqM r_4.1.1 (99 : Int)) (PE.andM (eqM
  r_4.1.2.1 (105 : Int)) (PE.andM (eqM r_4.1.2.2.1 (-5 : Int)) (eqM r_4.1.2.2.2 (3 : Int)))))) (PE.andM (eqM r_5.1.1 (100 : Int)) (PE.andM (eqM r_5.1.2.1 (106 :
  Int)) (PE.andM (eqM r_5.1.2.2.1 (44 : Int)) (eqM r_5.1.2.2.2 (52 : Int)))))) (PE.andM (eqM r_6.1.1 (102 : Int)) (PE.andM (eqM r_6.1.2.1 (104 : Int)) (PE.andM
  (eqM r_6.1.2.2.1 (46 : Int)) (eqM r_6.1.2.2.2 (50 : Int)))))) r_11) (PE.andM r_12 (PE.notM r_13)) then m24F (r_8.1, [(1 : Int), (2 : Int), (3 : Int)]) else
  some false) fun (r_14 : Bool) => Option.bind (bif PE.andM (PE.andM (PE.andM (PE.andM (PE.andM (PE.andM (PE.andM (eqM r_3.1.1 (-2 : Int)) (PE.andM (eqM
  r_3.1.2.1 (2 : Int)) (PE.andM (eqM r_3.1.2.2.1 (-2 : Int)) (eqM r_3.1.2.2.2 (2 : Int))))) (PE.andM (eqM r_4.1.1 (99 : Int)) (PE.andM (eqM r_4.1.2.1 (105 :
  Int)) (PE.andM (eqM r_4.1.2.2.1 (-5 : Int)) (eqM r_4.1.2.2.2 (3 : Int)))))) (PE.andM (eqM r_5.1.1 (100 : Int)) (PE.andM (eqM r_5.1.2.1 (106 : Int)) (PE.andM
  (eqM r_5.1.2.2.1 (44 : Int)) (eqM r_5.1.2.2.2 (52 : Int)))))) (PE.andM (eqM r_6.1.1 (102 : Int)) (PE.andM (eqM r_6.1.2.1 (104 : Int)) (PE.andM (eqM
  r_6.1.2.2.1 (46 : Int)) (eqM r_6.1.2.2.2 (50 : Int)))))) r_11) (PE.andM r_12 (PE.notM r_13))) r_14 then m18F ((3 : Int), [((0 : Int), (0 : Int), (0 : Int), (2
  : Int))], [((0 : Int), (1 : Int), (100 : Int), (0 : Int), (3 : Int)), ((1 : Int), (2 : Int), (0 : Int), (50 : Int), (1 : Int)), ((0 : Int), (2 : Int), (104 :
  Int), (48 : Int), (2 : Int))]) else some false) fun (r_15 : Bool) => Option.bind (bif PE.andM (PE.andM (PE.andM (PE.andM (PE.andM (PE.andM (PE.andM (PE.andM
  (eqM r_3.1.1 (-2 : Int)) (PE.andM (eqM r_3.1.2.1 (2 : Int)) (PE.andM (eqM r_3.1.2.2.1 (-2 : Int)) (eqM r_3.1.2.2.2 (2 : Int))))) (PE.andM (eqM r_4.1.1 (99 :
  Int)) (PE.andM (eqM r_4.1.2.1 (105 : Int)) (PE.andM (eqM r_4.1.2.2.1 (-5 : Int)) (eqM r_4.1.2.2.2 (3 : Int)))))) (PE.andM (eqM r_5.1.1 (100 : Int)) (PE.andM
  (eqM r_5.1.2.1 (106 : Int)) (PE.andM (eqM r_5.1.2.2.1 (44 : Int)) (eqM r_5.1.2.2.2 (52 : Int)))))) (PE.andM (eqM r_6.1.1 (102 : Int)) (PE.andM (eqM r_6.1.2.1
  (104 : Int)) (PE.andM (eqM r_6.1.2.2.1 (46 : Int)) (eqM r_6.1.2.2.2 (50 : Int)))))) r_11) (PE.andM r_12 (PE.notM r_13))) r_14) r_15 then m18F ((9 : Int), [],
  []) else some false) fun (r : Bool) => some (PE.andM (PE.andM (PE.andM (PE.andM (PE.andM (PE.andM (PE.andM (PE.andM (PE.andM (eqM r_3.1.1 (-2 : Int)) (PE.andM
  (eqM r_3.1.2.1 (2 : Int)) (PE.andM (eqM r_3.1.2.2.1 (-2 : Int)) (eqM r_3.1.2.2.2 (2 : Int))))) (PE.andM (eqM r_4.1.1 (99 : Int)) (PE.andM (eqM r_4.1.2.1 (105
  : Int)) (PE.andM (eqM r_4.1.2.2.1 (-5 : Int)) (eqM r_4.1.2.2.2 (3 : Int)))))) (PE.andM (eqM r_5.1.1 (100 : Int)) (PE.andM (eqM r_5.1.2.1 (106 : Int)) (PE.andM
  (eqM r_5.1.2.2.1 (44 : Int)) (eqM r_5.1.2.2.2 (52 : Int)))))) (PE.andM (eqM r_6.1.1 (102 : Int)) (PE.andM (eqM r_6.1.2.1 (104 : Int)) (PE.andM (eqM
  r_6.1.2.2.1 (46 : Int)) (eqM r_6.1.2.2.2 (50 : Int)))))) r_11) (PE.andM r_12 (PE.notM r_13))) r_14) r_15) (PE.notM r))
theorem le8 (x) : Le (m8F x) (m8 x) := by
  unfold m8F m8
  repeat' first | exact le10 _ | exact le14 _ | exact le17 _ | exact le18 _ | exact le22 _ | exact le24 _ | exact le25 _ | exact le26 _ | with_reducible exact Le.refl _ | intro _ | apply Le.bind | apply Le.cond | apply Le.nil | apply Le.loop | apply Le.elim
end Go.Proofs.Ytklddmmnggcffaa
/-
  Network: the self-test of the laws answers true.
  No conditions.
-/
namespace Go.Proofs.Ytklddmmnggcffaa
open Go Go.Abs Go.PE
set_option maxRecDepth 100000 in
theorem saneF : m8F () = some true := by kernel_rfl
theorem sane_ok : m8 () = some true := (le8 ()).out saneF
end Go.Proofs.Ytklddmmnggcffaa
/-
  Network: what is valid, and the bounds of both axes.
  No conditions.
-/
namespace Go.Proofs.Ytklddmmnggcffaa
open Go Go.Abs Go.PE
set_option linter.unusedVariables false
abbrev Fix := Int × Int × Int × Int
abbrev Sgt := Int × Int × Int × Int × Int
abbrev Net := Int × List Fix × List Sgt
def inB (a b c : Int) : Bool := decide (b ≤ a) && decide (a ≤ c)
theorem inB_iff {a b c : Int} : inB a b c = true ↔ b ≤ a ∧ a ≤ c := by simp [inB]
def nearB (x y l : Int) : Bool := inB x (-l) l && inB y (-l) l
def fixB (n : Int) (f : Fix) : Bool := inB f.1 0 (n - 1) && nearB f.2.1 f.2.2.1 10000 && inB f.2.2.2 0 1000
def sgtB (n : Int) (s : Sgt) : Bool := inB s.1 0 (n - 1) && inB s.2.1 0 (n - 1) && !decide (s.1 = s.2.1) && nearB s.2.2.1 s.2.2.2.1 10000 && inB s.2.2.2.2 0 1000
def nval (c : Net) : Bool := (inB c.1 0 8 && decide (c.2.1.length ≤ 8) && decide (c.2.2.length ≤ 20)) && (c.2.1.all (fixB c.1) && c.2.2.all (sgtB c.1))
theorem m38_eq (a b c : Int) : m38 (a, b, c) = some (inB a b c) := rfl
theorem m42_eq {x y l : Int} (h1 : -9223372036854775808 < l) (h2 : l ≤ 9223372036854775807) : m42 (x, y, l) = some (nearB x y l) := by
  have e : IntKind.wrap IntKind.i64 (negM l) = -l := wrap_in (n := -l) (by omega) (by omega)
  unfold m42 nearB
  dsimp only
  rw [e, m38_eq, m38_eq, Option.bind_some]
  cases inB x (-l) l <;> rfl
theorem not_any {α : Type} (xs : List α) (p : α → Bool) : (!xs.any fun x => !p x) = xs.all p := by
  rw [List.not_any_eq_all_not]
  simp
theorem m18_eq (c : Net) : m18 c = some (nval c) := by
  obtain ⟨n, fs, ss⟩ := c
  unfold m18 nval
  dsimp only
  rw [m38_eq, Option.bind_some]
  by_cases h : inB n 0 8 = true ∧ fs.length ≤ 8 ∧ ss.length ≤ 20
  · obtain ⟨h1, h2, h3⟩ := h
    have hn := inB_iff.1 h1
    have e0 : IntKind.wrap IntKind.i64 (n - 1) = n - 1 := wrap_in (by omega) (by omega)
    rw [h1, geI (a := 8) (by show (fs.length : Int) ≤ 8; omega), geI (a := 20) (by show (ss.length : Int) ≤ 20; omega), decide_eq_true h2, decide_eq_true h3]
    show Option.bind _ _ = _
    have L1 := any_loop (xs := fs) (fun f => !fixB n f) (body := fun (s : Int) =>
                bif ltM s (lenM fs) then
                  Option.bind (idxM fs s) fun (r_1 : Int × Int × Int × Int) =>
                    Option.bind (m38 (r_1.1, (0 : Int), IntKind.wrap IntKind.i64 (n - (1 : Int)))) fun (r_2 : Bool) =>
                      Option.bind (bif PE.notM (PE.notM r_2) then m42 (r_1.2.1, r_1.2.2.1, (10000 : Int)) else some false)
                        fun (r_3 : Bool) =>
                        Option.bind
                          (bif PE.notM (PE.orM (PE.notM r_2) (PE.notM r_3)) then m38 (r_1.2.2.2, (0 : Int), (1000 : Int))
                          else some false)
                          fun (r : Bool) =>
                          bif PE.orM (PE.orM (PE.notM r_2) (PE.notM r_3)) (PE.notM r) then some (Sum.inr (Sum.inr s))
                          else some (Sum.inl (IntKind.wrap IntKind.i64 (s + (1 : Int))))
                else some (Sum.inr (Sum.inl ()))) (fun k hk => by
        rw [ltI (by show (k : Int) < (fs.length : Int); omega), cond_true, idxM_lt hk, Option.bind_some, m38_eq, Option.bind_some, m42_eq (by omega) (by omega), m38_eq, e0, wrap_in (n := (k : Int) + 1) (by omega) (by omega)]
        unfold fixB
        generalize fs[k] = f
        cases inB f.1 0 (n - 1) <;> cases nearB f.2.1 f.2.2.1 10000 <;> cases inB f.2.2.2 0 1000 <;> rfl) (by rw [geI (by show (fs.length : Int) ≤ (fs.length : Int); omega), cond_false])
    have L2 := any_loop (xs := ss) (fun f => !sgtB n f) (body := fun (s : Int) =>
                      bif ltM s (lenM ss) then
                        Option.bind (idxM ss s) fun (r_1 : Int × Int × Int × Int × Int) =>
                          Option.bind (m38 (r_1.1, (0 : Int), IntKind.wrap IntKind.i64 (n - (1 : Int))))
                            fun (r_2 : Bool) =>
                            Option.bind
                              (bif PE.notM (PE.notM r_2) then
                                m38 (r_1.2.1, (0 : Int), IntKind.wrap IntKind.i64 (n - (1 : Int)))
                              else some false)
                              fun (r_3 : Bool) =>
                              Option.bind
                                (bif PE.notM (PE.orM (PE.orM (PE.notM r_2) (PE.notM r_3)) (eqM r_1.1 r_1.2.1)) then
                                  m42 (r_1.2.2.1, r_1.2.2.2.1, (10000 : Int))
                                else some false)
                                fun (r_4 : Bool) =>
                                Option.bind
                                  (bif
                                      PE.notM
                                        (PE.orM (PE.orM (PE.orM (PE.notM r_2) (PE.notM r_3)) (eqM r_1.1 r_1.2.1))
                                          (PE.notM r_4)) then
                                    m38 (r_1.2.2.2.2, (0 : Int), (1000 : Int))
                                  else some false)
                                  fun (r : Bool) =>
                                  bif
                                      PE.orM
                                        (PE.orM (PE.orM (PE.orM (PE.notM r_2) (PE.notM r_3)) (eqM r_1.1 r_1.2.1))
                                          (PE.notM r_4))
                                        (PE.notM r) then
                                    some (Sum.inr (Sum.inr s))
                                  else some (Sum.inl (IntKind.wrap IntKind.i64 (s + (1 : Int))))
                      else some (Sum.inr (Sum.inl ()))) (fun k hk => by
        rw [ltI (by show (k : Int) < (ss.length : Int); omega), cond_true, idxM_lt hk, Option.bind_some, m38_eq, Option.bind_some, m38_eq, m42_eq (by omega) (by omega), m38_eq, e0, wrap_in (n := (k : Int) + 1) (by omega) (by omega)]
        unfold sgtB
        generalize ss[k] = f
        have ee : eqM f.1 f.2.1 = decide (f.1 = f.2.1) := rfl
        rw [ee]
        cases inB f.1 0 (n - 1) <;> cases inB f.2.1 0 (n - 1) <;> cases decide (f.1 = f.2.1) <;> cases nearB f.2.2.1 f.2.2.2.1 10000 <;> cases inB f.2.2.2.2 0 1000 <;> rfl) (by rw [geI (by show (ss.length : Int) ≤ (ss.length : Int); omega), cond_false])
    obtain ⟨ov, hov, hb⟩ := Option.bind_eq_some_iff.1 L1
    have hb := Option.some.inj hb
    refine bind_of hov ?_
    rw [hb]
    have e9 : ∀ b : Bool, (Option.bind (bif PE.notM b then (some (ss.any fun f => !sgtB n f)) else some false) fun (ov_1 : Bool) => some (PE.andM (PE.notM b) (PE.notM ov_1))) = some (!b && !ss.any fun f => !sgtB n f) := fun b => by cases b <;> rfl
    rw [L2, e9]
    rw [← not_any fs (fixB n), ← not_any ss (sgtB n)]
    rfl
  · have e1 : PE.orM (PE.orM (PE.notM (inB n 0 8)) (ltM 8 (lenM fs))) (ltM 20 (lenM ss)) = !(inB n 0 8 && decide (fs.length ≤ 8) && decide (ss.length ≤ 20)) := by
      have a1 : ltM 8 (lenM fs) = !decide (fs.length ≤ 8) := by
        by_cases h8 : fs.length ≤ 8
        · rw [geI (by show (fs.length : Int) ≤ 8; omega), decide_eq_true h8]; rfl
        · rw [ltI (by show (8 : Int) < (fs.length : Int); omega), decide_eq_false h8]; rfl
      have a2 : ltM 20 (lenM ss) = !decide (ss.length ≤ 20) := by
        by_cases h8 : ss.length ≤ 20
        · rw [geI (by show (ss.length : Int) ≤ 20; omega), decide_eq_true h8]; rfl
        · rw [ltI (by show (20 : Int) < (ss.length : Int); omega), decide_eq_false h8]; rfl
      rw [a1, a2]
      cases inB n 0 8 <;> cases decide (fs.length ≤ 8) <;> cases decide (ss.length ≤ 20) <;> rfl
    have e2 : (inB n 0 8 && decide (fs.length ≤ 8) && decide (ss.length ≤ 20)) = false := by
      rw [Bool.eq_false_iff]
      intro hh
      simp only [Bool.and_eq_true, decide_eq_true_eq] at hh
      exact h ⟨hh.1.1, hh.1.2, hh.2⟩
    rw [e1, e2]
    rfl
end Go.Proofs.Ytklddmmnggcffaa
/-
  Network: the bounds of both axes.
  No conditions.
-/
namespace Go.Proofs.Ytklddmmnggcffaa
open Go Go.Abs Go.PE
set_option linter.unusedVariables false
abbrev Obs := Int × Int × Int × Int
def two (o : Obs) : List (Int × Int × Int) := [(o.1, o.2.1, o.2.2.1 + o.2.2.2), (o.2.1, o.1, o.2.2.2 - o.2.2.1)]
def bds (os : List Obs) : List (Int × Int × Int) := os.flatMap two
def fOb (d : Fix → Int) (n : Int) (f : Fix) : Obs := (n, f.1, d f, f.2.2.2)
def sOb (d : Sgt → Int) (s : Sgt) : Obs := (s.1, s.2.1, d s, s.2.2.2.2)
def obs (d1 : Fix → Int) (d2 : Sgt → Int) (c : Net) : List Obs := c.2.1.map (fOb d1 c.1) ++ c.2.2.map (sOb d2)
def fX (f : Fix) : Int := f.2.1
def fY (f : Fix) : Int := f.2.2.1
def sX (s : Sgt) : Int := s.2.2.1
def sY (s : Sgt) : Int := s.2.2.2.1
def obX (c : Net) : List Obs := obs fX sX c
def obY (c : Net) : List Obs := obs fY sY c
def axX (c : Net) : Sys := (c.1 + 1, bds (obX c))
def axY (c : Net) : Sys := (c.1 + 1, bds (obY c))
theorem bds_len (os : List Obs) : (bds os).length = 2 * os.length := by
  induction os with
  | nil => rfl
  | cons o r ih =>
    show (two o ++ bds r).length = _
    rw [List.length_append, ih]
    simp [two]; omega
theorem bds_app (a b : List Obs) : bds (a ++ b) = bds a ++ bds b := by
  unfold bds
  rw [List.flatMap_append]
theorem bds_step {α : Type} {f : α → Obs} {xs : List α} {k : Nat} (hk : k < xs.length) : bds ((xs.take (k + 1)).map f) = bds ((xs.take k).map f) ++ two (f xs[k]) := by
  rw [List.take_succ_eq_append_getElem hk, List.map_append, bds_app]
  simp [bds]
theorem mem_bds {os : List Obs} {a b m : Int} : (a, b, m) ∈ bds os ↔ ∃ o ∈ os, (a = o.1 ∧ b = o.2.1 ∧ m = o.2.2.1 + o.2.2.2) ∨ (a = o.2.1 ∧ b = o.1 ∧ m = o.2.2.2 - o.2.2.1) := by
  unfold bds
  rw [List.mem_flatMap]
  constructor
  · rintro ⟨o, ho, h⟩
    refine ⟨o, ho, ?_⟩
    unfold two at h
    rcases List.mem_cons.1 h with h | h
    · injection h with h1 h2
      injection h2 with h2 h3
      exact .inl ⟨h1, h2, h3⟩
    · rcases List.mem_cons.1 h with h | h
      · injection h with h1 h2
        injection h2 with h2 h3
        exact .inr ⟨h1, h2, h3⟩
      · cases h
  · rintro ⟨o, ho, ⟨rfl, rfl, rfl⟩ | ⟨rfl, rfl, rfl⟩⟩
    · exact ⟨o, ho, List.mem_cons_self ..⟩
    · exact ⟨o, ho, List.mem_cons_of_mem _ (List.mem_cons_self ..)⟩
structure NOK (c : Net) : Prop where
  n0 : 0 ≤ c.1
  n8 : c.1 ≤ 8
  fl : c.2.1.length ≤ 8
  sl : c.2.2.length ≤ 20
  fx : ∀ f ∈ c.2.1, 0 ≤ f.1 ∧ f.1 < c.1 ∧ -10000 ≤ f.2.1 ∧ f.2.1 ≤ 10000 ∧ -10000 ≤ f.2.2.1 ∧ f.2.2.1 ≤ 10000 ∧ 0 ≤ f.2.2.2 ∧ f.2.2.2 ≤ 1000
  sg : ∀ s ∈ c.2.2, 0 ≤ s.1 ∧ s.1 < c.1 ∧ 0 ≤ s.2.1 ∧ s.2.1 < c.1 ∧ s.1 ≠ s.2.1 ∧ -10000 ≤ s.2.2.1 ∧ s.2.2.1 ≤ 10000 ∧ -10000 ≤ s.2.2.2.1 ∧ s.2.2.2.1 ≤ 10000 ∧ 0 ≤ s.2.2.2.2 ∧ s.2.2.2.2 ≤ 1000
theorem fixB_iff {n : Int} {f : Fix} : fixB n f = true ↔ 0 ≤ f.1 ∧ f.1 < n ∧ -10000 ≤ f.2.1 ∧ f.2.1 ≤ 10000 ∧ -10000 ≤ f.2.2.1 ∧ f.2.2.1 ≤ 10000 ∧ 0 ≤ f.2.2.2 ∧ f.2.2.2 ≤ 1000 := by
  unfold fixB nearB
  simp only [Bool.and_eq_true, inB_iff]
  constructor
  · rintro ⟨⟨⟨h1, h2⟩, ⟨h3, h4⟩, h5, h6⟩, h7, h8⟩
    exact ⟨h1, by omega, h3, h4, h5, h6, h7, h8⟩
  · rintro ⟨h1, h2, h3, h4, h5, h6, h7, h8⟩
    exact ⟨⟨⟨h1, by omega⟩, ⟨h3, h4⟩, h5, h6⟩, h7, h8⟩
theorem sgtB_iff {n : Int} {s : Sgt} : sgtB n s = true ↔ 0 ≤ s.1 ∧ s.1 < n ∧ 0 ≤ s.2.1 ∧ s.2.1 < n ∧ s.1 ≠ s.2.1 ∧ -10000 ≤ s.2.2.1 ∧ s.2.2.1 ≤ 10000 ∧ -10000 ≤ s.2.2.2.1 ∧ s.2.2.2.1 ≤ 10000 ∧ 0 ≤ s.2.2.2.2 ∧ s.2.2.2.2 ≤ 1000 := by
  unfold sgtB nearB
  simp only [Bool.and_eq_true, inB_iff, Bool.not_eq_true', decide_eq_false_iff_not]
  constructor
  · rintro ⟨⟨⟨⟨⟨h1, h2⟩, h3, h4⟩, h5⟩, ⟨h6, h7⟩, h8, h9⟩, h10, h11⟩
    exact ⟨h1, by omega, h3, by omega, h5, h6, h7, h8, h9, h10, h11⟩
  · rintro ⟨h1, h2, h3, h4, h5, h6, h7, h8, h9, h10, h11⟩
    exact ⟨⟨⟨⟨⟨h1, by omega⟩, h3, by omega⟩, h5⟩, ⟨h6, h7⟩, h8, h9⟩, h10, h11⟩
theorem nval_iff {c : Net} : nval c = true ↔ NOK c := by
  unfold nval
  simp only [Bool.and_eq_true, inB_iff, decide_eq_true_eq, List.all_eq_true, fixB_iff, sgtB_iff]
  constructor
  · rintro ⟨⟨⟨⟨h1, h2⟩, h3⟩, h4⟩, h5, h6⟩
    exact ⟨h1, h2, h3, h4, h5, h6⟩
  · rintro ⟨h1, h2, h3, h4, h5, h6⟩
    exact ⟨⟨⟨⟨h1, h2⟩, h3⟩, h4⟩, h5, h6⟩
def dOk (d1 : Fix → Int) (d2 : Sgt → Int) (c : Net) : Prop := (∀ f ∈ c.2.1, -10000 ≤ d1 f ∧ d1 f ≤ 10000) ∧ ∀ s ∈ c.2.2, -10000 ≤ d2 s ∧ d2 s ≤ 10000
theorem NOK.dx {c : Net} (h : NOK c) : dOk fX sX c := ⟨fun f hf => by have := h.fx f hf; unfold fX; omega, fun s hs => by have := h.sg s hs; unfold sX; omega⟩
theorem NOK.dy {c : Net} (h : NOK c) : dOk fY sY c := ⟨fun f hf => by have := h.fx f hf; unfold fY; omega, fun s hs => by have := h.sg s hs; unfold sY; omega⟩
theorem obs_len (d1 : Fix → Int) (d2 : Sgt → Int) (c : Net) : (obs d1 d2 c).length = c.2.1.length + c.2.2.length := by simp [obs]
theorem obs_mem {c : Net} (h : NOK c) {d1 : Fix → Int} {d2 : Sgt → Int} (hd : dOk d1 d2 c) {o : Obs} (ho : o ∈ obs d1 d2 c) : 0 ≤ o.1 ∧ o.1 ≤ c.1 ∧ 0 ≤ o.2.1 ∧ o.2.1 < c.1 ∧ o.1 ≠ o.2.1 ∧ -10000 ≤ o.2.2.1 ∧ o.2.2.1 ≤ 10000 ∧ 0 ≤ o.2.2.2 ∧ o.2.2.2 ≤ 1000 := by
  rcases List.mem_append.1 ho with ho | ho
  · obtain ⟨f, hf, rfl⟩ := List.mem_map.1 ho
    have h1 := h.fx f hf
    have h2 := hd.1 f hf
    have h0 := h.n0
    unfold fOb
    dsimp only
    omega
  · obtain ⟨s, hs, rfl⟩ := List.mem_map.1 ho
    have h1 := h.sg s hs
    have h2 := hd.2 s hs
    unfold sOb
    dsimp only
    omega
theorem ax_sys {c : Net} (h : NOK c) {d1 : Fix → Int} {d2 : Sgt → Int} (hd : dOk d1 d2 c) : sys (c.1 + 1, bds (obs d1 d2 c)) = true := by
  unfold sys
  rw [Bool.and_eq_true]
  have h0 := h.n0
  have h8 := h.n8
  have hf := h.fl
  have hs := h.sl
  refine ⟨decide_eq_true ⟨by show 0 ≤ c.1 + 1; omega, by show c.1 + 1 ≤ 16; omega, by show (bds _).length ≤ 60; rw [bds_len, obs_len]; omega⟩, List.all_eq_true.2 fun b hb => ?_⟩
  obtain ⟨a, b', m⟩ := b
  obtain ⟨o, ho, hh⟩ := mem_bds.1 hb
  have hm := obs_mem h hd ho
  unfold bnd
  apply decide_eq_true
  dsimp only
  rcases hh with ⟨rfl, rfl, rfl⟩ | ⟨rfl, rfl, rfl⟩ <;> omega
theorem sysX {c : Net} (h : NOK c) : sys (axX c) = true := ax_sys h h.dx
theorem sysY {c : Net} (h : NOK c) : sys (axY c) = true := ax_sys h h.dy
theorem axX_n {c : Net} (h : NOK c) : (axX c).1.toNat = c.1.toNat + 1 := by
  have h0 := h.n0
  show (c.1 + 1).toNat = _
  omega
theorem axY_n {c : Net} (h : NOK c) : (axY c).1.toNat = c.1.toNat + 1 := by
  have h0 := h.n0
  show (c.1 + 1).toNat = _
  omega
theorem app_two {bs : List (Int × Int × Int)} {a b d t : Int} (hl : bs.length ≤ 1000) (h1 : -10000 ≤ d) (h2 : d ≤ 10000) (h3 : 0 ≤ t) (h4 : t ≤ 1000) :
    appM (nat_lit 24) bs [(a, b, IntKind.wrap IntKind.i64 (d + t)), (b, a, IntKind.wrap IntKind.i64 (t - d))] = some (bs ++ two (a, b, d, t)) := by
  rw [wrap_in (n := d + t) (by omega) (by omega), wrap_in (n := t - d) (by omega) (by omega)]
  exact appM_of (by simp; omega)
theorem m32_eq {c : Net} (h : NOK c) : m32 c = some (axX c, axY c) := by
  obtain ⟨n, fs, ss⟩ := c
  have h0 := h.n0
  have h8 := h.n8
  have hfl := h.fl
  have hsl := h.sl
  have hfx := h.fx
  have hsg := h.sg
  dsimp only at h0 h8 hfl hsl hfx hsg
  have e1 : IntKind.wrap IntKind.i64 (n + 1) = n + 1 := wrap_in (by omega) (by omega)
  unfold m32
  dsimp only
  rw [e1]
  refine bind_of (x := (n + 1, n + 1, bds (fs.map (fOb fX n)), bds (fs.map (fOb fY n)))) ?_ ?_
  · refine count_loop (fun k => (n + 1, n + 1, bds ((fs.take k).map (fOb fX n)), bds ((fs.take k).map (fOb fY n)))) fs.length (fun k hk => ?_) ?_
    · have hb := hfx _ (List.getElem_mem hk)
      dsimp only
      rw [ltI (by show (k : Int) < (fs.length : Int); omega), cond_true, idxM_lt hk, Option.bind_some]
      show Option.bind (some fs[k].2.1) _ = _
      rw [Option.bind_some, app_two (by rw [bds_len]; simp; omega) (by omega) (by omega) (by omega) (by omega), Option.bind_some]
      show Option.bind (some fs[k].2.2.1) _ = _
      rw [Option.bind_some, app_two (by rw [bds_len]; simp; omega) (by omega) (by omega) (by omega) (by omega), Option.bind_some, bds_step hk, bds_step hk, wrap_in (by omega) (by omega)]
      rfl
    · dsimp only
      rw [geI (by show (fs.length : Int) ≤ (fs.length : Int); omega), cond_false, List.take_length]
  dsimp only
  refine bind_of (x := (n + 1, n + 1, bds (obX (n, fs, ss)), bds (obY (n, fs, ss)))) ?_ rfl
  have ex : bds (obX (n, fs, ss)) = bds (fs.map (fOb fX n)) ++ bds ((ss.take ss.length).map (sOb sX)) := by rw [List.take_length]; exact bds_app _ _
  have ey : bds (obY (n, fs, ss)) = bds (fs.map (fOb fY n)) ++ bds ((ss.take ss.length).map (sOb sY)) := by rw [List.take_length]; exact bds_app _ _
  rw [ex, ey]
  have e00 : ∀ g : Fix → Obs, bds (fs.map g) = bds (fs.map g) ++ bds ((ss.take 0).map (sOb sX)) := fun g => by simp [bds]
  have e01 : ∀ g : Fix → Obs, bds (fs.map g) = bds (fs.map g) ++ bds ((ss.take 0).map (sOb sY)) := fun g => by simp [bds]
  have hlen : ∀ (g : Fix → Obs) (d : Sgt → Int) k, k < ss.length → (bds (fs.map g) ++ bds ((ss.take k).map (sOb d))).length ≤ 1000 := fun g d k hk => by
    rw [List.length_append, bds_len, bds_len]; simp; omega
  have L := count_loop (body := fun (s : Int × Int × Int × List (Int × Int × Int) × List (Int × Int × Int)) =>
            bif ltM s.1 (lenM ss) then
              Option.bind (idxM ss s.1) fun (r : Int × Int × Int × Int × Int) =>
                Option.bind (m53 (r.2.2.1, r.2.2.2.1)) fun (r_1 : Int) =>
                  Option.bind
                    (appM (nat_lit 24) s.2.2.2.1
                      [(r.1, r.2.1, IntKind.wrap IntKind.i64 (r_1 + r.2.2.2.2)),
                        (r.2.1, r.1, IntKind.wrap IntKind.i64 (r.2.2.2.2 - r_1))])
                    fun (r_2 : List (Int × Int × Int)) =>
                    Option.bind (m54 (r.2.2.1, r.2.2.2.1)) fun (r_3 : Int) =>
                      Option.bind
                        (appM (nat_lit 24) s.2.2.2.2
                          [(r.1, r.2.1, IntKind.wrap IntKind.i64 (r_3 + r.2.2.2.2)),
                            (r.2.1, r.1, IntKind.wrap IntKind.i64 (r.2.2.2.2 - r_3))])
                        fun (r : List (Int × Int × Int)) =>
                        some (Sum.inl (IntKind.wrap IntKind.i64 (s.1 + (1 : Int)), s.2.1, s.2.2.1, r_2, r))
            else some (Sum.inr (s.2.1, s.2.2.1, s.2.2.2.1, s.2.2.2.2))) (fun k => (n + 1, n + 1, bds (fs.map (fOb fX n)) ++ bds ((ss.take k).map (sOb sX)), bds (fs.map (fOb fY n)) ++ bds ((ss.take k).map (sOb sY)))) ss.length
      (r := (n + 1, n + 1, bds (fs.map (fOb fX n)) ++ bds ((ss.take ss.length).map (sOb sX)), bds (fs.map (fOb fY n)) ++ bds ((ss.take ss.length).map (sOb sY)))) (fun k hk => by
    have hb := hsg _ (List.getElem_mem hk)
    dsimp only
    rw [ltI (by show (k : Int) < (ss.length : Int); omega), cond_true, idxM_lt hk, Option.bind_some]
    show Option.bind (some ss[k].2.2.1) _ = _
    rw [Option.bind_some, app_two (hlen _ _ _ hk) (by omega) (by omega) (by omega) (by omega), Option.bind_some]
    show Option.bind (some ss[k].2.2.2.1) _ = _
    rw [Option.bind_some, app_two (hlen _ _ _ hk) (by omega) (by omega) (by omega) (by omega), Option.bind_some, bds_step hk, bds_step hk, wrap_in (by omega) (by omega), List.append_assoc, List.append_assoc]
    rfl) (by
    dsimp only
    rw [geI (by show (ss.length : Int) ≤ (ss.length : Int); omega), cond_false])
  rw [← e00, ← e01] at L
  exact L
theorem m13_any {c : Net} (h : NOK c) {d1 : Fix → Int} {d2 : Sgt → Int} (hd : dOk d1 d2 c) {ax : Int} (hax : (∀ f : Fix, idxM [f.2.1, f.2.2.1] ax = some (d1 f)) ∧ ∀ s : Sgt, idxM [s.2.2.1, s.2.2.2.1] ax = some (d2 s)) : m13 (c, ax) = some (c.1 + 1, bds (obs d1 d2 c)) := by
  obtain ⟨n, fs, ss⟩ := c
  have h0 := h.n0
  have h8 := h.n8
  have hfl := h.fl
  have hsl := h.sl
  have hfx := h.fx
  have hsg := h.sg
  obtain ⟨hd1, hd2⟩ := hd
  dsimp only at h0 h8 hfl hsl hfx hsg hd1 hd2
  have e1 : IntKind.wrap IntKind.i64 (n + 1) = n + 1 := wrap_in (by omega) (by omega)
  unfold m13
  dsimp only
  rw [e1]
  refine bind_of (x := (n + 1, bds (fs.map (fOb d1 n)))) ?_ ?_
  · refine count_loop (fun k => (n + 1, bds ((fs.take k).map (fOb d1 n)))) fs.length (fun k hk => ?_) ?_
    · have hb := hfx _ (List.getElem_mem hk)
      have hb2 := hd1 _ (List.getElem_mem hk)
      dsimp only
      rw [ltI (by show (k : Int) < (fs.length : Int); omega), cond_true, idxM_lt hk, Option.bind_some, hax.1, Option.bind_some, app_two (by rw [bds_len]; simp; omega) (by omega) (by omega) (by omega) (by omega), Option.bind_some, bds_step hk, wrap_in (by omega) (by omega)]
      rfl
    · dsimp only
      rw [geI (by show (fs.length : Int) ≤ (fs.length : Int); omega), cond_false, List.take_length]
  dsimp only
  refine bind_of (x := (n + 1, bds (obs d1 d2 (n, fs, ss)))) ?_ rfl
  have ex : bds (obs d1 d2 (n, fs, ss)) = bds (fs.map (fOb d1 n)) ++ bds ((ss.take ss.length).map (sOb d2)) := by rw [List.take_length]; exact bds_app _ _
  rw [ex]
  have e00 : bds (fs.map (fOb d1 n)) = bds (fs.map (fOb d1 n)) ++ bds ((ss.take 0).map (sOb d2)) := by simp [bds]
  have L := count_loop (body := fun (s : Int × Int × List (Int × Int × Int)) =>
            bif ltM s.1 (lenM ss) then
              Option.bind (idxM ss s.1) fun (r : Int × Int × Int × Int × Int) =>
                Option.bind (idxM [r.2.2.1, r.2.2.2.1] ax) fun (r_1 : Int) =>
                  Option.bind
                    (appM (nat_lit 24) s.2.2
                      [(r.1, r.2.1, IntKind.wrap IntKind.i64 (r_1 + r.2.2.2.2)),
                        (r.2.1, r.1, IntKind.wrap IntKind.i64 (r.2.2.2.2 - r_1))])
                    fun (r : List (Int × Int × Int)) =>
                    some (Sum.inl (IntKind.wrap IntKind.i64 (s.1 + (1 : Int)), s.2.1, r))
            else some (Sum.inr (s.2.1, s.2.2))) (fun k => (n + 1, bds (fs.map (fOb d1 n)) ++ bds ((ss.take k).map (sOb d2)))) ss.length
      (r := (n + 1, bds (fs.map (fOb d1 n)) ++ bds ((ss.take ss.length).map (sOb d2)))) (fun k hk => by
    have hb := hsg _ (List.getElem_mem hk)
    have hb2 := hd2 _ (List.getElem_mem hk)
    dsimp only
    rw [ltI (by show (k : Int) < (ss.length : Int); omega), cond_true, idxM_lt hk, Option.bind_some, hax.2, Option.bind_some, app_two (by rw [List.length_append, bds_len, bds_len]; simp; omega) (by omega) (by omega) (by omega) (by omega), Option.bind_some, bds_step hk, wrap_in (by omega) (by omega), List.append_assoc]
    rfl) (by
    dsimp only
    rw [geI (by show (ss.length : Int) ≤ (ss.length : Int); omega), cond_false])
  rw [← e00] at L
  exact L
theorem m13_X {c : Net} (h : NOK c) : m13 (c, 0) = some (axX c) := m13_any h h.dx ⟨fun _ => rfl, fun _ => rfl⟩
theorem m13_Y {c : Net} (h : NOK c) : m13 (c, 1) = some (axY c) := m13_any h h.dy ⟨fun _ => rfl, fun _ => rfl⟩
end Go.Proofs.Ytklddmmnggcffaa
/-
  Network: boxes of differences.
  No conditions.
-/
namespace Go.Proofs.Ytklddmmnggcffaa
open Go Go.Abs Go.PE
set_option linter.unusedVariables false
abbrev Bx := Int × Int × Int × Int
theorem wk_map {bs bs' : List (Int × Int × Int)} (h : ∀ a b : Nat, ∀ m : Int, ((a : Int), (b : Int), m) ∈ bs → ∃ m', ((a : Int), (b : Int), m') ∈ bs') {i j : Nat} {w : Int} (hw : Wk bs i j w) : ∃ w', Wk bs' i j w' := by
  induction hw with
  | nil => exact ⟨0, .nil _⟩
  | snoc _ hm ih =>
    obtain ⟨w', h1⟩ := ih
    obtain ⟨m', h2⟩ := h _ _ _ hm
    exact ⟨_, h1.snoc h2⟩
theorem wk_rev {bs bs' : List (Int × Int × Int)} (h : ∀ a b : Nat, ∀ m : Int, ((a : Int), (b : Int), m) ∈ bs → ∃ m', ((b : Int), (a : Int), m') ∈ bs') {i j : Nat} {w : Int} (hw : Wk bs i j w) : ∃ w', Wk bs' j i w' := by
  induction hw with
  | nil => exact ⟨0, .nil _⟩
  | snoc _ hm ih =>
    obtain ⟨w', h1⟩ := ih
    obtain ⟨m', h2⟩ := h _ _ _ hm
    exact ⟨_, .cons h2 h1⟩
theorem obs_other {d1 d1' : Fix → Int} {d2 d2' : Sgt → Int} {c : Net} {o : Obs} (h : o ∈ obs d1 d2 c) : ∃ o' ∈ obs d1' d2' c, o'.1 = o.1 ∧ o'.2.1 = o.2.1 ∧ o'.2.2.2 = o.2.2.2 := by
  rcases List.mem_append.1 h with h | h
  · obtain ⟨f, hf, rfl⟩ := List.mem_map.1 h
    exact ⟨fOb d1' c.1 f, List.mem_append.2 (.inl (List.mem_map.2 ⟨f, hf, rfl⟩)), rfl, rfl, rfl⟩
  · obtain ⟨f, hf, rfl⟩ := List.mem_map.1 h
    exact ⟨sOb d2' f, List.mem_append.2 (.inr (List.mem_map.2 ⟨f, hf, rfl⟩)), rfl, rfl, rfl⟩
theorem bds_other {d1 d1' : Fix → Int} {d2 d2' : Sgt → Int} {c : Net} {a b m : Int} (h : (a, b, m) ∈ bds (obs d1 d2 c)) : (∃ m', (a, b, m') ∈ bds (obs d1' d2' c)) ∧ ∃ m', (b, a, m') ∈ bds (obs d1' d2' c) := by
  obtain ⟨o, ho, hh⟩ := mem_bds.1 h
  obtain ⟨o', ho', e1, e2, _⟩ := obs_other (d1' := d1') (d2' := d2') ho
  rcases hh with ⟨rfl, rfl, rfl⟩ | ⟨rfl, rfl, rfl⟩
  · exact ⟨⟨_, mem_bds.2 ⟨o', ho', .inl ⟨e1.symm, e2.symm, rfl⟩⟩⟩, ⟨_, mem_bds.2 ⟨o', ho', .inr ⟨e2.symm, e1.symm, rfl⟩⟩⟩⟩
  · exact ⟨⟨_, mem_bds.2 ⟨o', ho', .inr ⟨e2.symm, e1.symm, rfl⟩⟩⟩, ⟨_, mem_bds.2 ⟨o', ho', .inl ⟨e1.symm, e2.symm, rfl⟩⟩⟩⟩
/-- Two points are connected. -/
def Cn (c : Net) (i j : Nat) : Prop := ∃ w, Wk (axX c).2 i j w
theorem Cn.refl (c : Net) (i : Nat) : Cn c i i := ⟨0, .nil i⟩
theorem Cn.trans {c : Net} {i j k : Nat} (h : Cn c i j) (h2 : Cn c j k) : Cn c i k := by
  obtain ⟨w, h⟩ := h
  obtain ⟨w2, h2⟩ := h2
  exact ⟨_, h.trans h2⟩
theorem Cn.symm {c : Net} {i j : Nat} (h : Cn c i j) : Cn c j i := by
  obtain ⟨w, h⟩ := h
  exact wk_rev (fun a b m hm => (bds_other hm).2) h
theorem cn_Y {c : Net} {i j : Nat} : Cn c i j ↔ ∃ w, Wk (axY c).2 i j w :=
  ⟨fun ⟨w, h⟩ => wk_map (fun a b m hm => (bds_other hm).1) h, fun ⟨w, h⟩ => wk_map (fun a b m hm => (bds_other hm).1) h⟩
def okN (c : Net) : Bool := !ovS (axX c) && !ovS (axY c)
theorem okN_iff {c : Net} : okN c = true ↔ ovS (axX c) = false ∧ ovS (axY c) = false := by
  unfold okN
  simp
abbrev fX' (c : Net) : Tab := fwS (axX c)
abbrev fY' (c : Net) : Tab := fwS (axY c)
/-- A table of distances of one axis. -/
structure Axis (c : Net) (f : Tab) (bs : List (Int × Int × Int)) : Prop where
  cn : ∀ i j, i ≤ c.1.toNat → j ≤ c.1.toNat → (f i j ≠ 1152921504606846976 ↔ Cn c i j)
  bd : ∀ i j, i ≤ c.1.toNat → j ≤ c.1.toNat → f i j ≠ 1152921504606846976 → -100000000000000000 ≤ f i j ∧ f i j ≤ 100000000000000000
  self : ∀ i, i ≤ c.1.toNat → f i i = 0
  tri : ∀ i k j, i ≤ c.1.toNat → k ≤ c.1.toNat → j ≤ c.1.toNat → Cn c i k → Cn c k j → f i j ≤ f i k + f k j
  wk : ∀ i j, i ≤ c.1.toNat → j ≤ c.1.toNat → Cn c i j → Wk bs i j (f i j)
  le : ∀ i j w, i ≤ c.1.toNat → j ≤ c.1.toNat → Wk bs i j w → f i j ≤ w
theorem axis_of {c : Net} {x : Sys} (hs : sys x = true) (ho : ovS x = false) (hn : x.1.toNat = c.1.toNat + 1) (hcn : ∀ i j, Cn c i j ↔ ∃ w, Wk x.2 i j w) : Axis c (fwS x) x.2 where
  cn i j hi hj := by
    rcases fw_cases hs ho (i := i) (j := j) (by omega) (by omega) with ⟨e, h⟩ | ⟨e1, e2, e3, _⟩
    · rw [hcn]
      exact ⟨fun h' => absurd e h', fun ⟨w, hw⟩ => absurd hw (h w)⟩
    · rw [hcn]
      exact ⟨fun _ => ⟨_, e3⟩, fun _ => by omega⟩
  bd i j hi hj h := by
    rcases fw_cases hs ho (i := i) (j := j) (by omega) (by omega) with ⟨e, _⟩ | ⟨e1, e2, _, _⟩
    · exact absurd e h
    · exact ⟨e1, e2⟩
  self i hi := fw_self ho (by omega)
  tri i k j hi hk hj h1 h2 := by
    have a : ∀ i j, i ≤ c.1.toNat → j ≤ c.1.toNat → Cn c i j → fwS x i j < 1000000000000000000 := fun i j hi hj h => by
      obtain ⟨w, hw⟩ := (hcn i j).1 h
      rcases fw_cases hs ho (i := i) (j := j) (by omega) (by omega) with ⟨_, e⟩ | ⟨_, e, _⟩
      · exact absurd hw (e w)
      · omega
    exact fw_tri' hs ho (by omega) (by omega) (by omega) (a _ _ hi hk h1) (a _ _ hk hj h2)
  wk i j hi hj h := by
    obtain ⟨w, hw⟩ := (hcn i j).1 h
    rcases fw_cases hs ho (i := i) (j := j) (by omega) (by omega) with ⟨_, e⟩ | ⟨_, _, e, _⟩
    · exact absurd hw (e w)
    · exact e
  le i j w hi hj hw := by
    rcases fw_cases hs ho (i := i) (j := j) (by omega) (by omega) with ⟨_, e⟩ | ⟨_, _, _, e⟩
    · exact absurd hw (e w)
    · exact e w hw
theorem axisX {c : Net} (h : NOK c) (ho : okN c = true) : Axis c (fX' c) (axX c).2 := axis_of (sysX h) (okN_iff.1 ho).1 (axX_n h) fun _ _ => Iff.rfl
theorem axisY {c : Net} (h : NOK c) (ho : okN c = true) : Axis c (fY' c) (axY c).2 := axis_of (sysY h) (okN_iff.1 ho).2 (axY_n h) fun _ _ => cn_Y
def cnB (c : Net) (i j : Nat) : Bool := decide (fX' c i j ≠ 1152921504606846976)
def boxR (c : Net) (i j : Nat) : Bx := (-fX' c j i, fX' c i j, -fY' c j i, fY' c i j)
def apM (c : Net) (i j : Nat) : Bx × Int := if okN c = true ∧ cnB c i j = true then (boxR c i j, 0) else ((0, 0, 0, 0), 100)
theorem cnB_iff {c : Net} (h : NOK c) (ho : okN c = true) {i j : Nat} (hi : i ≤ c.1.toNat) (hj : j ≤ c.1.toNat) : cnB c i j = true ↔ Cn c i j := by
  unfold cnB
  rw [decide_eq_true_eq]
  exact (axisX h ho).cn i j hi hj
theorem get2 {β : Type} {n : Nat} {f : Tab} {a b : Nat} (ha : a < n) (hb : b < n) (K : Int → Option β) : (Option.bind (idxM (rt n (fun _ => n) f) (a : Int)) fun r => Option.bind (idxM r (b : Int)) K) = K (f a b) := by
  rw [rt_idx ha, Option.bind_some, row_idx hb, Option.bind_some]
theorem m39_eq {c : Net} (h : NOK c) {i j : Nat} (hi : i ≤ c.1.toNat) (hj : j ≤ c.1.toNat) : m39 (c, (i : Int), (j : Int)) = some (apM c i j) := by
  unfold m39
  dsimp only
  refine bind_of (m32_eq h) ?_
  dsimp only
  have hX := m12_bad (sysX h)
  have hY := m12_bad (sysY h)
  have gX := m12_good (sysX h)
  have gY := m12_good (sysY h)
  unfold apM okN
  cases ox : ovS (axX c) with
  | true =>
    refine bind_of (hX ox) ?_
    cases oy : ovS (axY c) with
    | true =>
      refine bind_of (hY oy) ?_
      rfl
    | false =>
      refine bind_of (gY oy) ?_
      rfl
  | false =>
    refine bind_of (gX ox) ?_
    cases oy : ovS (axY c) with
    | true =>
      refine bind_of (hY oy) ?_
      rfl
    | false =>
      refine bind_of (gY oy) ?_
      have nX := axX_n h
      have nY := axY_n h
      have ho : okN c = true := by unfold okN; rw [ox, oy]; rfl
      have aX := axisX h ho
      have aY := axisY h ho
      dsimp only
      rw [eqI rfl, notT, orF, notF, cond_true, rt_idx (by omega), Option.bind_some, cond_true, row_idx (by omega), Option.bind_some, orF]
      by_cases hc : fX' c i j = 1152921504606846976
      · rw [eqI hc, cond_true, if_neg]
        rintro ⟨_, h2⟩
        unfold cnB at h2
        exact of_decide_eq_true h2 hc
      · have hcn := (aX.cn i j hi hj).1 hc
        have b1 : -100000000000000000 ≤ fwS (axX c) j i ∧ fwS (axX c) j i ≤ 100000000000000000 := aX.bd j i hj hi ((aX.cn j i hj hi).2 hcn.symm)
        have b2 : -100000000000000000 ≤ fwS (axY c) j i ∧ fwS (axY c) j i ≤ 100000000000000000 := aY.bd j i hj hi ((aY.cn j i hj hi).2 hcn.symm)
        have p1 : j < (axX c).1.toNat := by omega
        have p2 : i < (axX c).1.toNat := by omega
        have p3 : j < (axY c).1.toNat := by omega
        have p4 : i < (axY c).1.toNat := by omega
        rw [neI hc, cond_false]
        simp only [rt_idx p1, rt_idx p2, rt_idx p3, rt_idx p4, row_idx p1, row_idx p2, row_idx p3, row_idx p4, Option.bind_some]
        rw [if_pos ⟨rfl, by unfold cnB; exact decide_eq_true hc⟩]
        unfold PE.negM boxR
        rw [wrap_in (n := -fwS (axX c) j i) (by omega) (by omega), wrap_in (n := -fwS (axY c) j i) (by omega) (by omega)]
def err : Bx × Int := ((0, 0, 0, 0), 100)
def aptR (c : Net) (p q : Int) : Bx × Int := if nval c = true ∧ inB p 0 (c.1 - 1) = true ∧ inB q 0 (c.1 - 1) = true then apM c p.toNat q.toNat else err
def boxQ (c : Net) (p : Int) : Bx × Int := if nval c = true ∧ inB p 0 (c.1 - 1) = true then apM c c.1.toNat p.toNat else err
theorem m22_eq (c : Net) (p q : Int) : m22 (c, p, q) = some (aptR c p q) := by
  unfold m22 aptR
  dsimp only
  rw [m18_eq, Option.bind_some]
  cases hv : nval c with
  | false =>
    rw [if_neg (by rintro ⟨h, _⟩; cases h)]
    rfl
  | true =>
    have h := nval_iff.1 hv
    have h0 := h.n0
    have h8 := h.n8
    have e0 : IntKind.wrap IntKind.i64 (c.1 - 1) = c.1 - 1 := wrap_in (by omega) (by omega)
    rw [e0, notT, notF, cond_true, m38_eq, Option.bind_some]
    cases hp : inB p 0 (c.1 - 1) with
    | false =>
      rw [if_neg (by rintro ⟨_, h, _⟩; cases h)]
      rfl
    | true =>
      rw [notT, orF, notF, cond_true, m38_eq, Option.bind_some]
      cases hq : inB q 0 (c.1 - 1) with
      | false =>
        rw [if_neg (by rintro ⟨_, _, h⟩; cases h)]
        rfl
      | true =>
        rw [notT, orF, cond_false, if_pos ⟨rfl, rfl, rfl⟩]
        have h1 := inB_iff.1 hp
        have h2 := inB_iff.1 hq
        obtain ⟨i, rfl⟩ := Int.eq_ofNat_of_zero_le h1.1
        obtain ⟨j, rfl⟩ := Int.eq_ofNat_of_zero_le h2.1
        exact bind_of (m39_eq h (by omega) (by omega)) rfl
theorem m14_eq (c : Net) (p : Int) : m14 (c, p) = some (boxQ c p) := by
  unfold m14 boxQ
  dsimp only
  rw [m18_eq, Option.bind_some]
  cases hv : nval c with
  | false =>
    rw [if_neg (by rintro ⟨h, _⟩; cases h)]
    rfl
  | true =>
    have h := nval_iff.1 hv
    have h0 := h.n0
    have h8 := h.n8
    have e0 : IntKind.wrap IntKind.i64 (c.1 - 1) = c.1 - 1 := wrap_in (by omega) (by omega)
    rw [e0, notT, notF, cond_true, m38_eq, Option.bind_some]
    cases hp : inB p 0 (c.1 - 1) with
    | false =>
      rw [if_neg (by rintro ⟨_, h⟩; cases h)]
      rfl
    | true =>
      rw [notT, orF, cond_false, if_pos ⟨rfl, rfl⟩]
      have h1 := inB_iff.1 hp
      obtain ⟨i, rfl⟩ := Int.eq_ofNat_of_zero_le h1.1
      have e1 : c.1 = ((c.1.toNat : Nat) : Int) := by omega
      have hm := m39_eq h (i := c.1.toNat) (j := i) (by omega) (by omega)
      rw [← e1] at hm
      exact bind_of hm rfl
end Go.Proofs.Ytklddmmnggcffaa
/-
  Network: what integers determine: hidden places, sights, networks.
  No conditions.
-/
namespace Go.Proofs.Ytklddmmnggcffaa
open Go Go.Abs Go.PE
set_option linter.unusedVariables false
abbrev NNum := List (Int × Int) × List Int × List Fix × List Sgt × Int × Int × Int
structure NN (x : NNum) : Prop where
  pl : ∀ p ∈ x.1, i64 p.1 ∧ i64 p.2
  ti : ∀ v ∈ x.2.1, i64 v
  fx : ∀ f ∈ x.2.2.1, i64 f.1 ∧ i64 f.2.1 ∧ i64 f.2.2.1 ∧ i64 f.2.2.2
  sg : ∀ s ∈ x.2.2.2.1, i64 s.1 ∧ i64 s.2.1 ∧ i64 s.2.2.1 ∧ i64 s.2.2.2.1 ∧ i64 s.2.2.2.2
  a : i64 x.2.2.2.2.1
  b : i64 x.2.2.2.2.2.1
  c : i64 x.2.2.2.2.2.2
theorem m30_eq {c n : Int} (hc : i64 c) (hn : 0 < n) : m30 (c, n) = some (pk c n) := pk_text hc hn
theorem m15_eq {c n : Int} (hc : i64 c) (hn : 0 < n) : m15 (c, n) = some (pk c n) := pk_text hc hn
theorem idxD {α : Type} {xs : List α} {i : Nat} (h : i < xs.length) (d : α) : idxM xs (i : Int) = some (xs.getD i d) := by
  rw [idxM_lt h]; simp [List.getD, h]
theorem memD {α : Type} {xs : List α} {i : Nat} (h : i < xs.length) (d : α) : xs.getD i d ∈ xs := by
  simp [List.getD, h]
/-! ### hidden places -/
def nP (x : NNum) : Nat := min x.1.length 8
def hp (x : NNum) (i : Nat) : Int × Int := (pk (x.1.getD i (0, 0)).1 1001 - 500, pk (x.1.getD i (0, 0)).2 1001 - 500)
def hidL (x : NNum) : List (Int × Int) := row (nP x) (hp x)
def HB (h : Nat → Int × Int) : Prop := ∀ i, -500 ≤ (h i).1 ∧ (h i).1 ≤ 500 ∧ -500 ≤ (h i).2 ∧ (h i).2 ≤ 500
theorem hp_bd (x : NNum) : HB (hp x) := fun i => by
  have h1 := pk_lo (c := (x.1.getD i (0, 0)).1) (n := 1001) (by omega)
  have h2 := pk_hi (c := (x.1.getD i (0, 0)).1) (n := 1001) (by omega)
  have h3 := pk_lo (c := (x.1.getD i (0, 0)).2) (n := 1001) (by omega)
  have h4 := pk_hi (c := (x.1.getD i (0, 0)).2) (n := 1001) (by omega)
  unfold hp
  dsimp only
  omega
theorem nP_bd (x : NNum) : nP x ≤ 8 ∧ nP x ≤ x.1.length := ⟨Nat.min_le_right _ _, Nat.min_le_left _ _⟩
theorem m20_eq {x : NNum} (h : NN x) : m20 x = some (hidL x) := by
  have hn := nP_bd x
  unfold m20
  dsimp only
  refine bind_of (x := hidL x) ?_ rfl
  refine count_loop (fun k => row k (hp x)) (nP x) (fun k hk => ?_) ?_
  · have hm := h.pl _ (memD (show k < x.1.length by omega) (0, 0))
    have hb := hp_bd x k
    unfold hp at hb
    dsimp only at hb
    dsimp only
    rw [ltI (by show (k : Int) < (x.1.length : Int); omega), andT, ltI (by omega), cond_true, idxD (by omega) (0, 0), Option.bind_some, m30_eq hm.1 (by omega), Option.bind_some, Option.bind_some, m30_eq hm.2 (by omega), Option.bind_some, wrap_in (n := _ - 500) (by omega) (by omega), wrap_in (n := _ - 500) (by omega) (by omega)]
    refine bind_of (app_rowOf rfl (by show (k + 1) * 16 ≤ 140737488355328; omega)) ?_
    rw [wrap_in (by omega) (by omega)]
  · dsimp only
    have e : PE.andM (ltM ((nP x : Nat) : Int) (lenM x.1)) (ltM ((nP x : Nat) : Int) 8) = false := by
      by_cases h8 : x.1.length ≤ 8
      · rw [geI (a := ((nP x : Nat) : Int)) (b := lenM x.1) (by show (x.1.length : Int) ≤ _; unfold nP; omega)]; rfl
      · rw [geI (a := ((nP x : Nat) : Int)) (b := 8) (by unfold nP; omega)]
        cases ltM ((nP x : Nat) : Int) (lenM x.1) <;> rfl
    rw [e, cond_false]
    rfl
/-! ### sights -/
def pN (c : Int) (n : Nat) : Nat := (pk c n).toNat
theorem pN_lt {c : Int} {n : Nat} (hn : 0 < n) : pN c n < n := by
  have h1 := pk_lo (c := c) (n := n) (by omega)
  have h2 := pk_hi (c := c) (n := n) (by omega)
  unfold pN
  omega
theorem pN_eq {c : Int} {n : Nat} (hn : 0 < n) : ((pN c n : Nat) : Int) = pk c n := by
  have h1 := pk_lo (c := c) (n := n) (by omega)
  unfold pN
  omega
def sTo (n : Nat) (s : Sgt) : Nat := (pN s.1 n + 1 + pN s.2.1 (n - 1)) % n
def jit (c : Int) (t : Nat) : Int := pk c (2 * t + 1) - t
theorem jit_bd {c : Int} {t : Nat} : -(t : Int) ≤ jit c t ∧ jit c t ≤ t := by
  have h1 := pk_lo (c := c) (n := 2 * t + 1) (by omega)
  have h2 := pk_hi (c := c) (n := 2 * t + 1) (by omega)
  unfold jit
  omega
def sightOf (n : Nat) (h : Nat → Int × Int) (s : Sgt) : Sgt :=
  ((pN s.1 n : Nat), (sTo n s : Nat), (h (sTo n s)).1 - (h (pN s.1 n)).1 + jit s.2.2.2.1 (pN s.2.2.1 12), (h (sTo n s)).2 - (h (pN s.1 n)).2 + jit s.2.2.2.2 (pN s.2.2.1 12), (pN s.2.2.1 12 : Nat))
theorem m21_eq {n : Nat} {h : Nat → Int × Int} (hn : 2 ≤ n) (hn8 : n ≤ 8) (hb : HB h) {s : Sgt} (h1 : i64 s.1) (h2 : i64 s.2.1) (h3 : i64 s.2.2.1) (h4 : i64 s.2.2.2.1) (h5 : i64 s.2.2.2.2) : m21 (row n h, s) = some (sightOf n h s) := by
  have hl : lenM (row n h) = (n : Int) := by show ((row n h).length : Int) = _; rw [row_length]
  have p1 := pN_lt (c := s.1) (n := n) (by omega)
  have p2 := pN_lt (c := s.2.1) (n := n - 1) (by omega)
  have p3 := pN_lt (c := s.2.2.1) (n := 12) (by omega)
  have q1 := pN_eq (c := s.1) (n := n) (by omega)
  have q2 := pN_eq (c := s.2.1) (n := n - 1) (by omega)
  have q3 := pN_eq (c := s.2.2.1) (n := 12) (by omega)
  have hto : sTo n s < n := Nat.mod_lt _ (by omega)
  have b1 := hb (sTo n s)
  have b2 := hb (pN s.1 n)
  have j1 := jit_bd (c := s.2.2.2.1) (t := pN s.2.2.1 12)
  have j2 := jit_bd (c := s.2.2.2.2) (t := pN s.2.2.1 12)
  have e12 : ((12 : Nat) : Int) = 12 := rfl
  rw [e12] at q3
  unfold m21
  dsimp only
  rw [hl, m30_eq h1 (by omega), Option.bind_some, m30_eq h3 (by omega), Option.bind_some, wrap_in (n := (n : Int) - 1) (by omega) (by omega)]
  have en : ((n : Int) - 1) = ((n - 1 : Nat) : Int) := by omega
  rw [en, m30_eq h2 (by omega), Option.bind_some, ← q1, ← q2, ← q3, wrap_in (n := ((pN s.1 n : Nat) : Int) + 1) (by omega) (by omega), wrap_in (n := ((pN s.1 n : Nat) : Int) + 1 + ((pN s.2.1 (n - 1) : Nat) : Int)) (by omega) (by omega), remM_of (by omega) (by omega), Option.bind_some]
  have et : (((pN s.1 n : Nat) : Int) + 1 + ((pN s.2.1 (n - 1) : Nat) : Int)) % (n : Int) = ((sTo n s : Nat) : Int) := by
    unfold sTo
    rw [Int.natCast_emod]
    rfl
  rw [et, row_idx hto, Option.bind_some, row_idx p1, Option.bind_some]
  have e2 : IntKind.wrap IntKind.i64 (IntKind.wrap IntKind.i64 ((2 : Int) * ((pN s.2.2.1 12 : Nat) : Int)) + 1) = 2 * ((pN s.2.2.1 12 : Nat) : Int) + 1 := by
    rw [wrap_in (n := 2 * ((pN s.2.2.1 12 : Nat) : Int)) (by omega) (by omega), wrap_in (by omega) (by omega)]
  rw [e2, m30_eq h4 (by omega), Option.bind_some, Option.bind_some, Option.bind_some, m30_eq h5 (by omega), Option.bind_some]
  unfold jit at j1 j2
  generalize hv1 : pk s.2.2.2.1 (2 * ((pN s.2.2.1 12 : Nat) : Int) + 1) = v1 at *
  generalize hv2 : pk s.2.2.2.2 (2 * ((pN s.2.2.1 12 : Nat) : Int) + 1) = v2 at *
  rw [wrap_in (n := (h (sTo n s)).1 - (h (pN s.1 n)).1) (by omega) (by omega), wrap_in (n := (h (sTo n s)).1 - (h (pN s.1 n)).1 + v1) (by omega) (by omega), wrap_in (n := (h (sTo n s)).1 - (h (pN s.1 n)).1 + v1 - ((pN s.2.2.1 12 : Nat) : Int)) (by omega) (by omega)]
  rw [wrap_in (n := (h (sTo n s)).2 - (h (pN s.1 n)).2) (by omega) (by omega), wrap_in (n := (h (sTo n s)).2 - (h (pN s.1 n)).2 + v2) (by omega) (by omega), wrap_in (n := (h (sTo n s)).2 - (h (pN s.1 n)).2 + v2 - ((pN s.2.2.1 12 : Nat) : Int)) (by omega) (by omega)]
  unfold sightOf jit
  rw [hv1, hv2]
  have z1 : (h (sTo n s)).1 - (h (pN s.1 n)).1 + v1 - ((pN s.2.2.1 12 : Nat) : Int) = (h (sTo n s)).1 - (h (pN s.1 n)).1 + (v1 - ((pN s.2.2.1 12 : Nat) : Int)) := by omega
  have z2 : (h (sTo n s)).2 - (h (pN s.1 n)).2 + v2 - ((pN s.2.2.1 12 : Nat) : Int) = (h (sTo n s)).2 - (h (pN s.1 n)).2 + (v2 - ((pN s.2.2.1 12 : Nat) : Int)) := by omega
  rw [z1, z2]
theorem sight_ne {n : Nat} (hn : 2 ≤ n) (s : Sgt) : sTo n s ≠ pN s.1 n := by
  have p1 := pN_lt (c := s.1) (n := n) (by omega)
  have p2 := pN_lt (c := s.2.1) (n := n - 1) (by omega)
  unfold sTo
  intro h
  by_cases hlt : pN s.1 n + 1 + pN s.2.1 (n - 1) < n
  · rw [Nat.mod_eq_of_lt hlt] at h; omega
  · rw [Nat.mod_eq_sub_mod (by omega), Nat.mod_eq_of_lt (by omega)] at h; omega
end Go.Proofs.Ytklddmmnggcffaa
/-
  Network: the networks that integers determine.
  No conditions.
-/
namespace Go.Proofs.Ytklddmmnggcffaa
open Go Go.Abs Go.PE
set_option linter.unusedVariables false
def fixOf (n : Nat) (h : Nat → Int × Int) (f : Fix) : Fix := ((pN f.1 n : Nat), (h (pN f.1 n)).1 + jit f.2.2.1 (pN f.2.1 12), (h (pN f.1 n)).2 + jit f.2.2.2 (pN f.2.1 12), (pN f.2.1 12 : Nat))
def nF (x : NNum) : Nat := if nP x = 0 then 0 else min x.2.2.1.length 6
def fxf (x : NNum) (i : Nat) : Fix := fixOf (nP x) (hp x) (x.2.2.1.getD i (0, 0, 0, 0))
def tN (x : NNum) : Nat := min x.2.1.length (nP x - 1)
def tieF (x : NNum) (k : Nat) : Sgt :=
  ((pN (x.2.1.getD k 0) (k + 1) : Nat), ((k + 1 : Nat) : Int), (hp x (k + 1)).1 - (hp x (pN (x.2.1.getD k 0) (k + 1))).1, (hp x (k + 1)).2 - (hp x (pN (x.2.1.getD k 0) (k + 1))).2, (pN ((x.2.1.getD k 0).tdiv 8) 10 : Nat))
def nS (x : NNum) : Nat := if nP x ≤ 1 then 0 else min x.2.2.2.1.length 10
def sgF (x : NNum) (k : Nat) : Sgt := sightOf (nP x) (hp x) (x.2.2.2.1.getD k (0, 0, 0, 0, 0))
def base (x : NNum) : List Sgt := row (tN x) (tieF x) ++ row (nS x) (sgF x)
def mis (x : NNum) : Bool := decide (pk x.2.2.2.2.1 3 = 2)
def bent (x : NNum) (s : Sgt) : Sgt := if pk x.2.2.2.2.2.2 2 = 0 then (s.1, s.2.1, s.2.2.1 + (pk (x.2.2.2.2.2.2.tdiv 2) 60 + 1), s.2.2.2) else (s.1, s.2.1, s.2.2.1, s.2.2.2.1 - (pk (x.2.2.2.2.2.2.tdiv 2) 60 + 1), s.2.2.2.2)
def msg (x : NNum) : List Sgt := if mis x = true ∧ 0 < (base x).length then (base x).set (pN x.2.2.2.2.2.1 (base x).length) (bent x ((base x).getD (pN x.2.2.2.2.2.1 (base x).length) (0, 0, 0, 0, 0))) else base x
def madeN (x : NNum) : Net := ((nP x : Int), row (nF x) (fxf x), msg x)
/-- A fix that hidden places keep. -/
def KF (n : Nat) (h : Nat → Int × Int) (f : Fix) : Prop := 0 ≤ f.1 ∧ f.1 < n ∧ -511 ≤ f.2.1 ∧ f.2.1 ≤ 511 ∧ -511 ≤ f.2.2.1 ∧ f.2.2.1 ≤ 511 ∧ 0 ≤ f.2.2.2 ∧ f.2.2.2 ≤ 11 ∧
  -f.2.2.2 ≤ (h f.1.toNat).1 - f.2.1 ∧ (h f.1.toNat).1 - f.2.1 ≤ f.2.2.2 ∧ -f.2.2.2 ≤ (h f.1.toNat).2 - f.2.2.1 ∧ (h f.1.toNat).2 - f.2.2.1 ≤ f.2.2.2
/-- A sight that hidden places keep. -/
def KS (n : Nat) (h : Nat → Int × Int) (s : Sgt) : Prop := 0 ≤ s.1 ∧ s.1 < n ∧ 0 ≤ s.2.1 ∧ s.2.1 < n ∧ s.1 ≠ s.2.1 ∧ -1011 ≤ s.2.2.1 ∧ s.2.2.1 ≤ 1011 ∧ -1011 ≤ s.2.2.2.1 ∧ s.2.2.2.1 ≤ 1011 ∧ 0 ≤ s.2.2.2.2 ∧ s.2.2.2.2 ≤ 11 ∧
  -s.2.2.2.2 ≤ (h s.2.1.toNat).1 - (h s.1.toNat).1 - s.2.2.1 ∧ (h s.2.1.toNat).1 - (h s.1.toNat).1 - s.2.2.1 ≤ s.2.2.2.2 ∧ -s.2.2.2.2 ≤ (h s.2.1.toNat).2 - (h s.1.toNat).2 - s.2.2.2.1 ∧ (h s.2.1.toNat).2 - (h s.1.toNat).2 - s.2.2.2.1 ≤ s.2.2.2.2
theorem fixOf_keeps {n : Nat} {h : Nat → Int × Int} (hn : 0 < n) (hb : HB h) (f : Fix) : KF n h (fixOf n h f) := by
  have p1 := pN_lt (c := f.1) hn
  have p2 := pN_lt (c := f.2.1) (n := 12) (by omega)
  have b := hb (pN f.1 n)
  have j1 := jit_bd (c := f.2.2.1) (t := pN f.2.1 12)
  have j2 := jit_bd (c := f.2.2.2) (t := pN f.2.1 12)
  unfold KF fixOf
  dsimp only
  rw [Int.toNat_natCast]
  omega
theorem sightOf_keeps {n : Nat} {h : Nat → Int × Int} (hn : 2 ≤ n) (hb : HB h) (s : Sgt) : KS n h (sightOf n h s) := by
  have p1 := pN_lt (c := s.1) (n := n) (by omega)
  have p3 := pN_lt (c := s.2.2.1) (n := 12) (by omega)
  have hto : sTo n s < n := Nat.mod_lt _ (by omega)
  have hne := sight_ne hn s
  have b1 := hb (pN s.1 n)
  have b2 := hb (sTo n s)
  have j1 := jit_bd (c := s.2.2.2.1) (t := pN s.2.2.1 12)
  have j2 := jit_bd (c := s.2.2.2.2) (t := pN s.2.2.1 12)
  unfold KS sightOf
  dsimp only
  rw [Int.toNat_natCast, Int.toNat_natCast]
  omega
theorem tie_keeps {x : NNum} {k : Nat} (hk : k < tN x) : KS (nP x) (hp x) (tieF x k) := by
  have hk2 : k + 1 < nP x := by unfold tN at hk; omega
  have p1 := pN_lt (c := x.2.1.getD k 0) (n := k + 1) (by omega)
  have p2 := pN_lt (c := (x.2.1.getD k 0).tdiv 8) (n := 10) (by omega)
  have b1 := hp_bd x (k + 1)
  have b2 := hp_bd x (pN (x.2.1.getD k 0) (k + 1))
  unfold KS tieF
  dsimp only
  rw [Int.toNat_natCast, Int.toNat_natCast]
  omega
theorem fix_keeps {x : NNum} {f : Fix} (hf : f ∈ row (nF x) (fxf x)) : KF (nP x) (hp x) f := by
  obtain ⟨i, hi, rfl⟩ := row_mem hf
  refine fixOf_keeps ?_ (hp_bd x) _
  unfold nF at hi
  split at hi <;> omega
theorem base_keeps {x : NNum} {s : Sgt} (hs : s ∈ base x) : KS (nP x) (hp x) s := by
  rcases List.mem_append.1 hs with hs | hs
  · obtain ⟨i, hi, rfl⟩ := row_mem hs
    exact tie_keeps hi
  · obtain ⟨i, hi, rfl⟩ := row_mem hs
    refine sightOf_keeps ?_ (hp_bd x) _
    unfold nS at hi
    split at hi <;> omega
theorem base_len (x : NNum) : (base x).length ≤ 17 := by
  unfold base
  rw [List.length_append, row_length, row_length]
  have := (nP_bd x).1
  unfold tN nS
  split <;> omega
theorem msg_len (x : NNum) : (msg x).length = (base x).length := by
  unfold msg
  split
  · rw [List.length_set]
  · rfl
theorem msg_mem {x : NNum} {s : Sgt} (hs : s ∈ msg x) : s ∈ base x ∨ ∃ s' ∈ base x, s = bent x s' := by
  unfold msg at hs
  split at hs
  · rename_i h
    rcases List.mem_or_eq_of_mem_set hs with h1 | h1
    · exact .inl h1
    · exact .inr ⟨_, memD (pN_lt h.2) _, h1⟩
  · exact .inl hs
theorem made_ok (x : NNum) : NOK (madeN x) where
  n0 := by show (0 : Int) ≤ (nP x : Int); omega
  n8 := by have := (nP_bd x).1; show (nP x : Int) ≤ 8; omega
  fl := by
    show (row (nF x) (fxf x)).length ≤ 8
    rw [row_length]
    unfold nF
    split <;> omega
  sl := by
    show (msg x).length ≤ 20
    have := base_len x
    rw [msg_len]; omega
  fx f hf := by
    have := fix_keeps hf
    unfold KF at this
    show 0 ≤ f.1 ∧ f.1 < (nP x : Int) ∧ _
    omega
  sg s hs := by
    show 0 ≤ s.1 ∧ s.1 < (nP x : Int) ∧ 0 ≤ s.2.1 ∧ s.2.1 < (nP x : Int) ∧ _
    have hd1 := pk_lo (c := x.2.2.2.2.2.2.tdiv 2) (n := 60) (by omega)
    have hd2 := pk_hi (c := x.2.2.2.2.2.2.tdiv 2) (n := 60) (by omega)
    rcases msg_mem hs with h | ⟨s', h, rfl⟩
    · have := base_keeps h
      unfold KS at this
      omega
    · have := base_keeps h
      unfold KS at this
      unfold bent
      split
      · dsimp only; omega
      · dsimp only; omega
theorem msg_clean {x : NNum} (h : mis x = false) : msg x = base x := by
  unfold msg
  rw [if_neg (by rintro ⟨h1, _⟩; rw [h] at h1; cases h1)]
theorem m31_eq {x : NNum} (h : NN x) : m31 x = some (mis x) := by
  unfold m31
  rw [m30_eq h.a (by omega)]
  rfl
theorem lenR {α : Type} (m : Nat) (g : Nat → α) : lenM (row m g) = (m : Int) := by show ((row m g).length : Int) = _; rw [row_length]
theorem wrap_2t {t : Nat} (ht : t < 12) : IntKind.wrap IntKind.i64 (IntKind.wrap IntKind.i64 ((2 : Int) * ((t : Nat) : Int)) + 1) = 2 * ((t : Nat) : Int) + 1 := by
  rw [wrap_in (n := 2 * ((t : Nat) : Int)) (by omega) (by omega), wrap_in (by omega) (by omega)]
theorem min_end (a b : Nat) (bs : Int) (h : bs = (b : Int)) {xs : Int} (hx : xs = (a : Int)) : PE.andM (ltM ((min a b : Nat) : Int) xs) (ltM ((min a b : Nat) : Int) bs) = false := by
  subst h; subst hx
  by_cases h1 : a ≤ b
  · rw [geI (a := ((min a b : Nat) : Int)) (b := (a : Int)) (by omega)]; rfl
  · rw [geI (a := ((min a b : Nat) : Int)) (b := (b : Int)) (by omega)]
    cases ltM ((min a b : Nat) : Int) (a : Int) <;> rfl
theorem andF2 (b : Bool) : PE.andM b false = false := by cases b <;> rfl
theorem setM_D {α : Type} {xs : List α} {i : Nat} (h : i < xs.length) (d : α) {f : α → Option α} {y : α} (hy : f (xs.getD i d) = some y) : setM xs (i : Int) f = some (xs.set i y) := by
  have e : xs.getD i d = xs[i] := by simp [List.getD, h]
  rw [e] at hy
  exact setM_of (by omega) (by omega) hy
theorem m9_eq {x : NNum} (h : NN x) : m9 x = some (madeN x) := by
  have hn := nP_bd x
  unfold m9
  dsimp only
  refine bind_of (m20_eq h) ?_
  have hl : lenM (hidL x) = (nP x : Int) := lenR _ _
  rw [hl]
  refine bind_of (x := ((nP x : Int), row (nF x) (fxf x))) ?_ ?_
  · refine count_loop (fun k => ((nP x : Int), row k (fxf x))) (nF x) (fun k hk => ?_) ?_
    · have hk1 : k < x.2.2.1.length ∧ k < 6 ∧ 0 < nP x := by unfold nF at hk; split at hk <;> omega
      obtain ⟨k1, k2, k3⟩ := hk1
      have hm := h.fx _ (memD k1 (0, 0, 0, 0))
      have ef : fxf x k = fixOf (nP x) (hp x) (x.2.2.1.getD k (0, 0, 0, 0)) := rfl
      dsimp only
      rw [ltI (by show (k : Int) < (x.2.2.1.length : Int); omega), andT, ltI (by omega), andT, ltI (by omega), cond_true, idxD k1 (0, 0, 0, 0), Option.bind_some]
      generalize x.2.2.1.getD k (0, 0, 0, 0) = f at *
      obtain ⟨m1, m2, m3, m4⟩ := hm
      have p1 := pN_lt (c := f.1) k3
      have q1 := pN_eq (c := f.1) k3
      have p2 := pN_lt (c := f.2.1) (n := 12) (by omega)
      have q2 : ((pN f.2.1 12 : Nat) : Int) = pk f.2.1 12 := pN_eq (c := f.2.1) (n := 12) (by omega)
      have b := hp_bd x (pN f.1 (nP x))
      have j1 := jit_bd (c := f.2.2.1) (t := pN f.2.1 12)
      have j2 := jit_bd (c := f.2.2.2) (t := pN f.2.1 12)
      rw [m30_eq m1 (by omega), Option.bind_some, Option.bind_some, m30_eq m2 (by omega), Option.bind_some, ← q1, ← q2]
      have er : idxM (hidL x) ((pN f.1 (nP x) : Nat) : Int) = some (hp x (pN f.1 (nP x))) := row_idx p1
      rw [er, Option.bind_some, Option.bind_some, wrap_2t p2, m30_eq m3 (by omega), Option.bind_some, Option.bind_some, Option.bind_some, m30_eq m4 (by omega), Option.bind_some]
      refine bind_of (app_rowOf (g := fxf x) ?_ (by show (k + 1) * 32 ≤ 140737488355328; omega)) ?_
      · rw [ef]
        unfold fixOf
        unfold jit at *
        generalize pk f.2.2.1 (2 * ((pN f.2.1 12 : Nat) : Int) + 1) = v1 at *
        generalize pk f.2.2.2 (2 * ((pN f.2.1 12 : Nat) : Int) + 1) = v2 at *
        rw [wrap_in (n := (hp x (pN f.1 (nP x))).1 + v1) (by omega) (by omega), wrap_in (n := (hp x (pN f.1 (nP x))).1 + v1 - ((pN f.2.1 12 : Nat) : Int)) (by omega) (by omega), wrap_in (n := (hp x (pN f.1 (nP x))).2 + v2) (by omega) (by omega), wrap_in (n := (hp x (pN f.1 (nP x))).2 + v2 - ((pN f.2.1 12 : Nat) : Int)) (by omega) (by omega)]
        have z1 : (hp x (pN f.1 (nP x))).1 + v1 - ((pN f.2.1 12 : Nat) : Int) = (hp x (pN f.1 (nP x))).1 + (v1 - ((pN f.2.1 12 : Nat) : Int)) := by omega
        have z2 : (hp x (pN f.1 (nP x))).2 + v2 - ((pN f.2.1 12 : Nat) : Int) = (hp x (pN f.1 (nP x))).2 + (v2 - ((pN f.2.1 12 : Nat) : Int)) := by omega
        rw [z1, z2]
      · rw [wrap_in (by omega) (by omega)]
    · dsimp only
      have e : PE.andM (PE.andM (ltM ((nF x : Nat) : Int) (lenM x.2.2.1)) (ltM ((nF x : Nat) : Int) 6)) (ltM 0 ((nP x : Nat) : Int)) = false := by
        unfold nF
        by_cases h0 : nP x = 0
        · rw [if_pos h0, h0, geI (a := 0) (b := ((0 : Nat) : Int)) (by omega)]
          exact andF2 _
        · rw [if_neg h0, min_end x.2.2.1.length 6 6 rfl (xs := lenM x.2.2.1) rfl]; rfl
      rw [e, cond_false]
  refine bind_of (x := ((nP x : Int), row (tN x) (tieF x))) ?_ ?_
  · refine count_loop (fun k => ((nP x : Int), row k (tieF x))) (tN x) (fun k hk => ?_) ?_
    · have k1 : k < x.2.1.length := by unfold tN at hk; omega
      have k2 : k + 1 < nP x := by unfold tN at hk; omega
      have hm := h.ti _ (memD k1 0)
      have ef : tieF x k = (((pN (x.2.1.getD k 0) (k + 1) : Nat) : Int), ((k + 1 : Nat) : Int), (hp x (k + 1)).1 - (hp x (pN (x.2.1.getD k 0) (k + 1))).1, (hp x (k + 1)).2 - (hp x (pN (x.2.1.getD k 0) (k + 1))).2, ((pN ((x.2.1.getD k 0).tdiv 8) 10 : Nat) : Int)) := rfl
      have ek : IntKind.wrap IntKind.i64 ((k : Int) + 1) = ((k + 1 : Nat) : Int) := by rw [wrap_in (by omega) (by omega)]; rfl
      dsimp only
      rw [ltI (by show (k : Int) < (x.2.1.length : Int); omega), andT, ek, ltI (by omega), cond_true, idxD k1 0, Option.bind_some]
      generalize x.2.1.getD k 0 = v at *
      have p1 := pN_lt (c := v) (n := k + 1) (by omega)
      have q1 : ((pN v (k + 1) : Nat) : Int) = pk v ((k + 1 : Nat) : Int) := pN_eq (c := v) (n := k + 1) (by omega)
      have q2 : ((pN (v.tdiv 8) 10 : Nat) : Int) = pk (v.tdiv 8) 10 := pN_eq (c := v.tdiv 8) (n := 10) (by omega)
      have b1 := hp_bd x (k + 1)
      have b2 := hp_bd x (pN v (k + 1))
      have er1 : idxM (hidL x) ((k + 1 : Nat) : Int) = some (hp x (k + 1)) := row_idx k2
      have er2 : idxM (hidL x) ((pN v (k + 1) : Nat) : Int) = some (hp x (pN v (k + 1))) := row_idx (by omega)
      rw [m30_eq hm (by omega), Option.bind_some, ← q1, er1, Option.bind_some, er2, Option.bind_some, Option.bind_some, Option.bind_some, Option.bind_some, divM_pos (by omega), wrap_tdiv hm (by omega), Option.bind_some, m30_eq (tdiv_ok hm (by omega)) (by omega), Option.bind_some, ← q2, wrap_in (n := (hp x (k + 1)).1 - (hp x (pN v (k + 1))).1) (by omega) (by omega), wrap_in (n := (hp x (k + 1)).2 - (hp x (pN v (k + 1))).2) (by omega) (by omega)]
      refine bind_of (app_rowOf (g := tieF x) ef.symm (by show (k + 1) * 40 ≤ 140737488355328; omega)) rfl
    · dsimp only
      have e : PE.andM (ltM ((tN x : Nat) : Int) (lenM x.2.1)) (ltM (IntKind.wrap IntKind.i64 (((tN x : Nat) : Int) + 1)) ((nP x : Nat) : Int)) = false := by
        have h9 : tN x ≤ 7 := by unfold tN; omega
        rw [wrap_in (n := ((tN x : Nat) : Int) + 1) (by omega) (by omega)]
        by_cases h1 : x.2.1.length ≤ tN x
        · rw [geI (a := ((tN x : Nat) : Int)) (b := lenM x.2.1) (by show (x.2.1.length : Int) ≤ _; omega)]; rfl
        · rw [geI (a := ((tN x : Nat) : Int) + 1) (b := ((nP x : Nat) : Int)) (by unfold tN at h1 ⊢; omega)]
          cases ltM ((tN x : Nat) : Int) (lenM x.2.1) <;> rfl
      rw [e, cond_false]
  refine bind_of (x := ((nP x : Int), base x)) ?_ ?_
  · have eb : base x = row (tN x) (tieF x) ++ row (nS x) (sgF x) := rfl
    have e0 : row (tN x) (tieF x) = row (tN x) (tieF x) ++ row 0 (sgF x) := by rw [row_zero, List.append_nil]
    have hb17 := base_len x
    have L := count_loop (body := fun (s : Int × Int × List (Int × Int × Int × Int × Int)) =>
                bif PE.andM (PE.andM (ltM s.1 (lenM x.2.2.2.1)) (ltM s.1 (10 : Int))) (ltM (1 : Int) ((nP x : Nat) : Int)) then
                  Option.bind (idxM x.2.2.2.1 s.1) fun (r_1 : Int × Int × Int × Int × Int) =>
                    Option.bind (m21 (hidL x, r_1.1, r_1.2.1, r_1.2.2.1, r_1.2.2.2.1, r_1.2.2.2.2))
                      fun (r_2 : Int × Int × Int × Int × Int) =>
                      Option.bind (appM (nat_lit 40) s.2.2 [(r_2.1, r_2.2.1, r_2.2.2.1, r_2.2.2.2.1, r_2.2.2.2.2)])
                        fun (r : List (Int × Int × Int × Int × Int)) =>
                        some (Sum.inl (IntKind.wrap IntKind.i64 (s.1 + (1 : Int)), s.2.1, r))
                else some (Sum.inr (s.2.1, s.2.2))) (fun k => ((nP x : Int), row (tN x) (tieF x) ++ row k (sgF x))) (nS x) (r := ((nP x : Int), row (tN x) (tieF x) ++ row (nS x) (sgF x))) (fun k hk => by
      have hk1 : k < x.2.2.2.1.length ∧ k < 10 ∧ 1 < nP x := by unfold nS at hk; split at hk <;> omega
      obtain ⟨k1, k2, k3⟩ := hk1
      obtain ⟨m1, m2, m3, m4, m5⟩ := h.sg _ (memD k1 (0, 0, 0, 0, 0))
      have hs := m21_eq (n := nP x) (h := hp x) (by omega) hn.1 (hp_bd x) m1 m2 m3 m4 m5
      dsimp only
      rw [ltI (by show (k : Int) < (x.2.2.2.1.length : Int); omega), andT, ltI (by omega), andT, ltI (by omega), cond_true, idxD k1 (0, 0, 0, 0, 0), Option.bind_some]
      refine bind_of hs ?_
      refine bind_of (appM_of (by rw [List.length_append, row_length, row_length]; unfold tN; simp; omega)) ?_
      rw [wrap_in (by omega) (by omega), row_succ, List.append_assoc]
      rfl) (by
      dsimp only
      have e : PE.andM (PE.andM (ltM ((nS x : Nat) : Int) (lenM x.2.2.2.1)) (ltM ((nS x : Nat) : Int) 10)) (ltM 1 ((nP x : Nat) : Int)) = false := by
        unfold nS
        by_cases h0 : nP x ≤ 1
        · rw [if_pos h0, geI (a := 1) (b := ((nP x : Nat) : Int)) (by omega)]
          exact andF2 _
        · rw [if_neg h0, min_end x.2.2.2.1.length 10 10 rfl (xs := lenM x.2.2.2.1) rfl]; rfl
      rw [e, cond_false])
    rw [← e0] at L
    exact L
  dsimp only
  refine bind_of (x := msg x) ?_ rfl
  refine bind_of (m31_eq h) ?_
  have hlb : lenM (base x) = ((base x).length : Int) := rfl
  have hb17 := base_len x
  rw [hlb]
  unfold msg
  by_cases h0 : mis x = true ∧ 0 < (base x).length
  · obtain ⟨hm, hl0⟩ := h0
    have p1 := pN_lt (c := x.2.2.2.2.2.1) hl0
    have q1 := pN_eq (c := x.2.2.2.2.2.1) hl0
    have hd1 := pk_lo (c := x.2.2.2.2.2.2.tdiv 2) (n := 60) (by omega)
    have hd2 := pk_hi (c := x.2.2.2.2.2.2.tdiv 2) (n := 60) (by omega)
    have hk := base_keeps (memD p1 (0, 0, 0, 0, 0))
    unfold KS at hk
    rw [if_pos ⟨hm, hl0⟩, hm, andT, ltI (by omega), cond_true, m30_eq h.b (by omega), Option.bind_some, divM_pos (by omega), wrap_tdiv h.c (by omega), Option.bind_some, m30_eq (tdiv_ok h.c (by omega)) (by omega), Option.bind_some, m30_eq h.c (by omega), Option.bind_some, ← q1]
    rw [wrap_in (n := pk (x.2.2.2.2.2.2.tdiv 2) 60 + 1) (by omega) (by omega)]
    unfold bent
    by_cases h2 : pk x.2.2.2.2.2.2 2 = 0
    · rw [eqI h2, cond_true, if_pos h2, chkM_of (by omega) (by omega), Option.bind_some, idxD p1 (0, 0, 0, 0, 0), Option.bind_some, Option.bind_some, Option.bind_some]
      refine bind_of (setM_D p1 (0, 0, 0, 0, 0) rfl) ?_
      rw [wrap_in (n := _ + (_ + 1)) (by omega) (by omega)]
    · rw [neI h2, cond_false, if_neg h2, chkM_of (by omega) (by omega), Option.bind_some, idxD p1 (0, 0, 0, 0, 0), Option.bind_some, Option.bind_some, Option.bind_some]
      refine bind_of (setM_D p1 (0, 0, 0, 0, 0) rfl) ?_
      rw [wrap_in (n := _ - (_ + 1)) (by omega) (by omega)]
  · rw [if_neg h0]
    have e : PE.andM (mis x) (ltM 0 ((base x).length : Int)) = false := by
      cases hm : mis x with
      | false => rfl
      | true =>
        rw [geI (by have : ¬ 0 < (base x).length := fun h => h0 ⟨hm, h⟩; omega)]
        rfl
    rw [e, cond_false]
end Go.Proofs.Ytklddmmnggcffaa
/-
  Network: the law NetworkApart.
  No conditions.
-/
namespace Go.Proofs.Ytklddmmnggcffaa
open Go Go.Abs Go.PE
set_option linter.unusedVariables false
theorem aptR_in {c : Net} (h : NOK c) {p q : Nat} (hp : p < c.1.toNat) (hq : q < c.1.toNat) : aptR c (p : Int) (q : Int) = apM c p q := by
  have h0 := h.n0
  unfold aptR
  rw [if_pos ⟨nval_iff.2 h, inB_iff.2 (by omega), inB_iff.2 (by omega)⟩, Int.toNat_natCast, Int.toNat_natCast]
theorem boxQ_in {c : Net} (h : NOK c) {p : Nat} (hp : p < c.1.toNat) : boxQ c (p : Int) = apM c c.1.toNat p := by
  have h0 := h.n0
  unfold boxQ
  rw [if_pos ⟨nval_iff.2 h, inB_iff.2 (by omega)⟩, Int.toNat_natCast]
theorem apM_no {c : Net} (ho : okN c = false) (i j : Nat) : apM c i j = err := by
  unfold apM
  rw [if_neg (by rintro ⟨h, _⟩; rw [ho] at h; cases h)]
  rfl
theorem apM_far {c : Net} {i j : Nat} (hc : cnB c i j = false) : apM c i j = err := by
  unfold apM
  rw [if_neg (by rintro ⟨_, h⟩; rw [hc] at h; cases h)]
  rfl
theorem apM_yes {c : Net} (ho : okN c = true) {i j : Nat} (hc : cnB c i j = true) : apM c i j = (boxR c i j, 0) := by
  unfold apM
  rw [if_pos ⟨ho, hc⟩]
def SB (a : Bx) : Prop := (-100000000000000000 ≤ a.1 ∧ a.1 ≤ 100000000000000000) ∧ (-100000000000000000 ≤ a.2.1 ∧ a.2.1 ≤ 100000000000000000) ∧ (-100000000000000000 ≤ a.2.2.1 ∧ a.2.2.1 ≤ 100000000000000000) ∧ (-100000000000000000 ≤ a.2.2.2 ∧ a.2.2.2 ≤ 100000000000000000)
theorem box_bd {c : Net} (h : NOK c) (ho : okN c = true) {i j : Nat} (hi : i ≤ c.1.toNat) (hj : j ≤ c.1.toNat) (hc : Cn c i j) : SB (boxR c i j) := by
  have aX := axisX h ho
  have aY := axisY h ho
  have b1 := aX.bd i j hi hj ((aX.cn i j hi hj).2 hc)
  have b2 := aX.bd j i hj hi ((aX.cn j i hj hi).2 hc.symm)
  have b3 := aY.bd i j hi hj ((aY.cn i j hi hj).2 hc)
  have b4 := aY.bd j i hj hi ((aY.cn j i hj hi).2 hc.symm)
  unfold SB boxR
  dsimp only
  omega
theorem m27_eq {h a d : Bx} (ha : SB a) (hd : SB d) : m27 (h, a, d) = some (decide (a.1 + d.1 ≤ h.1 ∧ h.2.1 ≤ a.2.1 + d.2.1 ∧ a.2.2.1 + d.2.2.1 ≤ h.2.2.1 ∧ h.2.2.2 ≤ a.2.2.2 + d.2.2.2)) := by
  unfold SB at ha hd
  unfold m27
  dsimp only
  rw [wrap_in (n := a.1 + d.1) (by omega) (by omega), wrap_in (n := a.2.1 + d.2.1) (by omega) (by omega), wrap_in (n := a.2.2.1 + d.2.2.1) (by omega) (by omega), wrap_in (n := a.2.2.2 + d.2.2.2) (by omega) (by omega)]
  congr 1
  rw [Bool.eq_iff_iff, decide_eq_true_eq]
  show (((decide _ && decide _) && decide _) && decide _) = true ↔ _
  simp only [Bool.and_eq_true, decide_eq_true_eq]
  constructor
  · rintro ⟨⟨⟨h1, h2⟩, h3⟩, h4⟩; exact ⟨h1, h2, h3, h4⟩
  · rintro ⟨h1, h2, h3, h4⟩; exact ⟨⟨⟨h1, h2⟩, h3⟩, h4⟩
theorem box_tri {c : Net} (h : NOK c) (ho : okN c = true) {i k j : Nat} (hi : i ≤ c.1.toNat) (hk : k ≤ c.1.toNat) (hj : j ≤ c.1.toNat) (h1 : Cn c i k) (h2 : Cn c k j) : m27 (boxR c i j, boxR c i k, boxR c k j) = some true := by
  rw [m27_eq (box_bd h ho hi hk h1) (box_bd h ho hk hj h2)]
  have aX := axisX h ho
  have aY := axisY h ho
  have t1 := aX.tri i k j hi hk hj h1 h2
  have t2 := aX.tri j k i hj hk hi h2.symm h1.symm
  have t3 := aY.tri i k j hi hk hj h1 h2
  have t4 := aY.tri j k i hj hk hi h2.symm h1.symm
  rw [decide_eq_true]
  unfold boxR
  dsimp only
  omega
theorem law6_ok (x : NNum × Int × Int × Int) (h : NN x.1) (h1 : i64 x.2.1) (h2 : i64 x.2.2.1) (h3 : i64 x.2.2.2) : m6 x = some true := by
  have hc := made_ok x.1
  unfold m6
  refine bind_of sane_ok ?_
  rw [notT, cond_false]
  refine bind_of (m9_eq h) ?_
  have hn0 : (madeN x.1).1 = (nP x.1 : Int) := rfl
  have hnt : (madeN x.1).1.toNat = nP x.1 := by rw [hn0, Int.toNat_natCast]
  generalize madeN x.1 = c at *
  by_cases hz : nP x.1 = 0
  · rw [eqI (by rw [hn0, hz]; rfl), cond_true]
    refine bind_of (m22_eq c 0 0) ?_
    have : aptR c 0 0 = err := by
      unfold aptR
      rw [if_neg]
      rintro ⟨_, hh, _⟩
      have := inB_iff.1 hh
      rw [hn0, hz] at this
      omega
    rw [this]
    rfl
  · rw [neI (by rw [hn0]; omega), cond_false, hn0, m15_eq h1 (by omega), Option.bind_some, m15_eq h2 (by omega), Option.bind_some, m15_eq h3 (by omega), Option.bind_some]
    have l1 := pN_lt (c := x.2.1) (n := nP x.1) (by omega)
    have l2 := pN_lt (c := x.2.2.1) (n := nP x.1) (by omega)
    have l3 := pN_lt (c := x.2.2.2) (n := nP x.1) (by omega)
    rw [← pN_eq (c := x.2.1) (n := nP x.1) (by omega), ← pN_eq (c := x.2.2.1) (n := nP x.1) (by omega), ← pN_eq (c := x.2.2.2) (n := nP x.1) (by omega), ← hn0]
    generalize pN x.2.1 (nP x.1) = p at *
    generalize pN x.2.2.1 (nP x.1) = q at *
    generalize pN x.2.2.2 (nP x.1) = r at *
    rw [← hnt] at l1 l2 l3
    refine bind_of (m22_eq c p q) (bind_of (m22_eq c q p) (bind_of (m22_eq c q r) (bind_of (m22_eq c p r) ?_)))
    rw [aptR_in hc l1 l2, aptR_in hc l2 l1, aptR_in hc l2 l3, aptR_in hc l1 l3]
    have B1 : m14 ((c.1, c.2.1, c.2.2), (p : Int)) = some (apM c c.1.toNat p) := by rw [← boxQ_in hc l1]; exact m14_eq c p
    have B2 : m14 ((c.1, c.2.1, c.2.2), (q : Int)) = some (apM c c.1.toNat q) := by rw [← boxQ_in hc l2]; exact m14_eq c q
    cases ho : okN c with
    | false =>
      rw [apM_no ho, apM_no ho, apM_no ho, apM_no ho, B1, B2]
      rfl
    | true =>
      have ci : ∀ i j, i ≤ c.1.toNat → j ≤ c.1.toNat → (cnB c i j = true ↔ Cn c i j) := fun i j hi hj => cnB_iff hc ho hi hj
      cases hA : cnB c p q with
      | false =>
        have hA' : cnB c q p = false := by
          rw [Bool.eq_false_iff] at hA ⊢
          intro hh
          exact hA ((ci p q (by omega) (by omega)).2 ((ci q p (by omega) (by omega)).1 hh).symm)
        rw [apM_far hA, apM_far hA', B1, B2]
        rfl
      | true =>
        have cA := (ci p q (by omega) (by omega)).1 hA
        have hA' := (ci q p (by omega) (by omega)).2 cA.symm
        have bA := box_bd hc ho (i := p) (j := q) (by omega) (by omega) cA
        rw [apM_yes ho hA, apM_yes ho hA']
        have aX := axisX hc ho
        have aY := axisY hc ho
        have e1 : IntKind.wrap IntKind.i64 (negM (boxR c p q).2.1) = (boxR c q p).1 := by
          unfold SB boxR at bA
          unfold boxR PE.negM
          dsimp only at bA ⊢
          rw [wrap_in (by omega) (by omega)]
        have e2 : IntKind.wrap IntKind.i64 (negM (boxR c p q).1) = (boxR c q p).2.1 := by
          unfold SB boxR at bA
          unfold boxR PE.negM
          dsimp only at bA ⊢
          rw [Int.neg_neg, wrap_in (by omega) (by omega)]
        have e3 : IntKind.wrap IntKind.i64 (negM (boxR c p q).2.2.2) = (boxR c q p).2.2.1 := by
          unfold SB boxR at bA
          unfold boxR PE.negM
          dsimp only at bA ⊢
          rw [wrap_in (by omega) (by omega)]
        have e4 : IntKind.wrap IntKind.i64 (negM (boxR c p q).2.2.1) = (boxR c q p).2.2.2 := by
          unfold SB boxR at bA
          unfold boxR PE.negM
          dsimp only at bA ⊢
          rw [Int.neg_neg, wrap_in (by omega) (by omega)]
        dsimp only
        rw [e1, e2, e3, e4, eqI (a := (0 : Int)) rfl, eqI (a := (boxR c q p).1) rfl, eqI (a := (boxR c q p).2.1) rfl, eqI (a := (boxR c q p).2.2.1) rfl, eqI (a := (boxR c q p).2.2.2) rfl]
        have z : PE.andM (PE.andM true (eqM (p : Int) (q : Int))) (PE.notM (PE.andM (eqM (boxR c p q).1 0) (PE.andM (eqM (boxR c p q).2.1 0) (PE.andM (eqM (boxR c p q).2.2.1 0) (eqM (boxR c p q).2.2.2 0))))) = false := by
          by_cases hpq : p = q
          · subst hpq
            have s1 := aX.self p (by omega)
            have s2 := aY.self p (by omega)
            have q1 : (boxR c p p).1 = 0 := by unfold boxR; dsimp only; rw [s1]; rfl
            have q2 : (boxR c p p).2.1 = 0 := by unfold boxR; dsimp only; rw [s1]
            have q3 : (boxR c p p).2.2.1 = 0 := by unfold boxR; dsimp only; rw [s2]; rfl
            have q4 : (boxR c p p).2.2.2 = 0 := by unfold boxR; dsimp only; rw [s2]
            rw [eqI q1, eqI q2, eqI q3, eqI q4]
            cases eqM (p : Int) (p : Int) <;> rfl
          · rw [neI (a := (p : Int)) (b := (q : Int)) (by omega)]
            rfl
        rw [z]
        have y : PE.orM (PE.orM (PE.notM true) (PE.andM true (PE.notM (PE.andM true (PE.andM true (PE.andM true true)))))) false = false := rfl
        rw [y, cond_false]
        -- the third point
        have part : (Option.bind
                              (bif
                                  PE.andM (PE.andM true (eqM (apM c q r).2 (0 : Int)))
                                    (PE.notM (PE.notM (eqM (apM c p r).2 (0 : Int)))) then
                                m27
                                  (((apM c p r).1.1, (apM c p r).1.2.1, (apM c p r).1.2.2.1, (apM c p r).1.2.2.2),
                                    ((boxR c p q).1, (boxR c p q).2.1, (boxR c p q).2.2.1, (boxR c p q).2.2.2), (apM c q r).1.1, (apM c q r).1.2.1, (apM c q r).1.2.2.1,
                                    (apM c q r).1.2.2.2)
                              else some false)
                              fun (r_9 : Bool) => some (PE.andM (PE.andM true (eqM (apM c q r).2 (0 : Int)))
                                    (PE.orM (PE.notM (eqM (apM c p r).2 (0 : Int))) (PE.notM r_9)))) = some false := by
          cases hB : cnB c q r with
          | false =>
            rw [apM_far hB]
            rfl
          | true =>
            have cB := (ci q r (by omega) (by omega)).1 hB
            have hC := (ci p r (by omega) (by omega)).2 (cA.trans cB)
            rw [apM_yes ho hB, apM_yes ho hC]
            dsimp only
            rw [eqI (a := (0 : Int)) rfl]
            have := box_tri hc ho (i := p) (k := q) (j := r) (by omega) (by omega) (by omega) cA cB
            exact bind_of this rfl
        obtain ⟨r9, g1, g2⟩ := Option.bind_eq_some_iff.1 part
        refine bind_of g1 ?_
        rw [Option.some.inj g2, cond_false]
        refine bind_of B1 (bind_of B2 ?_)
        rw [notT, cond_false]
        cases hD : cnB c c.1.toNat p with
        | false =>
          have hE : cnB c c.1.toNat q = false := by
            rw [Bool.eq_false_iff] at hD ⊢
            intro hh
            exact hD ((ci _ _ (Nat.le_refl _) (by omega)).2 (((ci _ _ (Nat.le_refl _) (by omega)).1 hh).trans cA.symm))
          rw [apM_far hD, apM_far hE]
          rfl
        | true =>
          have cD := (ci _ _ (Nat.le_refl _) (by omega)).1 hD
          have hE := (ci c.1.toNat q (Nat.le_refl _) (by omega)).2 (cD.trans cA)
          rw [apM_yes ho hD, apM_yes ho hE]
          dsimp only
          rw [eqI (a := (0 : Int)) rfl]
          have := box_tri hc ho (i := c.1.toNat) (k := p) (j := q) (Nat.le_refl _) (by omega) (by omega) cD cA
          exact bind_of this rfl
end Go.Proofs.Ytklddmmnggcffaa
/-
  Network: Blame, and what is allowed.
  No conditions.
-/
namespace Go.Proofs.Ytklddmmnggcffaa
open Go Go.Abs Go.PE
set_option linter.unusedVariables false
/-! ### Blame -/
def best (c : Net) : List Int := if ovS (axY c) = true ∧ (ovS (axX c) = false ∨ (cycL (axY c).2).length < (cycL (axX c).2).length) then cycL (axY c).2 else if ovS (axX c) = true then cycL (axX c).2 else []
def half (v : Int) : Int := IntKind.wrap IntKind.i64 (v.tdiv 2)
def blL (c : Net) : List Int := Lib.compact (isortI ((best c).map half))
theorem cyc_len16 {x : Sys} (hs : sys x = true) (ho : ovS x = true) : (cycL x.2).length ≤ 16 := by
  obtain ⟨_, v, S, _, h2, _⟩ := cyc_st hs ho
  have := (sys_all hs).1
  omega
theorem best_len {c : Net} (h : NOK c) : (best c).length ≤ 16 := by
  unfold best
  split
  · rename_i h1; exact cyc_len16 (sysY h) h1.1
  · split
    · rename_i h1; exact cyc_len16 (sysX h) h1
    · exact Nat.zero_le _
theorem m10_eq {c : Net} (h : NOK c) : m10 c = some (blL c, !okN c) := by
  unfold m10
  refine bind_of (m18_eq c) ?_
  rw [nval_iff.2 h, notT, cond_false]
  refine bind_of (m32_eq h) ?_
  dsimp only
  refine bind_of (x := (if ovS (axX c) = true then cycL (axX c).2 else [], ovS (axX c))) ?_ ?_
  · refine bind_of (m33_eq (axX c)) ?_
    unfold cycR
    rw [sysX h]
    cases ovS (axX c) <;> rfl
  refine bind_of (x := (best c, !okN c)) ?_ ?_
  · refine bind_of (m33_eq (axY c)) ?_
    unfold cycR best okN
    rw [sysY h]
    have key : ∀ (bx bY : Bool) (l1 l2 : List Int), (bif PE.andM (bif true && bY then (l2, true) else (([] : List Int), false)).2 (PE.orM (PE.notM (if bx = true then l1 else [], bx).2) (ltM (lenM (bif true && bY then (l2, true) else (([] : List Int), false)).1) (lenM (if bx = true then l1 else [], bx).1))) then some ((bif true && bY then (l2, true) else (([] : List Int), false)).1, true) else some ((if bx = true then l1 else [], bx).1, (if bx = true then l1 else [], bx).2)) = some (if bY = true ∧ (bx = false ∨ l2.length < l1.length) then l2 else if bx = true then l1 else [], !(!bx && !bY)) := by
      intro bx bY l1 l2
      cases bx <;> cases bY
      · rfl
      · rfl
      · rfl
      · by_cases hl : l2.length < l1.length
        · have e : ltM (lenM l2) (lenM l1) = true := ltI (by show (l2.length : Int) < (l1.length : Int); omega)
          have e2 : (if true = true ∧ (true = false ∨ l2.length < l1.length) then l2 else if true = true then l1 else []) = l2 := if_pos ⟨rfl, .inr hl⟩
          rw [e2]
          show (bif PE.andM true (PE.orM (PE.notM true) (ltM (lenM l2) (lenM l1))) then some (l2, true) else some (l1, true)) = some (l2, true)
          rw [e]
          rfl
        · have e : ltM (lenM l2) (lenM l1) = false := geI (by show (l1.length : Int) ≤ (l2.length : Int); omega)
          have e2 : (if true = true ∧ (true = false ∨ l2.length < l1.length) then l2 else if true = true then l1 else []) = l1 := by
            rw [if_neg (by rintro ⟨_, h | h⟩ <;> first | cases h | exact hl h)]
            rfl
          rw [e2]
          show (bif PE.andM true (PE.orM (PE.notM true) (ltM (lenM l2) (lenM l1))) then some (l2, true) else some (l1, true)) = some (l1, true)
          rw [e]
          rfl
    exact key _ _ _ _
  dsimp only
  have hb := best_len h
  refine bind_of (x := (best c).map half) ?_ ?_
  · have L := count_loop (body := fun (s : Int × List Int) =>
                    bif ltM s.1 (lenM (best c)) then
                      Option.bind (idxM (best c) s.1) fun (r_2 : Int) =>
                        Option.bind (divM IntKind.i64 r_2 (2 : Int)) fun (r_3 : Int) =>
                          Option.bind (appM (nat_lit 8) s.2 [r_3]) fun (r : List Int) =>
                            some (Sum.inl (IntKind.wrap IntKind.i64 (s.1 + (1 : Int)), r))
                    else some (Sum.inr s.2)) (fun k => ((best c).take k).map half) (best c).length (r := ((best c).take (best c).length).map half) (fun k hk => by
      dsimp only
      rw [ltI (by show (k : Int) < ((best c).length : Int); omega), cond_true, idxM_lt hk, Option.bind_some, divM_pos (by omega), Option.bind_some]
      refine bind_of (appM_of (by simp; omega)) ?_
      rw [wrap_in (by omega) (by omega), List.take_succ_eq_append_getElem hk, List.map_append]
      rfl) (by
      dsimp only
      rw [geI (by show ((best c).length : Int) ≤ ((best c).length : Int); omega), cond_false])
    rw [List.take_length] at L
    exact L
  have hl : ((best c).map half).length ≤ 16 := by rw [List.length_map]; exact hb
  have e1 : sortI ((best c).map half) = some (isortI ((best c).map half)) := by
    unfold sortI
    rw [decide_eq_true (by omega)]
  refine bind_of e1 ?_
  have hp := (isortI_perm ((best c).map half)).length_eq
  have e2 : compI (isortI ((best c).map half)) = some (blL c) := by
    unfold compI
    rw [decide_eq_true (by omega)]
    rfl
  exact bind_of e2 rfl
/-! ### allowed places -/
def kpF (g : Nat → Int × Int) (f : Fix) : Bool := inB ((g f.1.toNat).1 - f.2.1) (-f.2.2.2) f.2.2.2 && inB ((g f.1.toNat).2 - f.2.2.1) (-f.2.2.2) f.2.2.2
def kpS (g : Nat → Int × Int) (s : Sgt) : Bool := inB ((g s.2.1.toNat).1 - (g s.1.toNat).1 - s.2.2.1) (-s.2.2.2.2) s.2.2.2.2 && inB ((g s.2.1.toNat).2 - (g s.1.toNat).2 - s.2.2.2.1) (-s.2.2.2.2) s.2.2.2.2
theorem m42_tol {x y t : Int} (h0 : 0 ≤ t) (h1 : t ≤ 1000) : m42 (x, y, t) = some (inB x (-t) t && inB y (-t) t) := m42_eq (by omega) (by omega)
theorem m17_row {c : Net} (h : NOK c) {g : Nat → Int × Int} (hg : ∀ i, i < c.1.toNat → (-1000000 ≤ (g i).1 ∧ (g i).1 ≤ 1000000) ∧ -1000000 ≤ (g i).2 ∧ (g i).2 ≤ 1000000) : m17 (c, row c.1.toNat g) = some (c.2.1.all (kpF g) && c.2.2.all (kpS g)) := by
  have h0 := h.n0
  have h8 := h.n8
  have hN : ((c.1.toNat : Nat) : Int) = c.1 := by omega
  have hl : lenM (row c.1.toNat g) = c.1 := by rw [lenR]; exact hN
  have hfl := h.fl
  have hsl := h.sl
  unfold m17
  dsimp only
  refine bind_of (m18_eq c) ?_
  rw [nval_iff.2 h, hl, eqI rfl, notT, orF, notF, cond_true]
  have hx : (row c.1.toNat g).any (fun p => !nearB p.1 p.2 1000000) = false := by
    rw [List.any_eq_false]
    intro p hp
    obtain ⟨i, hi, rfl⟩ := row_mem hp
    have := hg i hi
    have : nearB (g i).1 (g i).2 1000000 = true := by
      unfold nearB
      rw [Bool.and_eq_true, inB_iff, inB_iff]
      exact this
    rw [this]
    decide
  have L1 := any_loop (xs := row c.1.toNat g) (fun p => !nearB p.1 p.2 1000000) (body := fun (s : Int) =>
                  bif ltM s c.1 then
                    Option.bind (idxM (row c.1.toNat g) s) fun (r_1 : Int × Int) =>
                      Option.bind (m41 (r_1.1, r_1.2)) fun (r : Bool) =>
                        bif r then some (Sum.inr (Sum.inr s))
                        else some (Sum.inl (IntKind.wrap IntKind.i64 (s + (1 : Int))))
                  else some (Sum.inr (Sum.inl ()))) (fun k hk => by
    rw [row_length] at hk
    have e : (row c.1.toNat g)[k]'(by rw [row_length]; exact hk) = g k := by
      have := row_get (g := g) hk
      rw [List.getElem?_eq_getElem (by rw [row_length]; exact hk)] at this
      exact Option.some.inj this
    rw [ltI (by omega), cond_true, row_idx hk, Option.bind_some, e]
    unfold m41
    dsimp only
    rw [m42_eq (by omega) (by omega), wrap_in (by omega) (by omega)]
    cases nearB (g k).1 (g k).2 1000000 <;> rfl) (by rw [row_length, hN, geI (Int.le_refl _), cond_false])
  rw [hx] at L1
  obtain ⟨ov, g1, g2⟩ := Option.bind_eq_some_iff.1 L1
  refine bind_of (x := false) (bind_of g1 g2) ?_
  rw [orF, cond_false]
  have hnil : nilM (row c.1.toNat g) (some []) (Option.bind (appM (nat_lit 16) [] (row c.1.toNat g)) fun (r : List (Int × Int)) => some r) = some (row c.1.toNat g) := by
    have ea : (Option.bind (appM (nat_lit 16) [] (row c.1.toNat g)) fun (r : List (Int × Int)) => some r) = some (row c.1.toNat g) := by
      refine bind_of (appM_of (by rw [row_length]; simp; omega)) rfl
    rw [ea]
    cases hr : row c.1.toNat g with
    | nil =>
      show bothM (some []) (some []) = some []
      unfold bothM
      split
      · rfl
      · rename_i hh _; exact absurd rfl hh
    | cons a l => rfl
  refine bind_of hnil ?_
  refine bind_of (appM_of (by rw [row_length]; simp; omega)) ?_
  -- the places, and the origin
  have hall : ∃ l : List (Int × Int), l = row c.1.toNat g ++ [((0 : Int), (0 : Int))] := ⟨_, rfl⟩
  obtain ⟨l, hl0⟩ := hall
  rw [← hl0]
  have hll : l.length = c.1.toNat + 1 := by rw [hl0, List.length_append, row_length]; rfl
  have hlI : lenM l = c.1 + 1 := by show (l.length : Int) = _; rw [hll]; omega
  have hget : ∀ i : Int, 0 ≤ i → i < c.1 → chkM i (lenM l) = some () ∧ idxM l i = some (g i.toNat) := fun i hi0 hi1 => by
    refine ⟨chkM_of hi0 (by omega), ?_⟩
    obtain ⟨k, rfl⟩ := Int.eq_ofNat_of_zero_le hi0
    rw [Int.toNat_natCast, hl0, idxM_nat, List.getElem?_append_left (by rw [row_length]; omega), row_get (by omega)]
  have horg : chkM c.1 (lenM l) = some () ∧ idxM l c.1 = some ((0 : Int), (0 : Int)) := by
    refine ⟨chkM_of h0 (by omega), ?_⟩
    have : idxM l ((c.1.toNat : Nat) : Int) = some ((0 : Int), (0 : Int)) := by
      rw [hl0, idxM_nat, List.getElem?_append_right (by rw [row_length]; omega), row_length]
      simp
    rw [hN] at this
    exact this
  obtain ⟨b1, q1, q2⟩ := all_loop (n := c.2.1.length) (fun k => kpF g (c.2.1.getD k (0, 0, 0, 0))) (body := fun (s : Int) =>
                    bif ltM s (lenM c.2.1) then
                      Option.bind (idxM c.2.1 s) fun (r_2 : Int × Int × Int × Int) =>
                        Option.bind (chkM r_2.1 (lenM l)) fun (r_3 : Unit) =>
                          Option.bind (Option.bind (idxM l r_2.1) fun (x : Int × Int) => some x.1) fun (r_4 : Int) =>
                            Option.bind (chkM c.1 (lenM l)) fun (r_5 : Unit) =>
                              Option.bind (Option.bind (idxM l c.1) fun (x : Int × Int) => some x.1)
                                fun (r_6 : Int) =>
                                Option.bind (chkM r_2.1 (lenM l)) fun (r_7 : Unit) =>
                                  Option.bind (Option.bind (idxM l r_2.1) fun (x : Int × Int) => some x.2)
                                    fun (r_8 : Int) =>
                                    Option.bind (chkM c.1 (lenM l)) fun (r_9 : Unit) =>
                                      Option.bind (Option.bind (idxM l c.1) fun (x : Int × Int) => some x.2)
                                        fun (r_10 : Int) =>
                                        Option.bind
                                          (m42
                                            (IntKind.wrap IntKind.i64 (IntKind.wrap IntKind.i64 (r_4 - r_6) - r_2.2.1),
                                              IntKind.wrap IntKind.i64
                                                (IntKind.wrap IntKind.i64 (r_8 - r_10) - r_2.2.2.1),
                                              r_2.2.2.2))
                                          fun (r : Bool) =>
                                          bif PE.notM r then some (Sum.inr (Sum.inr false))
                                          else some (Sum.inl (IntKind.wrap IntKind.i64 (s + (1 : Int))))
                    else some (Sum.inr (Sum.inl ()))) (fun k hk => by
    have hm := h.fx _ (memD hk (0, 0, 0, 0))
    rw [ltI (by show (k : Int) < (c.2.1.length : Int); omega), cond_true, idxD hk (0, 0, 0, 0), Option.bind_some]
    generalize c.2.1.getD k (0, 0, 0, 0) = f at *
    obtain ⟨e1, e2⟩ := hget f.1 (by omega) (by omega)
    have hgb := hg f.1.toNat (by omega)
    rw [e1, Option.bind_some, e2, Option.bind_some, Option.bind_some, horg.1, Option.bind_some, horg.2, Option.bind_some, Option.bind_some, Option.bind_some, Option.bind_some, Option.bind_some, Option.bind_some, Option.bind_some, Option.bind_some]
    rw [wrap_in (n := (g f.1.toNat).1 - 0) (by omega) (by omega), wrap_in (n := (g f.1.toNat).2 - 0) (by omega) (by omega), Int.sub_zero, Int.sub_zero, wrap_in (n := (g f.1.toNat).1 - f.2.1) (by omega) (by omega), wrap_in (n := (g f.1.toNat).2 - f.2.2.1) (by omega) (by omega), m42_tol (by omega) (by omega), Option.bind_some, wrap_in (by omega) (by omega)]
    unfold kpF
    cases (inB ((g f.1.toNat).1 - f.2.1) (-f.2.2.2) f.2.2.2 && inB ((g f.1.toNat).2 - f.2.2.1) (-f.2.2.2) f.2.2.2) <;> rfl) (by rw [geI (by show (c.2.1.length : Int) ≤ (c.2.1.length : Int); omega), cond_false])
  obtain ⟨b2, r1, r2⟩ := all_loop (n := c.2.2.length) (fun k => kpS g (c.2.2.getD k (0, 0, 0, 0, 0))) (body := fun (s : Int) =>
                          bif ltM s (lenM c.2.2) then
                            Option.bind (idxM c.2.2 s) fun (r_2 : Int × Int × Int × Int × Int) =>
                              Option.bind (chkM r_2.2.1 (lenM l)) fun (r_3 : Unit) =>
                                Option.bind (Option.bind (idxM l r_2.2.1) fun (x : Int × Int) => some x.1)
                                  fun (r_4 : Int) =>
                                  Option.bind (chkM r_2.1 (lenM l)) fun (r_5 : Unit) =>
                                    Option.bind (Option.bind (idxM l r_2.1) fun (x : Int × Int) => some x.1)
                                      fun (r_6 : Int) =>
                                      Option.bind (chkM r_2.2.1 (lenM l)) fun (r_7 : Unit) =>
                                        Option.bind (Option.bind (idxM l r_2.2.1) fun (x : Int × Int) => some x.2)
                                          fun (r_8 : Int) =>
                                          Option.bind (chkM r_2.1 (lenM l)) fun (r_9 : Unit) =>
                                            Option.bind (Option.bind (idxM l r_2.1) fun (x : Int × Int) => some x.2)
                                              fun (r_10 : Int) =>
                                              Option.bind
                                                (m42
                                                  (IntKind.wrap IntKind.i64
                                                      (IntKind.wrap IntKind.i64 (r_4 - r_6) - r_2.2.2.1),
                                                    IntKind.wrap IntKind.i64
                                                      (IntKind.wrap IntKind.i64 (r_8 - r_10) - r_2.2.2.2.1),
                                                    r_2.2.2.2.2))
                                                fun (r : Bool) =>
                                                bif PE.notM r then some (Sum.inr (Sum.inr false))
                                                else some (Sum.inl (IntKind.wrap IntKind.i64 (s + (1 : Int))))
                          else some (Sum.inr (Sum.inl ()))) (fun k hk => by
    have hm := h.sg _ (memD hk (0, 0, 0, 0, 0))
    rw [ltI (by show (k : Int) < (c.2.2.length : Int); omega), cond_true, idxD hk (0, 0, 0, 0, 0), Option.bind_some]
    generalize c.2.2.getD k (0, 0, 0, 0, 0) = f at *
    obtain ⟨e1, e2⟩ := hget f.1 (by omega) (by omega)
    obtain ⟨e3, e4⟩ := hget f.2.1 (by omega) (by omega)
    have hgb := hg f.1.toNat (by omega)
    have hgb2 := hg f.2.1.toNat (by omega)
    rw [e3, Option.bind_some, e4, Option.bind_some, Option.bind_some, e1, Option.bind_some, e2, Option.bind_some, Option.bind_some, Option.bind_some, Option.bind_some, Option.bind_some, Option.bind_some, Option.bind_some, Option.bind_some]
    rw [wrap_in (n := (g f.2.1.toNat).1 - (g f.1.toNat).1) (by omega) (by omega), wrap_in (n := (g f.2.1.toNat).2 - (g f.1.toNat).2) (by omega) (by omega), wrap_in (n := (g f.2.1.toNat).1 - (g f.1.toNat).1 - f.2.2.1) (by omega) (by omega), wrap_in (n := (g f.2.1.toNat).2 - (g f.1.toNat).2 - f.2.2.2.1) (by omega) (by omega), m42_tol (by omega) (by omega), Option.bind_some, wrap_in (by omega) (by omega)]
    unfold kpS
    cases (inB ((g f.2.1.toNat).1 - (g f.1.toNat).1 - f.2.2.1) (-f.2.2.2.2) f.2.2.2.2 && inB ((g f.2.1.toNat).2 - (g f.1.toNat).2 - f.2.2.2.1) (-f.2.2.2.2) f.2.2.2.2) <;> rfl) (by rw [geI (by show (c.2.2.length : Int) ≤ (c.2.2.length : Int); omega), cond_false])
  have hb1 : b1 = c.2.1.all (kpF g) := by
    rw [Bool.eq_iff_iff, q2, List.all_eq_true]
    constructor
    · intro hh f hf
      obtain ⟨i, hi, rfl⟩ := List.mem_iff_getElem.1 hf
      have := hh i hi
      simpa [List.getD, hi] using this
    · intro hh k hk
      exact hh _ (memD hk _)
  have hb2 : b2 = c.2.2.all (kpS g) := by
    rw [Bool.eq_iff_iff, r2, List.all_eq_true]
    constructor
    · intro hh f hf
      obtain ⟨i, hi, rfl⟩ := List.mem_iff_getElem.1 hf
      have := hh i hi
      simpa [List.getD, hi] using this
    · intro hh k hk
      exact hh _ (memD hk _)
  refine bind_of q1 ?_
  cases b1 with
  | false => rw [← hb1]; rfl
  | true =>
    rw [← hb1, ← hb2]
    refine bind_of r1 ?_
    cases b2 <;> rfl
end Go.Proofs.Ytklddmmnggcffaa
/-
  Network: which points are tied.
  No conditions.
-/
namespace Go.Proofs.Ytklddmmnggcffaa
open Go Go.Abs Go.PE
set_option linter.unusedVariables false
def stepT (t : Nat → Bool) (s : Sgt) : Nat → Bool := fun i => t i || ((t s.1.toNat || t s.2.1.toNat) && decide (i = s.1.toNat ∨ i = s.2.1.toNat))
def sweep (ss : List Sgt) (t : Nat → Bool) : Nat → Bool := ss.foldl stepT t
def t0 (fs : List Fix) : Nat → Bool := fun i => fs.any fun f => decide (i = f.1.toNat)
def tdR (c : Net) : Nat → Nat → Bool
  | 0 => t0 c.2.1
  | k + 1 => sweep c.2.2 (tdR c k)
def td (c : Net) : Nat → Bool := tdR c c.1.toNat
theorem set_rowA {α : Type} {m j : Nat} {g : Nat → α} {y : α} (hj : j < m) : setM (row m g) (j : Int) (fun _ => some y) = some (row m fun a => if a = j then y else g a) := by
  unfold setM
  rw [row_idx hj]
  show some ((row m g).set ((j : Int)).toNat y) = _
  rw [Int.toNat_natCast, row_set hj]
theorem m11_eq {c : Net} (h : NOK c) : m11 c = some (row c.1.toNat (td c)) := by
  have h0 := h.n0
  have h8 := h.n8
  have hfl := h.fl
  have hsl := h.sl
  have hN : c.1 = ((c.1.toNat : Nat) : Int) := by omega
  have hlR : ∀ g : Nat → Bool, lenM (row c.1.toNat g) = c.1 := fun g => by rw [lenR]; omega
  unfold m11
  refine bind_of (x := row c.1.toNat fun _ => false) ?_ ?_
  · rw [mkM_of (by omega) (by omega) (by show c.1 * 1 ≤ 140737488355328; omega), replicate_row]
  refine bind_of (x := row c.1.toNat (t0 c.2.1)) ?_ ?_
  · have e0 : row c.1.toNat (fun _ => false) = row c.1.toNat (t0 (c.2.1.take 0)) := row_congr fun i _ => by simp [t0]
    rw [e0]
    have L := count_loop (body := fun (s : Int × List Bool) =>
            bif ltM s.1 (lenM c.2.1) then
              Option.bind (idxM c.2.1 s.1) fun (r_1 : Int × Int × Int × Int) =>
                Option.bind (chkM r_1.1 (lenM s.2)) fun (r_2 : Unit) =>
                  Option.bind (setM s.2 r_1.1 fun (x : Bool) => some true) fun (r : List Bool) =>
                    some (Sum.inl (IntKind.wrap IntKind.i64 (s.1 + (1 : Int)), r))
            else some (Sum.inr s.2)) (fun k => row c.1.toNat (t0 (c.2.1.take k))) c.2.1.length (r := row c.1.toNat (t0 (c.2.1.take c.2.1.length))) (fun k hk => by
      have hm := h.fx _ (List.getElem_mem hk)
      dsimp only
      rw [ltI (by show (k : Int) < (c.2.1.length : Int); omega), cond_true, idxM_lt hk, Option.bind_some, hlR, chkM_of (by omega) (by omega), Option.bind_some]
      obtain ⟨p, hp⟩ := Int.eq_ofNat_of_zero_le hm.1
      rw [hp, set_rowA (by omega), Option.bind_some, wrap_in (by omega) (by omega)]
      congr 3
      refine row_congr fun i _ => ?_
      rw [List.take_succ_eq_append_getElem hk]
      unfold t0
      rw [List.any_append]
      simp only [List.any_cons, List.any_nil, Bool.or_false, hp, Int.toNat_natCast]
      by_cases e : i = p
      · rw [if_pos e, decide_eq_true e, Bool.or_true]
      · rw [if_neg e, decide_eq_false e, Bool.or_false]) (by
      dsimp only
      rw [geI (by show (c.2.1.length : Int) ≤ (c.2.1.length : Int); omega), cond_false])
    rw [List.take_length] at L
    exact L
  refine bind_of (x := row c.1.toNat (td c)) ?_ rfl
  have LO := count_loop (body := fun (s : Int × List Bool) =>
              bif ltM s.1 c.1 then
                Option.bind
                  (loopM
                    (fun (s_1 : Int × List Bool) =>
                      bif ltM s_1.1 (lenM c.2.2) then
                        Option.bind
                          (Option.bind (idxM c.2.2 s_1.1) fun (r_1 : Int × Int × Int × Int × Int) =>
                            Option.bind (chkM r_1.1 (lenM s_1.2)) fun (r_2 : Unit) =>
                              Option.bind (idxM s_1.2 r_1.1) fun (r_3 : Bool) =>
                                Option.bind
                                  (bif PE.notM r_3 then idxM c.2.2 s_1.1
                                  else some ((0 : Int), (0 : Int), (0 : Int), (0 : Int), (0 : Int)))
                                  fun (r_4 : Int × Int × Int × Int × Int) =>
                                  Option.bind (bif PE.notM r_3 then chkM r_4.2.1 (lenM s_1.2) else some ())
                                    fun (r_5 : Unit) =>
                                    Option.bind (bif PE.notM r_3 then idxM s_1.2 r_4.2.1 else some false)
                                      fun (r_6 : Bool) =>
                                      bif PE.orM r_3 r_6 then
                                        Option.bind (idxM c.2.2 s_1.1) fun (r_7 : Int × Int × Int × Int × Int) =>
                                          Option.bind (chkM r_7.1 (lenM s_1.2)) fun (r_8 : Unit) =>
                                            Option.bind (setM s_1.2 r_7.1 fun (x : Bool) => some true)
                                              fun (r_9 : List Bool) =>
                                              Option.bind (idxM c.2.2 s_1.1) fun (r_10 : Int × Int × Int × Int × Int) =>
                                                Option.bind (chkM r_10.2.1 (lenM r_9)) fun (r_11 : Unit) =>
                                                  Option.bind (setM r_9 r_10.2.1 fun (x : Bool) => some true)
                                                    fun (r : List Bool) => some r
                                      else some s_1.2)
                          fun (o : List Bool) => some (Sum.inl (IntKind.wrap IntKind.i64 (s_1.1 + (1 : Int)), o))
                      else some (Sum.inr s_1.2))
                    ((0 : Int), s.2))
                  fun (o : List Bool) => some (Sum.inl (IntKind.wrap IntKind.i64 (s.1 + (1 : Int)), o))
              else some (Sum.inr s.2)) (fun k => row c.1.toNat (tdR c k)) c.1.toNat (r := row c.1.toNat (tdR c c.1.toNat)) (fun k hk => by
    dsimp only
    rw [ltI (by omega), cond_true]
    refine bind_of (x := row c.1.toNat (tdR c (k + 1))) ?_ (by rw [wrap_in (by omega) (by omega)])
    have e0 : row c.1.toNat (tdR c k) = row c.1.toNat (sweep (c.2.2.take 0) (tdR c k)) := rfl
    have e1 : tdR c (k + 1) = sweep (c.2.2.take c.2.2.length) (tdR c k) := by rw [List.take_length]; rfl
    rw [e0, e1]
    generalize tdR c k = t
    refine count_loop (fun j => row c.1.toNat (sweep (c.2.2.take j) t)) c.2.2.length (fun j hj => ?_) ?_
    · have hm := h.sg _ (List.getElem_mem hj)
      have es : sweep (c.2.2.take (j + 1)) t = stepT (sweep (c.2.2.take j) t) c.2.2[j] := by
        unfold sweep
        rw [List.take_succ_eq_append_getElem hj, List.foldl_append]
        rfl
      rw [es]
      generalize sweep (c.2.2.take j) t = u
      dsimp only
      rw [ltI (by show (j : Int) < (c.2.2.length : Int); omega), cond_true, idxM_lt hj, hlR]
      generalize c.2.2[j] = s at *
      obtain ⟨p, hp⟩ := Int.eq_ofNat_of_zero_le hm.1
      obtain ⟨q, hq⟩ := Int.eq_ofNat_of_zero_le hm.2.2.1
      obtain ⟨s1, s2, s3⟩ := s
      dsimp only at hp hq hm
      subst hp
      subst hq
      have hp' : p < c.1.toNat := by omega
      have hq' : q < c.1.toNat := by omega
      refine bind_of (x := row c.1.toNat (stepT u ((p : Int), (q : Int), s3))) ?_ (by rw [wrap_in (by omega) (by omega)])
      rw [Option.bind_some]
      dsimp only
      rw [chkM_of (by omega) (by omega), Option.bind_some, row_idx hp', Option.bind_some]
      have both : (Option.bind (some ((p : Int), (q : Int), s3)) fun (r_7 : Int × Int × Int × Int × Int) =>
                                          Option.bind (chkM r_7.1 c.1) fun (r_8 : Unit) =>
                                            Option.bind (setM (row c.1.toNat u) r_7.1 fun (x : Bool) => some true)
                                              fun (r_9 : List Bool) =>
                                              Option.bind (some ((p : Int), (q : Int), s3)) fun (r_10 : Int × Int × Int × Int × Int) =>
                                                Option.bind (chkM r_10.2.1 (lenM r_9)) fun (r_11 : Unit) =>
                                                  Option.bind (setM r_9 r_10.2.1 fun (x : Bool) => some true)
                                                    fun (r : List Bool) => some r) = some (row c.1.toNat fun i => if i = q then true else if i = p then true else u i) := by
        rw [Option.bind_some]
        dsimp only
        rw [chkM_of (by omega) (by omega), Option.bind_some, set_rowA hp', Option.bind_some, Option.bind_some, hlR]
        dsimp only
        rw [chkM_of (by omega) (by omega), Option.bind_some, set_rowA hq', Option.bind_some]
      have eT : (u p || u q) = true → row c.1.toNat (fun i => if i = q then true else if i = p then true else u i) = row c.1.toNat (stepT u ((p : Int), (q : Int), s3)) := fun hu => by
        refine row_congr fun i _ => ?_
        unfold stepT
        dsimp only
        rw [Int.toNat_natCast, Int.toNat_natCast, hu, Bool.true_and]
        by_cases e1 : i = q
        · rw [if_pos e1, decide_eq_true (.inr e1), Bool.or_true]
        · rw [if_neg e1]
          by_cases e2 : i = p
          · rw [if_pos e2, decide_eq_true (.inl e2), Bool.or_true]
          · rw [if_neg e2, decide_eq_false (by rintro (h | h) <;> contradiction), Bool.or_false]
      have eF : (u p || u q) = false → row c.1.toNat u = row c.1.toNat (stepT u ((p : Int), (q : Int), s3)) := fun hu => by
        refine row_congr fun i _ => ?_
        unfold stepT
        dsimp only
        rw [Int.toNat_natCast, Int.toNat_natCast, hu, Bool.false_and, Bool.or_false]
      cases hup : u p with
      | true =>
        rw [notT, cond_false, Option.bind_some, cond_false, Option.bind_some, cond_false, Option.bind_some, orT, cond_true, both, eT (by rw [hup]; rfl)]
      | false =>
        rw [notF, cond_true, Option.bind_some, cond_true]
        dsimp only
        rw [chkM_of (by omega) (by omega), Option.bind_some, cond_true, row_idx hq', Option.bind_some, orF]
        cases huq : u q with
        | true => rw [cond_true, both, eT (by rw [hup, huq]; rfl)]
        | false => rw [cond_false, eF (by rw [hup, huq]; rfl)]
    · dsimp only
      rw [geI (by show (c.2.2.length : Int) ≤ (c.2.2.length : Int); omega), cond_false]) (by
    dsimp only
    rw [geI (by omega), cond_false])
  exact LO
/-! ### tied is connected with the origin -/
theorem stepT_mono {t : Nat → Bool} {s : Sgt} {i : Nat} (h : t i = true) : stepT t s i = true := by unfold stepT; rw [h]; rfl
theorem sweep_mono : ∀ {ss : List Sgt} {t : Nat → Bool} {i : Nat}, t i = true → sweep ss t i = true
  | [], _, _, h => h
  | s :: r, t, i, h => by
    show sweep r (stepT t s) i = true
    exact sweep_mono (stepT_mono h)
theorem sweep_adds : ∀ {ss : List Sgt} {t : Nat → Bool} {s : Sgt}, s ∈ ss → (t s.1.toNat = true ∨ t s.2.1.toNat = true) → sweep ss t s.1.toNat = true ∧ sweep ss t s.2.1.toNat = true
  | s0 :: r, t, s, hs, ht => by
    show sweep r (stepT t s0) s.1.toNat = true ∧ sweep r (stepT t s0) s.2.1.toNat = true
    rcases List.mem_cons.1 hs with rfl | hs
    · have hor : (t s.1.toNat || t s.2.1.toNat) = true := by
        rcases ht with h | h <;> rw [h] <;> simp
      refine ⟨sweep_mono ?_, sweep_mono ?_⟩
      · unfold stepT
        rw [hor, decide_eq_true (.inl rfl)]; simp
      · unfold stepT
        rw [hor, decide_eq_true (.inr rfl)]; simp
    · exact sweep_adds hs (ht.imp stepT_mono stepT_mono)
theorem tdR_mono {c : Net} {i : Nat} : ∀ {k m : Nat}, k ≤ m → tdR c k i = true → tdR c m i = true := by
  intro k m hkm h
  induction m with
  | zero =>
    have : k = 0 := by omega
    subst this
    exact h
  | succ m ih =>
    by_cases e : k = m + 1
    · subst e; exact h
    · exact sweep_mono (ih (by omega))
theorem fix_cn {c : Net} (h : NOK c) {f : Fix} (hf : f ∈ c.2.1) : Cn c c.1.toNat f.1.toNat := by
  have h0 := h.n0
  have hm := h.fx f hf
  refine ⟨0 + (fX f + f.2.2.2), (Wk.nil _).snoc ?_⟩
  refine mem_bds.2 ⟨fOb fX c.1 f, List.mem_append.2 (.inl (List.mem_map.2 ⟨f, hf, rfl⟩)), .inl ⟨?_, ?_, rfl⟩⟩
  · show ((c.1.toNat : Nat) : Int) = c.1; omega
  · show ((f.1.toNat : Nat) : Int) = f.1; omega
theorem sgt_cn {c : Net} (h : NOK c) {s : Sgt} (hs : s ∈ c.2.2) : Cn c s.1.toNat s.2.1.toNat := by
  have hm := h.sg s hs
  refine ⟨0 + (sX s + s.2.2.2.2), (Wk.nil _).snoc ?_⟩
  refine mem_bds.2 ⟨sOb sX s, List.mem_append.2 (.inr (List.mem_map.2 ⟨s, hs, rfl⟩)), .inl ⟨?_, ?_, rfl⟩⟩
  · show ((s.1.toNat : Nat) : Int) = s.1; omega
  · show ((s.2.1.toNat : Nat) : Int) = s.2.1; omega
theorem sweep_cn {c : Net} (h : NOK c) : ∀ {ss : List Sgt}, (∀ s ∈ ss, s ∈ c.2.2) → ∀ {t : Nat → Bool}, (∀ i, t i = true → Cn c c.1.toNat i) → ∀ i, sweep ss t i = true → Cn c c.1.toNat i
  | [], _, _, ht, i, hi => ht i hi
  | s :: r, hs, t, ht, i, hi => by
    refine sweep_cn h (fun s' h' => hs s' (List.mem_cons_of_mem _ h')) (t := stepT t s) (fun j hj => ?_) i hi
    unfold stepT at hj
    simp only [Bool.or_eq_true, Bool.and_eq_true, decide_eq_true_eq] at hj
    have hc := sgt_cn h (hs s (List.mem_cons_self ..))
    rcases hj with hj | ⟨h1 | h1, rfl | rfl⟩
    · exact ht j hj
    · exact ht _ h1
    · exact (ht _ h1).trans hc
    · exact (ht _ h1).trans hc.symm
    · exact ht _ h1
theorem tdR_cn {c : Net} (h : NOK c) : ∀ k i, tdR c k i = true → Cn c c.1.toNat i
  | 0, i, hi => by
    have hi : t0 c.2.1 i = true := hi
    unfold t0 at hi
    obtain ⟨f, hf, e⟩ := List.any_eq_true.1 hi
    have e := of_decide_eq_true e
    rw [e]
    exact fix_cn h hf
  | k + 1, i, hi => sweep_cn h (fun _ h => h) (tdR_cn h k) i hi
theorem wn_td {c : Net} (h : NOK c) : ∀ (m p : Nat) (w : Int), WN (axX c).2 c.1.toNat p m w → p = c.1.toNat ∨ (1 ≤ m ∧ tdR c (m - 1) p = true)
  | 0, p, w, hw => .inl hw.zero.1.symm
  | m + 1, p, w, hw => by
    have h0 := h.n0
    obtain ⟨a, d, w', h1, h2, _⟩ := hw.last
    obtain ⟨o, ho, hh⟩ := mem_bds.1 h2
    have ih := wn_td h m a w' h1
    rcases List.mem_append.1 ho with ho | ho
    · obtain ⟨f, hf, rfl⟩ := List.mem_map.1 ho
      have hm := h.fx f hf
      rcases hh with ⟨e1, e2, _⟩ | ⟨e1, e2, _⟩
      · refine .inr ⟨by omega, ?_⟩
        have ep : p = f.1.toNat := by have : (p : Int) = f.1 := e2; omega
        refine tdR_mono (k := 0) (by omega) ?_
        show t0 c.2.1 p = true
        unfold t0
        exact List.any_eq_true.2 ⟨f, hf, decide_eq_true ep⟩
      · left
        have : (p : Int) = c.1 := e2
        omega
    · obtain ⟨s, hs, rfl⟩ := List.mem_map.1 ho
      have hm := h.sg s hs
      refine .inr ⟨by omega, ?_⟩
      have hstep : ∀ i, tdR c (m - 1) i = true → 1 ≤ m → tdR c (m + 1 - 1) i = true → True := fun _ _ _ _ => trivial
      rcases hh with ⟨e1, e2, _⟩ | ⟨e1, e2, _⟩
      · have e1 : (a : Int) = s.1 := e1
        have e2 : (p : Int) = s.2.1 := e2
        have ea : a = s.1.toNat := by omega
        have ep : p = s.2.1.toNat := by omega
        rcases ih with e | ⟨k1, k2⟩
        · omega
        · obtain ⟨k, rfl⟩ : ∃ k, m = k + 1 := ⟨m - 1, by omega⟩
          rw [ep]
          rw [ea] at k2
          exact (sweep_adds hs (.inl k2)).2
      · have e1 : (a : Int) = s.2.1 := e1
        have e2 : (p : Int) = s.1 := e2
        have ea : a = s.2.1.toNat := by omega
        have ep : p = s.1.toNat := by omega
        rcases ih with e | ⟨k1, k2⟩
        · omega
        · obtain ⟨k, rfl⟩ : ∃ k, m = k + 1 := ⟨m - 1, by omega⟩
          rw [ep]
          rw [ea] at k2
          exact (sweep_adds hs (.inr k2)).1
theorem td_iff {c : Net} (h : NOK c) (ho : okN c = true) {p : Nat} (hp : p < c.1.toNat) : td c p = true ↔ Cn c c.1.toNat p := by
  constructor
  · exact tdR_cn h _ _
  · rintro ⟨w, hw⟩
    obtain ⟨hn, hb, _⟩ := sys_all (sysX h)
    obtain ⟨m, hm⟩ := hw.wn
    have nX := axX_n h
    obtain ⟨m', w', k1, _, k3⟩ := WN.short hb (fun u m w hu hh => no_neg (sysX h) (okN_iff.1 ho).1 u m w hu hh) (i := c.1.toNat) (by omega) hm
    rcases wn_td h m' p w' k3 with e | ⟨_, e⟩
    · omega
    · exact tdR_mono (by omega) e
end Go.Proofs.Ytklddmmnggcffaa
/-
  Network: the law NetworkSound.
  No conditions.
-/
namespace Go.Proofs.Ytklddmmnggcffaa
open Go Go.Abs Go.PE
set_option linter.unusedVariables false
/-- Values of the variables that keep all bounds of a network. -/
structure Pot (c : Net) (gx gy : Nat → Int) : Prop where
  kx : ∀ a b : Nat, ∀ m : Int, ((a : Int), (b : Int), m) ∈ (axX c).2 → gx b - gx a ≤ m
  ky : ∀ a b : Nat, ∀ m : Int, ((a : Int), (b : Int), m) ∈ (axY c).2 → gy b - gy a ≤ m
theorem Pot.ok {c : Net} (h : NOK c) {gx gy : Nat → Int} (hp : Pot c gx gy) : okN c = true := by
  rw [okN_iff]
  constructor
  · cases ho : ovS (axX c) with
    | false => rfl
    | true =>
      obtain ⟨i, w, _, hw, hk⟩ := ov_walk (sysX h) ho
      have := keep_walk hp.kx hk
      omega
  · cases ho : ovS (axY c) with
    | false => rfl
    | true =>
      obtain ⟨i, w, _, hw, hk⟩ := ov_walk (sysY h) ho
      have := keep_walk hp.ky hk
      omega
theorem Pot.box {c : Net} (h : NOK c) {gx gy : Nat → Int} (hp : Pot c gx gy) {i j : Nat} (hi : i ≤ c.1.toNat) (hj : j ≤ c.1.toNat) (hc : Cn c i j) :
    ((boxR c i j).1 ≤ gx j - gx i ∧ gx j - gx i ≤ (boxR c i j).2.1) ∧ (boxR c i j).2.2.1 ≤ gy j - gy i ∧ gy j - gy i ≤ (boxR c i j).2.2.2 := by
  have ho := hp.ok h
  have aX := axisX h ho
  have aY := axisY h ho
  have k1 := keep_walk hp.kx (aX.wk i j hi hj hc)
  have k2 := keep_walk hp.kx (aX.wk j i hj hi hc.symm)
  have k3 := keep_walk hp.ky (aY.wk i j hi hj hc)
  have k4 := keep_walk hp.ky (aY.wk j i hj hi hc.symm)
  unfold boxR
  dsimp only
  omega
def gO (n : Nat) (f : Nat → Int) (i : Nat) : Int := if i < n then f i else 0
theorem gO_lt {n i : Nat} {f : Nat → Int} (h : i < n) : gO n f i = f i := if_pos h
theorem gO_n {n : Nat} {f : Nat → Int} : gO n f n = 0 := if_neg (Nat.lt_irrefl _)
theorem pot_of {c : Net} (h : NOK c) {g : Nat → Int × Int} (kf : ∀ f ∈ c.2.1, kpF g f = true) (ks : ∀ s ∈ c.2.2, kpS g s = true) : Pot c (gO c.1.toNat fun i => (g i).1) (gO c.1.toNat fun i => (g i).2) := by
  have h0 := h.n0
  have key : ∀ (d1 : Fix → Int) (d2 : Sgt → Int) (u : Nat → Int), (∀ f ∈ c.2.1, -f.2.2.2 ≤ u f.1.toNat - d1 f ∧ u f.1.toNat - d1 f ≤ f.2.2.2) → (∀ s ∈ c.2.2, -s.2.2.2.2 ≤ u s.2.1.toNat - u s.1.toNat - d2 s ∧ u s.2.1.toNat - u s.1.toNat - d2 s ≤ s.2.2.2.2) →
      ∀ a b : Nat, ∀ m : Int, ((a : Int), (b : Int), m) ∈ bds (obs d1 d2 c) → gO c.1.toNat u b - gO c.1.toNat u a ≤ m := by
    intro d1 d2 u h1 h2 a b m hm
    obtain ⟨o, ho, hh⟩ := mem_bds.1 hm
    rcases List.mem_append.1 ho with ho | ho
    · obtain ⟨f, hf, rfl⟩ := List.mem_map.1 ho
      have hb := h.fx f hf
      have := h1 f hf
      have eN : gO c.1.toNat u c.1.toNat = 0 := gO_n
      have eF : gO c.1.toNat u f.1.toNat = u f.1.toNat := gO_lt (by omega)
      rcases hh with ⟨e1, e2, e3⟩ | ⟨e1, e2, e3⟩
      · have e1 : (a : Int) = c.1 := e1
        have e2 : (b : Int) = f.1 := e2
        have e3 : m = d1 f + f.2.2.2 := e3
        have ea : a = c.1.toNat := by omega
        have eb : b = f.1.toNat := by omega
        rw [ea, eb, eN, eF]; omega
      · have e1 : (a : Int) = f.1 := e1
        have e2 : (b : Int) = c.1 := e2
        have e3 : m = f.2.2.2 - d1 f := e3
        have ea : a = f.1.toNat := by omega
        have eb : b = c.1.toNat := by omega
        rw [ea, eb, eN, eF]; omega
    · obtain ⟨s, hs, rfl⟩ := List.mem_map.1 ho
      have hb := h.sg s hs
      have := h2 s hs
      have eA : gO c.1.toNat u s.1.toNat = u s.1.toNat := gO_lt (by omega)
      have eB : gO c.1.toNat u s.2.1.toNat = u s.2.1.toNat := gO_lt (by omega)
      rcases hh with ⟨e1, e2, e3⟩ | ⟨e1, e2, e3⟩
      · have e1 : (a : Int) = s.1 := e1
        have e2 : (b : Int) = s.2.1 := e2
        have e3 : m = d2 s + s.2.2.2.2 := e3
        have ea : a = s.1.toNat := by omega
        have eb : b = s.2.1.toNat := by omega
        rw [ea, eb, eA, eB]; omega
      · have e1 : (a : Int) = s.2.1 := e1
        have e2 : (b : Int) = s.1 := e2
        have e3 : m = s.2.2.2.2 - d2 s := e3
        have ea : a = s.2.1.toNat := by omega
        have eb : b = s.1.toNat := by omega
        rw [ea, eb, eA, eB]; omega
  have kf' : ∀ f ∈ c.2.1, (-f.2.2.2 ≤ (g f.1.toNat).1 - f.2.1 ∧ (g f.1.toNat).1 - f.2.1 ≤ f.2.2.2) ∧ -f.2.2.2 ≤ (g f.1.toNat).2 - f.2.2.1 ∧ (g f.1.toNat).2 - f.2.2.1 ≤ f.2.2.2 := fun f hf => by
    have := kf f hf
    unfold kpF at this
    rw [Bool.and_eq_true, inB_iff, inB_iff] at this
    exact this
  have ks' : ∀ s ∈ c.2.2, (-s.2.2.2.2 ≤ (g s.2.1.toNat).1 - (g s.1.toNat).1 - s.2.2.1 ∧ (g s.2.1.toNat).1 - (g s.1.toNat).1 - s.2.2.1 ≤ s.2.2.2.2) ∧ -s.2.2.2.2 ≤ (g s.2.1.toNat).2 - (g s.1.toNat).2 - s.2.2.2.1 ∧ (g s.2.1.toNat).2 - (g s.1.toNat).2 - s.2.2.2.1 ≤ s.2.2.2.2 := fun s hs => by
    have := ks s hs
    unfold kpS at this
    rw [Bool.and_eq_true, inB_iff, inB_iff] at this
    exact this
  exact ⟨key fX sX (fun i => (g i).1) (fun f hf => (kf' f hf).1) (fun s hs => (ks' s hs).1), key fY sY (fun i => (g i).2) (fun f hf => (kf' f hf).2) (fun s hs => (ks' s hs).2)⟩
theorem kf_of {n : Nat} {h : Nat → Int × Int} {f : Fix} (hk : KF n h f) : kpF h f = true := by
  unfold KF at hk
  unfold kpF
  rw [Bool.and_eq_true, inB_iff, inB_iff]
  omega
theorem ks_of {n : Nat} {h : Nat → Int × Int} {s : Sgt} (hk : KS n h s) : kpS h s = true := by
  unfold KS at hk
  unfold kpS
  rw [Bool.and_eq_true, inB_iff, inB_iff]
  omega
/-- A further sight. -/
def addS (c : Net) (s : Sgt) : Net := (c.1, c.2.1, c.2.2 ++ [s])
theorem bds_sub {c : Net} {s : Sgt} {d1 : Fix → Int} {d2 : Sgt → Int} {b : Int × Int × Int} (h : b ∈ bds (obs d1 d2 c)) : b ∈ bds (obs d1 d2 (addS c s)) := by
  obtain ⟨a, b', m⟩ := b
  obtain ⟨o, ho, hh⟩ := mem_bds.1 h
  refine mem_bds.2 ⟨o, ?_, hh⟩
  rcases List.mem_append.1 ho with ho | ho
  · exact List.mem_append.2 (.inl ho)
  · obtain ⟨s', hs', rfl⟩ := List.mem_map.1 ho
    exact List.mem_append.2 (.inr (List.mem_map.2 ⟨s', List.mem_append.2 (.inl hs'), rfl⟩))
theorem cn_add {c : Net} {s : Sgt} {i j : Nat} (h : Cn c i j) : Cn (addS c s) i j := by
  obtain ⟨w, hw⟩ := h
  exact ⟨w, hw.mono fun b hb => bds_sub hb⟩
theorem narrow {c : Net} {s : Sgt} (h : NOK c) (ho : okN c = true) (h2 : NOK (addS c s)) (ho2 : okN (addS c s) = true) {i j : Nat} (hi : i ≤ c.1.toNat) (hj : j ≤ c.1.toNat) :
    PE.andM (eqM (apM c i j).2 (0 : Int)) (PE.orM (PE.orM (PE.orM (PE.orM (PE.notM (eqM (apM (addS c s) i j).2 (0 : Int))) (ltM (apM (addS c s) i j).1.1 (apM c i j).1.1)) (ltM (apM c i j).1.2.1 (apM (addS c s) i j).1.2.1)) (ltM (apM (addS c s) i j).1.2.2.1 (apM c i j).1.2.2.1)) (ltM (apM c i j).1.2.2.2 (apM (addS c s) i j).1.2.2.2)) = false := by
  cases hA : cnB c i j with
  | false => rw [apM_far hA]; rfl
  | true =>
    have cA := (cnB_iff h ho hi hj).1 hA
    have cB := cn_add (s := s) cA
    have hB := (cnB_iff h2 ho2 (i := i) (j := j) hi hj).2 cB
    rw [apM_yes ho hA, apM_yes ho2 hB]
    have aX := axisX h ho
    have aY := axisY h ho
    have aX2 := axisX h2 ho2
    have aY2 := axisY h2 ho2
    have k1 := aX2.le i j _ hi hj ((aX.wk i j hi hj cA).mono fun b hb => bds_sub hb)
    have k2 := aX2.le j i _ hj hi ((aX.wk j i hj hi cA.symm).mono fun b hb => bds_sub hb)
    have k3 := aY2.le i j _ hi hj ((aY.wk i j hi hj cA).mono fun b hb => bds_sub hb)
    have k4 := aY2.le j i _ hj hi ((aY.wk j i hj hi cA.symm).mono fun b hb => bds_sub hb)
    unfold boxR
    dsimp only
    rw [eqI rfl, geI (by omega), geI (by omega), geI (by omega), geI (by omega)]
    rfl
theorem ap_ok {c : Net} (ho : okN c = true) (i j : Nat) : eqM (apM c i j).2 0 = cnB c i j := by
  cases hA : cnB c i j with
  | false => rw [apM_far hA]; rfl
  | true => rw [apM_yes ho hA]; rfl
theorem m19_yes {b : Bx} {x y : Int} (h : (b.1 ≤ x ∧ x ≤ b.2.1) ∧ b.2.2.1 ≤ y ∧ y ≤ b.2.2.2) : m19 (b, x, y) = some true := by
  unfold m19
  dsimp only
  rw [leI h.1.1, leI h.1.2, leI h.2.1, leI h.2.2]
  rfl
theorem law4_ok (x : NNum × Int × Int × Sgt) (h : NN x.1) (h1 : i64 x.2.1) (h2 : i64 x.2.2.1) (h3 : i64 x.2.2.2.1) (h4 : i64 x.2.2.2.2.1) (h5 : i64 x.2.2.2.2.2.1) (h6 : i64 x.2.2.2.2.2.2.1) (h7 : i64 x.2.2.2.2.2.2.2) : m4 x = some true := by
  obtain ⟨x, p0, q0, fu⟩ := x
  have hy : NN (x.1, x.2.1, x.2.2.1, x.2.2.2.1, 0, x.2.2.2.2.2.1, x.2.2.2.2.2.2) := ⟨h.pl, h.ti, h.fx, h.sg, by unfold i64; dsimp only; omega, h.b, h.c⟩
  unfold m4
  refine bind_of sane_ok ?_
  rw [notT, cond_false]
  refine bind_of (m9_eq hy) (bind_of (m20_eq hy) ?_)
  have hmis : mis (x.1, x.2.1, x.2.2.1, x.2.2.2.1, 0, x.2.2.2.2.2.1, x.2.2.2.2.2.2) = false := rfl
  generalize hyy : ((x.1, x.2.1, x.2.2.1, x.2.2.2.1, 0, x.2.2.2.2.2.1, x.2.2.2.2.2.2) : NNum) = y at *
  have hc := made_ok y
  have hcn : (madeN y).1.toNat = nP y := by show ((nP y : Int)).toNat = _; rw [Int.toNat_natCast]
  have hc1 : (madeN y).1 = (nP y : Int) := rfl
  have hsl : (madeN y).2.2.length ≤ 17 := by show (msg y).length ≤ 17; rw [msg_len]; exact base_len y
  have kf : ∀ f ∈ (madeN y).2.1, kpF (hp y) f = true := fun f hf => kf_of (fix_keeps hf)
  have ks : ∀ s ∈ (madeN y).2.2, KS (nP y) (hp y) s := fun s hs => by
    have hs : s ∈ msg y := hs
    rw [msg_clean hmis] at hs
    exact base_keeps hs
  have hbd := hp_bd y
  have hhid : hidL y = row (madeN y).1.toNat (hp y) := by rw [hcn]; rfl
  rw [hhid]
  generalize madeN y = c at *
  have pot := pot_of hc kf (fun s hs => ks_of (ks s hs))
  have ho := pot.ok hc
  have hbg : ∀ i, i < c.1.toNat → (-1000000 ≤ (hp y i).1 ∧ (hp y i).1 ≤ 1000000) ∧ -1000000 ≤ (hp y i).2 ∧ (hp y i).2 ≤ 1000000 := fun i _ => by have := hbd i; omega
  refine bind_of (m10_eq hc) ?_
  dsimp only
  rw [ho, Bool.not_true, notF, cond_true]
  refine bind_of (m18_eq c) ?_
  rw [nval_iff.2 hc]
  have hal : m17 (c, row c.1.toNat (hp y)) = some true := by
    rw [m17_row hc hbg]
    congr 1
    rw [Bool.and_eq_true, List.all_eq_true, List.all_eq_true]
    exact ⟨kf, fun s hs => ks_of (ks s hs)⟩
  rw [notT, orF, notF, cond_true]
  refine bind_of hal ?_
  rw [notT, orF, cond_false]
  by_cases hlt : nP y < 2
  · rw [ltI (by omega), cond_true]
  · rw [geI (by omega), cond_false, hc1, m15_eq h1 (by omega), Option.bind_some, m15_eq h2 (by omega), Option.bind_some]
    have l1 := pN_lt (c := p0) (n := nP y) (by omega)
    have l2 := pN_lt (c := q0) (n := nP y) (by omega)
    dsimp only
    rw [← pN_eq (c := p0) (n := nP y) (by omega), ← pN_eq (c := q0) (n := nP y) (by omega), ← hc1]
    generalize pN p0 (nP y) = p at *
    generalize pN q0 (nP y) = q at *
    have e8 : appM (nat_lit 40) [] c.2.2 = some c.2.2 := by rw [appM_of (by simp; omega)]; rfl
    refine bind_of e8 ?_
    have es : m21 (row c.1.toNat (hp y), fu) = some (sightOf (nP y) (hp y) fu) := by
      rw [hcn]
      exact m21_eq (by omega) (nP_bd y).1 hbd h3 h4 h5 h6 h7
    refine bind_of es ?_
    have hks := sightOf_keeps (n := nP y) (h := hp y) (by omega) hbd fu
    generalize sightOf (nP y) (hp y) fu = s at *
    have e10 : appM (nat_lit 40) c.2.2 [s] = some (c.2.2 ++ [s]) := appM_of (by simp; omega)
    refine bind_of e10 ?_
    have hc2 : NOK (addS c s) := ⟨hc.n0, hc.n8, hc.fl, by show (c.2.2 ++ [s]).length ≤ 20; simp; omega, hc.fx, fun s' hs' => by
      rcases List.mem_append.1 hs' with hs' | hs'
      · exact hc.sg s' hs'
      · rw [List.mem_singleton.1 hs']
        unfold KS at hks
        show 0 ≤ s.1 ∧ s.1 < c.1 ∧ 0 ≤ s.2.1 ∧ s.2.1 < c.1 ∧ _
        omega⟩
    have ks2 : ∀ s' ∈ (addS c s).2.2, kpS (hp y) s' = true := fun s' hs' => by
      rcases List.mem_append.1 hs' with hs' | hs'
      · exact ks_of (ks s' hs')
      · rw [List.mem_singleton.1 hs']; exact ks_of hks
    have pot2 := pot_of hc2 kf ks2
    have ho2 := pot2.ok hc2
    have lp : p < c.1.toNat := by omega
    have lq : q < c.1.toNat := by omega
    have B1 : m14 (c, (p : Int)) = some (apM c c.1.toNat p) := by rw [← boxQ_in hc lp]; exact m14_eq c p
    have B2 : m14 (addS c s, (p : Int)) = some (apM (addS c s) c.1.toNat p) := by
      have := boxQ_in hc2 (p := p) lp
      rw [m14_eq]
      exact congrArg some this
    have A1 : m22 (c, (p : Int), (q : Int)) = some (apM c p q) := by rw [← aptR_in hc lp lq]; exact m22_eq c p q
    have A2 : m22 (addS c s, (p : Int), (q : Int)) = some (apM (addS c s) p q) := by
      have := aptR_in hc2 (p := p) (q := q) lp lq
      rw [m22_eq]
      exact congrArg some this
    refine bind_of B1 (bind_of B2 (bind_of A1 (bind_of A2 ?_)))
    have hal2 : m17 (addS c s, row c.1.toNat (hp y)) = some true := by
      have := m17_row hc2 hbg
      refine this.trans ?_
      congr 1
      rw [Bool.and_eq_true, List.all_eq_true, List.all_eq_true]
      exact ⟨kf, ks2⟩
    refine bind_of hal2 ?_
    rw [narrow hc ho hc2 ho2 (i := c.1.toNat) (j := p) (Nat.le_refl _) (by omega), narrow hc ho hc2 ho2 (i := p) (j := q) (by omega) (by omega)]
    rw [notT, orF, orF, cond_false]
    refine bind_of (m11_eq hc) ?_
    rw [row_idx lp, Option.bind_some, ap_ok ho, ap_ok ho, ap_ok ho2]
    have ci := fun i j hi hj => cnB_iff hc ho (i := i) (j := j) hi hj
    have ci2 := fun i j hi hj => cnB_iff hc2 ho2 (i := i) (j := j) hi hj
    have tp : td c p = cnB c c.1.toNat p := by rw [Bool.eq_iff_iff, td_iff hc ho lp, ci _ _ (Nat.le_refl _) (by omega)]
    have tq : td c q = cnB c c.1.toNat q := by rw [Bool.eq_iff_iff, td_iff hc ho lq, ci _ _ (Nat.le_refl _) (by omega)]
    have ebb : ∀ b : Bool, eqbM b b = true := fun b => decide_eq_true rfl
    rw [tp, ebb, notT, notF, andT, row_idx lq]
    rw [tq]
    refine bind_of (x := bif PE.notM (eqM (p : Int) (q : Int)) then cnB c c.1.toNat p else false) (by cases PE.notM (eqM (p : Int) (q : Int)) <;> rfl) ?_
    refine bind_of (x := bif PE.andM (PE.notM (eqM (p : Int) (q : Int))) (bif PE.notM (eqM (p : Int) (q : Int)) then cnB c c.1.toNat p else false) then cnB c c.1.toNat q else false) (by
      cases PE.andM (PE.notM (eqM (p : Int) (q : Int))) (bif PE.notM (eqM (p : Int) (q : Int)) then cnB c c.1.toNat p else false) <;> rfl) ?_
    have z : PE.orM false (PE.andM (PE.orM (eqM (p : Int) (q : Int)) (PE.andM (bif PE.notM (eqM (p : Int) (q : Int)) then cnB c c.1.toNat p else false) (bif PE.andM (PE.notM (eqM (p : Int) (q : Int))) (bif PE.notM (eqM (p : Int) (q : Int)) then cnB c c.1.toNat p else false) then cnB c c.1.toNat q else false))) (PE.notM (cnB c p q))) = false := by
      by_cases hpq : p = q
      · subst hpq
        rw [(ci p p (by omega) (by omega)).2 (Cn.refl c p), notT]
        exact andF2 _
      · rw [neI (a := (p : Int)) (b := (q : Int)) (by omega), notF]
        cases hP : cnB c c.1.toNat p with
        | false => rfl
        | true =>
          cases hQ : cnB c c.1.toNat q with
          | false => rfl
          | true =>
            have : Cn c p q := ((ci _ _ (Nat.le_refl _) (by omega)).1 hP).symm.trans ((ci _ _ (Nat.le_refl _) (by omega)).1 hQ)
            rw [(ci p q (by omega) (by omega)).2 this]
            rfl
    rw [z, cond_false]
    -- the hidden places lie in the boxes
    have g1 := hp y
    have eN : gO c.1.toNat (fun i => (hp y i).1) c.1.toNat = 0 := gO_n
    have eN2 : gO c.1.toNat (fun i => (hp y i).2) c.1.toNat = 0 := gO_n
    have eP : gO c.1.toNat (fun i => (hp y i).1) p = (hp y p).1 := gO_lt lp
    have eP2 : gO c.1.toNat (fun i => (hp y i).2) p = (hp y p).2 := gO_lt lp
    have eQ : gO c.1.toNat (fun i => (hp y i).1) q = (hp y q).1 := gO_lt lq
    have eQ2 : gO c.1.toNat (fun i => (hp y i).2) q = (hp y q).2 := gO_lt lq
    have bp := hbd p
    have bq := hbd q
    have first : Option.bind (bif PE.notM (PE.notM (cnB c c.1.toNat p)) then some (hp y p) else some ((0 : Int), (0 : Int))) (fun (r_20 : Int × Int) =>
        Option.bind (bif PE.notM (PE.notM (cnB c c.1.toNat p)) then some (hp y p) else some ((0 : Int), (0 : Int))) fun (r_21 : Int × Int) =>
          Option.bind (bif PE.notM (PE.notM (cnB c c.1.toNat p)) then m19 (((apM (addS c s) c.1.toNat p).1.1, (apM (addS c s) c.1.toNat p).1.2.1, (apM (addS c s) c.1.toNat p).1.2.2.1, (apM (addS c s) c.1.toNat p).1.2.2.2), r_20.1, r_21.2) else some false) fun (r_22 : Bool) => some (PE.orM (PE.notM (cnB c c.1.toNat p)) r_22)) = some true := by
      cases hA : cnB c c.1.toNat p with
      | false => rfl
      | true =>
        have cA := (ci _ _ (Nat.le_refl _) (by omega)).1 hA
        have cB := cn_add (s := s) cA
        have hB := (ci2 c.1.toNat p (Nat.le_refl _) (by show p ≤ c.1.toNat; omega)).2 cB
        have hb := pot2.box hc2 (i := c.1.toNat) (j := p) (Nat.le_refl _) (by show p ≤ c.1.toNat; omega) cB
        have hb' : ((boxR (addS c s) c.1.toNat p).1 ≤ (hp y p).1 ∧ (hp y p).1 ≤ (boxR (addS c s) c.1.toNat p).2.1) ∧ (boxR (addS c s) c.1.toNat p).2.2.1 ≤ (hp y p).2 ∧ (hp y p).2 ≤ (boxR (addS c s) c.1.toNat p).2.2.2 := by
          have hb : ((boxR (addS c s) c.1.toNat p).1 ≤ gO c.1.toNat (fun i => (hp y i).1) p - gO c.1.toNat (fun i => (hp y i).1) c.1.toNat ∧ gO c.1.toNat (fun i => (hp y i).1) p - gO c.1.toNat (fun i => (hp y i).1) c.1.toNat ≤ (boxR (addS c s) c.1.toNat p).2.1) ∧ (boxR (addS c s) c.1.toNat p).2.2.1 ≤ gO c.1.toNat (fun i => (hp y i).2) p - gO c.1.toNat (fun i => (hp y i).2) c.1.toNat ∧ gO c.1.toNat (fun i => (hp y i).2) p - gO c.1.toNat (fun i => (hp y i).2) c.1.toNat ≤ (boxR (addS c s) c.1.toNat p).2.2.2 := hb
          rw [eN, eN2, eP, eP2] at hb
          omega
        rw [apM_yes ho2 hB]
        show Option.bind (m19 (boxR (addS c s) c.1.toNat p, (hp y p).1, (hp y p).2)) _ = _
        rw [m19_yes hb']
        rfl
    obtain ⟨r20, k1, first⟩ := Option.bind_eq_some_iff.1 first
    obtain ⟨r21, k2, first⟩ := Option.bind_eq_some_iff.1 first
    obtain ⟨r22, k3, first⟩ := Option.bind_eq_some_iff.1 first
    have first := Option.some.inj first
    rw [row_idx lp]
    refine bind_of k1 (bind_of k2 (bind_of k3 ?_))
    rw [first, andT]
    cases hB : cnB (addS c s) p q with
    | false => rfl
    | true =>
      have cB := (ci2 p q (by show p ≤ c.1.toNat; omega) (by show q ≤ c.1.toNat; omega)).1 hB
      have hb := pot2.box hc2 (i := p) (j := q) (by show p ≤ c.1.toNat; omega) (by show q ≤ c.1.toNat; omega) cB
      have hb : ((boxR (addS c s) p q).1 ≤ gO c.1.toNat (fun i => (hp y i).1) q - gO c.1.toNat (fun i => (hp y i).1) p ∧ gO c.1.toNat (fun i => (hp y i).1) q - gO c.1.toNat (fun i => (hp y i).1) p ≤ (boxR (addS c s) p q).2.1) ∧ (boxR (addS c s) p q).2.2.1 ≤ gO c.1.toNat (fun i => (hp y i).2) q - gO c.1.toNat (fun i => (hp y i).2) p ∧ gO c.1.toNat (fun i => (hp y i).2) q - gO c.1.toNat (fun i => (hp y i).2) p ≤ (boxR (addS c s) p q).2.2.2 := hb
      rw [eP, eP2, eQ, eQ2] at hb
      rw [apM_yes ho2 hB]
      simp only [row_idx lq]
      show Option.bind (some (hp y q)) (fun r23 => Option.bind (some (hp y p)) fun r24 => Option.bind (some (hp y q)) fun r25 => Option.bind (some (hp y p)) fun r26 => Option.bind (m19 (boxR (addS c s) p q, IntKind.wrap IntKind.i64 (r23.1 - r24.1), IntKind.wrap IntKind.i64 (r25.2 - r26.2))) _) = some true
      rw [Option.bind_some, Option.bind_some, Option.bind_some, Option.bind_some, wrap_in (n := (hp y q).1 - (hp y p).1) (by omega) (by omega), wrap_in (n := (hp y q).2 - (hp y p).2) (by omega) (by omega), m19_yes hb]
      rfl
end Go.Proofs.Ytklddmmnggcffaa
/-
  Network: sizes of boxes; corners of boxes are allowed.
  No conditions.
-/
namespace Go.Proofs.Ytklddmmnggcffaa
open Go Go.Abs Go.PE
set_option linter.unusedVariables false
theorem wn_le {bs : List (Int × Int × Int)} {B : Int} (hb : ∀ a b m : Int, (a, b, m) ∈ bs → m ≤ B) : ∀ (m i j : Nat) (w : Int), WN bs i j m w → w ≤ m * B
  | 0, i, j, w, h => by
    have := h.zero.2
    rw [this]
    simp
  | m + 1, i, j, w, h => by
    obtain ⟨a, d, w', h1, h2, h3⟩ := h.last
    have g1 := wn_le hb m i a w' h1
    have g2 := hb _ _ _ h2
    have : ((m + 1 : Nat) : Int) * B = (m : Int) * B + B := by rw [Int.natCast_add, Int.add_mul]; simp
    omega
theorem dist_le {x : Sys} (hs : sys x = true) (ho : ovS x = false) {B : Int} (hB : 0 ≤ B) (hb : ∀ a b m : Int, (a, b, m) ∈ x.2 → m ≤ B) {n : Nat} (hn : x.1.toNat = n + 1) {i j : Nat} (hi : i ≤ n) (hj : j ≤ n) {w : Int} (hw : Wk x.2 i j w) : fwS x i j ≤ n * B := by
  obtain ⟨_, hall, _⟩ := sys_all hs
  obtain ⟨m, hm⟩ := hw.wn
  obtain ⟨m', w', k1, _, k3⟩ := WN.short hall (fun u m w hu hh => no_neg hs ho u m w hu hh) (i := i) (by omega) hm
  have h1 := wn_le hb m' i j w' k3
  have h2 : (m' : Int) * B ≤ (n : Int) * B := Int.mul_le_mul_of_nonneg_right (by omega) hB
  rcases fw_cases hs ho (i := i) (j := j) (by omega) (by omega) with ⟨_, e⟩ | ⟨_, _, _, e⟩
  · exact absurd hw (e w)
  · have := e w' k3.wk
    omega
/-- Networks that integers determine have small bounds. -/
def Small (c : Net) : Prop := (∀ a b m : Int, (a, b, m) ∈ (axX c).2 → m ≤ 1082) ∧ ∀ a b m : Int, (a, b, m) ∈ (axY c).2 → m ≤ 1082
theorem made_small (x : NNum) : Small (madeN x) := by
  have hd1 := pk_lo (c := x.2.2.2.2.2.2.tdiv 2) (n := 60) (by omega)
  have hd2 := pk_hi (c := x.2.2.2.2.2.2.tdiv 2) (n := 60) (by omega)
  have hs : ∀ s ∈ (madeN x).2.2, -1071 ≤ s.2.2.1 ∧ s.2.2.1 ≤ 1071 ∧ -1071 ≤ s.2.2.2.1 ∧ s.2.2.2.1 ≤ 1071 ∧ s.2.2.2.2 ≤ 11 := fun s hs => by
    rcases msg_mem hs with h | ⟨s', h, rfl⟩
    · have := base_keeps h
      unfold KS at this
      omega
    · have := base_keeps h
      unfold KS at this
      unfold bent
      split
      · dsimp only; omega
      · dsimp only; omega
  have hf : ∀ f ∈ (madeN x).2.1, -511 ≤ f.2.1 ∧ f.2.1 ≤ 511 ∧ -511 ≤ f.2.2.1 ∧ f.2.2.1 ≤ 511 ∧ f.2.2.2 ≤ 11 := fun f hf => by
    have := fix_keeps hf
    unfold KF at this
    omega
  constructor
  · intro a b m hm
    obtain ⟨o, ho, hh⟩ := mem_bds.1 hm
    rcases List.mem_append.1 ho with ho | ho
    · obtain ⟨f, h1, rfl⟩ := List.mem_map.1 ho
      have := hf f h1
      unfold fOb fX at hh
      dsimp only at hh
      omega
    · obtain ⟨s, h1, rfl⟩ := List.mem_map.1 ho
      have := hs s h1
      unfold sOb sX at hh
      dsimp only at hh
      omega
  · intro a b m hm
    obtain ⟨o, ho, hh⟩ := mem_bds.1 hm
    rcases List.mem_append.1 ho with ho | ho
    · obtain ⟨f, h1, rfl⟩ := List.mem_map.1 ho
      have := hf f h1
      unfold fOb fY at hh
      dsimp only at hh
      omega
    · obtain ⟨s, h1, rfl⟩ := List.mem_map.1 ho
      have := hs s h1
      unfold sOb sY at hh
      dsimp only at hh
      omega
theorem small_bd {c : Net} (h : NOK c) (ho : okN c = true) (hS : Small c) {i j : Nat} (hi : i ≤ c.1.toNat) (hj : j ≤ c.1.toNat) (hc : Cn c i j) : (-8656 ≤ fX' c i j ∧ fX' c i j ≤ 8656) ∧ -8656 ≤ fY' c i j ∧ fY' c i j ≤ 8656 := by
  have h8 := h.n8
  have h0 := h.n0
  have hB : (c.1.toNat : Int) * 1082 ≤ 8656 := by omega
  have aX := axisX h ho
  have aY := axisY h ho
  have oX := (okN_iff.1 ho).1
  have oY := (okN_iff.1 ho).2
  have k1 := dist_le (sysX h) oX (by omega) hS.1 (axX_n h) hi hj (aX.wk i j hi hj hc)
  have k2 := dist_le (sysX h) oX (by omega) hS.1 (axX_n h) hj hi (aX.wk j i hj hi hc.symm)
  have k3 := dist_le (sysY h) oY (by omega) hS.2 (axY_n h) hi hj (aY.wk i j hi hj hc)
  have k4 := dist_le (sysY h) oY (by omega) hS.2 (axY_n h) hj hi (aY.wk j i hj hi hc.symm)
  have t1 := aX.tri i j i hi hj hi hc hc.symm
  have t2 := aY.tri i j i hi hj hi hc hc.symm
  rw [aX.self i hi] at t1
  rw [aY.self i hi] at t2
  have k1 : fX' c i j ≤ (c.1.toNat : Int) * 1082 := k1
  have k2 : fX' c j i ≤ (c.1.toNat : Int) * 1082 := k2
  have k3 : fY' c i j ≤ (c.1.toNat : Int) * 1082 := k3
  have k4 : fY' c j i ≤ (c.1.toNat : Int) * 1082 := k4
  omega
/-! ### potentials along one axis -/
/-- The highest places, where points are tied. -/
theorem hi_keep {c : Net} {f : Tab} {bs : List (Int × Int × Int)} (A : Axis c f bs) {a b : Nat} {m : Int} (ha : a ≤ c.1.toNat) (hb : b ≤ c.1.toNat) (hm : ((a : Int), (b : Int), m) ∈ bs) (hc : Cn c c.1.toNat a) : f c.1.toNat b ≤ f c.1.toNat a + m :=
  A.le _ _ _ (Nat.le_refl _) hb ((A.wk _ _ (Nat.le_refl _) ha hc).snoc hm)
theorem from_keep {c : Net} {f : Tab} {bs : List (Int × Int × Int)} (A : Axis c f bs) {p a b : Nat} {m : Int} (hp : p ≤ c.1.toNat) (ha : a ≤ c.1.toNat) (hb : b ≤ c.1.toNat) (hm : ((a : Int), (b : Int), m) ∈ bs) (hc : Cn c p a) : f p b ≤ f p a + m :=
  A.le _ _ _ hp hb ((A.wk _ _ hp ha hc).snoc hm)
theorem lo_keep {c : Net} {f : Tab} {bs : List (Int × Int × Int)} (A : Axis c f bs) {a b : Nat} {m : Int} (ha : a ≤ c.1.toNat) (hb : b ≤ c.1.toNat) (hm : ((a : Int), (b : Int), m) ∈ bs) (hc : Cn c b c.1.toNat) : f a c.1.toNat ≤ m + f b c.1.toNat :=
  A.le _ _ _ ha (Nat.le_refl _) (.cons hm (A.wk _ _ hb (Nat.le_refl _) hc))
theorem bds_le {c : Net} (h : NOK c) {d1 : Fix → Int} {d2 : Sgt → Int} (hd : dOk d1 d2 c) {a b : Nat} {m : Int} (hm : ((a : Int), (b : Int), m) ∈ bds (obs d1 d2 c)) : a ≤ c.1.toNat ∧ b ≤ c.1.toNat := by
  obtain ⟨o, ho, hh⟩ := mem_bds.1 hm
  have := obs_mem h hd ho
  omega
/-- What allowed places owe in one axis. -/
def K1 (d1 : Fix → Int) (d2 : Sgt → Int) (c : Net) (u : Nat → Int) : Prop := (∀ f ∈ c.2.1, -f.2.2.2 ≤ u f.1.toNat - d1 f ∧ u f.1.toNat - d1 f ≤ f.2.2.2) ∧ ∀ s ∈ c.2.2, -s.2.2.2.2 ≤ u s.2.1.toNat - u s.1.toNat - d2 s ∧ u s.2.1.toNat - u s.1.toNat - d2 s ≤ s.2.2.2.2
theorem k1_of {c : Net} (h : NOK c) {d1 : Fix → Int} {d2 : Sgt → Int} {u : Nat → Int} (h0 : u c.1.toNat = 0) (hk : ∀ a b : Nat, ∀ m : Int, ((a : Int), (b : Int), m) ∈ bds (obs d1 d2 c) → u b - u a ≤ m) : K1 d1 d2 c u := by
  have hn0 := h.n0
  constructor
  · intro f hf
    have hb := h.fx f hf
    have ho : fOb d1 c.1 f ∈ obs d1 d2 c := List.mem_append.2 (.inl (List.mem_map.2 ⟨f, hf, rfl⟩))
    have g1 := hk c.1.toNat f.1.toNat (d1 f + f.2.2.2) (mem_bds.2 ⟨_, ho, .inl ⟨by show ((c.1.toNat : Nat) : Int) = c.1; omega, by show ((f.1.toNat : Nat) : Int) = f.1; omega, rfl⟩⟩)
    have g2 := hk f.1.toNat c.1.toNat (f.2.2.2 - d1 f) (mem_bds.2 ⟨_, ho, .inr ⟨by show ((f.1.toNat : Nat) : Int) = f.1; omega, by show ((c.1.toNat : Nat) : Int) = c.1; omega, rfl⟩⟩)
    rw [h0] at g1 g2
    omega
  · intro s hs
    have hb := h.sg s hs
    have ho : sOb d2 s ∈ obs d1 d2 c := List.mem_append.2 (.inr (List.mem_map.2 ⟨s, hs, rfl⟩))
    have g1 := hk s.1.toNat s.2.1.toNat (d2 s + s.2.2.2.2) (mem_bds.2 ⟨_, ho, .inl ⟨by show ((s.1.toNat : Nat) : Int) = s.1; omega, by show ((s.2.1.toNat : Nat) : Int) = s.2.1; omega, rfl⟩⟩)
    have g2 := hk s.2.1.toNat s.1.toNat (s.2.2.2.2 - d2 s) (mem_bds.2 ⟨_, ho, .inr ⟨by show ((s.2.1.toNat : Nat) : Int) = s.2.1; omega, by show ((s.1.toNat : Nat) : Int) = s.1; omega, rfl⟩⟩)
    omega
/-- Highest or lowest places of one axis. -/
def corn (c : Net) (f : Tab) (v : Int) (i : Nat) : Int := if v = 0 then -f i c.1.toNat else f c.1.toNat i
theorem corn_k1 {c : Net} (h : NOK c) {d1 : Fix → Int} {d2 : Sgt → Int} (hd : dOk d1 d2 c) {f : Tab} (A : Axis c f (bds (obs d1 d2 c))) (hall : ∀ i, i < c.1.toNat → Cn c c.1.toNat i) (v : Int) : K1 d1 d2 c (corn c f v) := by
  have hall' : ∀ i, i ≤ c.1.toNat → Cn c c.1.toNat i := fun i hi => by
    by_cases e : i = c.1.toNat
    · subst e; exact .refl _ _
    · exact hall i (by omega)
  refine k1_of h ?_ fun a b m hm => ?_
  · unfold corn
    rw [A.self _ (Nat.le_refl _)]
    split <;> rfl
  · obtain ⟨ha, hb⟩ := bds_le h hd hm
    unfold corn
    split
    · have := lo_keep A ha hb hm (hall' b hb).symm
      omega
    · have := hi_keep A ha hb hm (hall' a ha)
      omega
theorem k_of {c : Net} {g : Nat → Int × Int} (hx : K1 fX sX c fun i => (g i).1) (hy : K1 fY sY c fun i => (g i).2) : (c.2.1.all (kpF g) && c.2.2.all (kpS g)) = true := by
  rw [Bool.and_eq_true, List.all_eq_true, List.all_eq_true]
  constructor
  · intro f hf
    unfold kpF
    rw [Bool.and_eq_true, inB_iff, inB_iff]
    exact ⟨hx.1 f hf, hy.1 f hf⟩
  · intro s hs
    unfold kpS
    rw [Bool.and_eq_true, inB_iff, inB_iff]
    exact ⟨hx.2 s hs, hy.2 s hs⟩
/-! ### a further fix -/
def addF (c : Net) (f : Fix) : Net := (c.1, c.2.1 ++ [f], c.2.2)
theorem addF_mem {c : Net} {f : Fix} {d1 : Fix → Int} {d2 : Sgt → Int} {b : Int × Int × Int} (h : b ∈ bds (obs d1 d2 (addF c f))) : b ∈ bds (obs d1 d2 c) ∨ b ∈ two (fOb d1 c.1 f) := by
  obtain ⟨a, b', m⟩ := b
  obtain ⟨o, ho, hh⟩ := mem_bds.1 h
  rcases List.mem_append.1 ho with ho | ho
  · obtain ⟨f', hf', rfl⟩ := List.mem_map.1 ho
    rcases List.mem_append.1 hf' with hf' | hf'
    · exact .inl (mem_bds.2 ⟨_, List.mem_append.2 (.inl (List.mem_map.2 ⟨f', hf', rfl⟩)), hh⟩)
    · rw [List.mem_singleton.1 hf'] at hh
      have : (a, b', m) ∈ bds [fOb d1 c.1 f] := mem_bds.2 ⟨_, List.mem_singleton.2 rfl, hh⟩
      exact .inr (by simpa [bds] using this)
  · exact .inl (mem_bds.2 ⟨o, List.mem_append.2 (.inr ho), hh⟩)
theorem addF_sub {c : Net} {f : Fix} {d1 : Fix → Int} {d2 : Sgt → Int} {b : Int × Int × Int} (h : b ∈ bds (obs d1 d2 c)) : b ∈ bds (obs d1 d2 (addF c f)) := by
  obtain ⟨a, b', m⟩ := b
  obtain ⟨o, ho, hh⟩ := mem_bds.1 h
  refine mem_bds.2 ⟨o, ?_, hh⟩
  rcases List.mem_append.1 ho with ho | ho
  · obtain ⟨f', hf', rfl⟩ := List.mem_map.1 ho
    exact List.mem_append.2 (.inl (List.mem_map.2 ⟨f', List.mem_append.2 (.inl hf'), rfl⟩))
  · exact List.mem_append.2 (.inr ho)
theorem addF_two {c : Net} {f : Fix} {d1 : Fix → Int} {d2 : Sgt → Int} {b : Int × Int × Int} (h : b ∈ two (fOb d1 c.1 f)) : b ∈ bds (obs d1 d2 (addF c f)) := by
  obtain ⟨a, b', m⟩ := b
  have h2 : (a, b', m) ∈ bds [fOb d1 c.1 f] := by simpa [bds] using h
  obtain ⟨o, ho, hh⟩ := mem_bds.1 h2
  rw [List.mem_singleton.1 ho] at hh
  exact mem_bds.2 ⟨_, List.mem_append.2 (.inl (List.mem_map.2 ⟨f, List.mem_append.2 (.inr (List.mem_singleton.2 rfl)), rfl⟩)), hh⟩
/-- With a fix of p at v, without tolerance, one axis is consistent exactly if v is in the box. -/
theorem fix_axis {c : Net} (h : NOK c) (ho : okN c = true) {d1 : Fix → Int} {d2 : Sgt → Int} (hd : dOk d1 d2 c) {f : Fix} (h2 : NOK (addF c f)) (hd2 : dOk d1 d2 (addF c f)) (hs0 : ovS (c.1 + 1, bds (obs d1 d2 c)) = false) (A : Axis c (fwS (c.1 + 1, bds (obs d1 d2 c))) (bds (obs d1 d2 c))) {p : Nat} (hp : p < c.1.toNat) (hf : f.1 = (p : Int)) (ht : f.2.2.2 = 0) (hc : Cn c c.1.toNat p) :
    ovS (c.1 + 1, bds (obs d1 d2 (addF c f))) = false ↔ (-fwS (c.1 + 1, bds (obs d1 d2 c)) p c.1.toNat ≤ d1 f ∧ d1 f ≤ fwS (c.1 + 1, bds (obs d1 d2 c)) c.1.toNat p) := by
  have h0 := h.n0
  have hN : ((c.1.toNat : Nat) : Int) = c.1 := by omega
  have hs2 : sys (c.1 + 1, bds (obs d1 d2 (addF c f))) = true := ax_sys h2 hd2
  have hn2 : (c.1 + 1).toNat = c.1.toNat + 1 := by omega
  have e1 : (((c.1.toNat : Nat) : Int), (p : Int), d1 f) ∈ bds (obs d1 d2 (addF c f)) := addF_two (by unfold two fOb; rw [hN, hf, ht]; simp)
  have e2 : ((p : Int), ((c.1.toNat : Nat) : Int), -d1 f) ∈ bds (obs d1 d2 (addF c f)) := addF_two (by unfold two fOb; rw [hN, hf, ht]; simp)
  have sub : ∀ {i j : Nat} {w : Int}, Wk (bds (obs d1 d2 c)) i j w → Wk (bds (obs d1 d2 (addF c f))) i j w := fun hw => hw.mono fun b hb => addF_sub hb
  have wNp := sub (A.wk _ _ (Nat.le_refl _) (by omega) hc)
  have wpN := sub (A.wk _ _ (by omega) (Nat.le_refl _) hc.symm)
  constructor
  · intro hov
    constructor
    · refine Int.not_lt.1 fun hlt => ?_
      have := ov_of_walk hs2 (i := p) (by show p < (c.1 + 1).toNat; omega) (w := fwS (c.1 + 1, bds (obs d1 d2 c)) p c.1.toNat + d1 f) (by omega) (wpN.snoc e1)
      rw [hov] at this
      cases this
    · refine Int.not_lt.1 fun hlt => ?_
      have := ov_of_walk hs2 (i := c.1.toNat) (by show c.1.toNat < (c.1 + 1).toNat; omega) (w := fwS (c.1 + 1, bds (obs d1 d2 c)) c.1.toNat p + -d1 f) (by omega) (wNp.snoc e2)
      rw [hov] at this
      cases this
  · rintro ⟨g1, g2⟩
    have hs1 : sys (c.1 + 1, bds (obs d1 d2 c)) = true := ax_sys h hd
    cases hov : ovS (c.1 + 1, bds (obs d1 d2 (addF c f))) with
    | false => rfl
    | true =>
      exfalso
      obtain ⟨i, w, _, hw, hk⟩ := ov_walk hs2 hov
      classical
      let F := fwS (c.1 + 1, bds (obs d1 d2 c))
      let s0 := sol (c.1 + 1, bds (obs d1 d2 c))
      have G1 : -F p c.1.toNat ≤ d1 f := by show -fwS (c.1 + 1, bds (obs d1 d2 c)) p c.1.toNat ≤ d1 f; omega
      have G2 : d1 f ≤ F c.1.toNat p := by show d1 f ≤ fwS (c.1 + 1, bds (obs d1 d2 c)) c.1.toNat p; omega
      let u : Nat → Int := fun i => if Cn c c.1.toNat i then min (F c.1.toNat i) (d1 f + F p i) else s0 i
      have hu : ∀ i, Cn c c.1.toNat i → u i = min (F c.1.toNat i) (d1 f + F p i) := fun i hi => if_pos hi
      have hu2 : ∀ i, ¬ Cn c c.1.toNat i → u i = s0 i := fun i hi => if_neg hi
      have uN : u c.1.toNat = 0 := by
        rw [hu _ (.refl _ _)]
        have := A.self c.1.toNat (Nat.le_refl _)
        show min (F c.1.toNat c.1.toNat) (d1 f + F p c.1.toNat) = 0
        have : F c.1.toNat c.1.toNat = 0 := this
        omega
      have uP : u p = d1 f := by
        rw [hu _ hc]
        have := A.self p (by omega)
        have : F p p = 0 := this
        show min (F c.1.toNat p) (d1 f + F p p) = d1 f
        omega
      have keep : ∀ a b : Nat, ∀ m : Int, ((a : Int), (b : Int), m) ∈ bds (obs d1 d2 (addF c f)) → u b - u a ≤ m := by
        intro a b m hm
        rcases addF_mem hm with hm | hm
        · obtain ⟨ha, hb⟩ := bds_le h hd hm
          have hedge : Cn c a b := by
            obtain ⟨m', hm'⟩ := (bds_other (d1' := fX) (d2' := sX) hm).1
            exact ⟨_, (Wk.nil a).snoc hm'⟩
          by_cases hca : Cn c c.1.toNat a
          · have hcb := hca.trans hedge
            have k1 := hi_keep A ha hb hm hca
            have k2 := from_keep A (p := p) (by omega) ha hb hm (hc.symm.trans hca)
            rw [hu _ hca, hu _ hcb]
            have k1 : F c.1.toNat b ≤ F c.1.toNat a + m := k1
            have k2 : F p b ≤ F p a + m := k2
            omega
          · have hcb : ¬ Cn c c.1.toNat b := fun hh => hca (hh.trans hedge.symm)
            rw [hu2 _ hca, hu2 _ hcb]
            exact sol_keep hs1 hs0 a b m hm
        · unfold two fOb at hm
          rw [ht] at hm
          rcases List.mem_cons.1 hm with hm | hm
          · injection hm with q1 q2
            injection q2 with q2 q3
            have q1 : (a : Int) = c.1 := q1
            have q2 : (b : Int) = f.1 := q2
            have ea : a = c.1.toNat := by omega
            have eb : b = p := by omega
            rw [ea, eb, uN, uP]
            dsimp only at q3
            omega
          · rcases List.mem_cons.1 hm with hm | hm
            · injection hm with q1 q2
              injection q2 with q2 q3
              have q1 : (a : Int) = f.1 := q1
              have q2 : (b : Int) = c.1 := q2
              have ea : a = p := by omega
              have eb : b = c.1.toNat := by omega
              rw [ea, eb, uN, uP]
              dsimp only at q3
              omega
            · cases hm
      have := keep_walk keep hk
      omega
end Go.Proofs.Ytklddmmnggcffaa
/-
  Network: the law NetworkExact.
  No conditions.
-/
namespace Go.Proofs.Ytklddmmnggcffaa
open Go Go.Abs Go.PE
set_option linter.unusedVariables false
def clR (x : Sys) : List (List Int) × Int := if ovS x = true then ([], 90) else (rt x.1.toNat (fun _ => x.1.toNat) (fwS x), 0)
theorem m12_cl {x : Sys} (hs : sys x = true) : m12 x = some (clR x) := by
  unfold clR
  cases ho : ovS x with
  | true => rw [if_pos rfl]; exact m12_bad hs ho
  | false => rw [if_neg (by intro h; cases h)]; exact m12_good hs ho
theorem clR_ok (x : Sys) : eqM (clR x).2 0 = !ovS x := by
  unfold clR
  cases ovS x <;> rfl
theorem idx2 {a b v : Int} (h0 : 0 ≤ v) (h1 : v < 2) : idxM [a, b] v = some (if v = 0 then a else b) := by
  by_cases e : v = 0
  · subst e; rfl
  · have : v = 1 := by omega
    subst this
    rfl
theorem m16_eq {c : Net} (h : NOK c) : ∃ b, m16 c = some b ∧ (b = true ↔ ∀ i, i < c.1.toNat → td c i = true) := by
  have h0 := h.n0
  have h8 := h.n8
  obtain ⟨b, q1, q2⟩ := all_loop (n := c.1.toNat) (td c) (body := fun (s : Int) =>
            bif ltM s (lenM (row c.1.toNat (td c))) then
              Option.bind (idxM (row c.1.toNat (td c)) s) fun (r : Bool) =>
                bif PE.notM r then some (Sum.inr (Sum.inr false))
                else some (Sum.inl (IntKind.wrap IntKind.i64 (s + (1 : Int))))
            else some (Sum.inr (Sum.inl ()))) (fun k hk => by
    rw [lenR, ltI (by omega), cond_true, row_idx hk, Option.bind_some, wrap_in (by omega) (by omega)]
    cases td c k <;> rfl) (by rw [lenR, geI (by omega), cond_false])
  refine ⟨b, ?_, q2⟩
  unfold m16
  refine bind_of (m11_eq h) ?_
  refine bind_of q1 ?_
  cases b <;> rfl
def corX (v : Int) (A : Bx × Int) : Int := if pk v 2 = 0 then A.1.1 else A.1.2.1
def corY (v : Int) (A : Bx × Int) : Int := if pk (v.tdiv 2) 2 = 0 then A.1.2.2.1 else A.1.2.2.2
theorem law3_ok (x : NNum × Int × Int × Int × Int) (h : NN x.1) (h1 : i64 x.2.1) (h2 : i64 x.2.2.1) (h3 : i64 x.2.2.2.1) (h4 : i64 x.2.2.2.2) : m3 x = some true := by
  obtain ⟨x, p0, dx, dy, cr⟩ := x
  have hc := made_ok x
  have hS := made_small x
  unfold m3
  refine bind_of sane_ok ?_
  rw [notT, cond_false]
  refine bind_of (m9_eq h) ?_
  have hcn : (madeN x).1.toNat = nP x := by show ((nP x : Int)).toNat = _; rw [Int.toNat_natCast]
  have hc1 : (madeN x).1 = (nP x : Int) := rfl
  have hn8 := (nP_bd x).1
  have hfl : (madeN x).2.1.length ≤ 6 := by
    show (row (nF x) (fxf x)).length ≤ 6
    rw [row_length]
    unfold nF
    split <;> omega
  generalize madeN x = c at *
  refine bind_of (m10_eq hc) (bind_of (m11_eq hc) (bind_of (m13_X hc) (bind_of (m12_cl (sysX hc)) (bind_of (m13_Y hc) (bind_of (m12_cl (sysY hc)) ?_)))))
  dsimp only
  rw [clR_ok, clR_ok]
  have e0 : eqbM (!okN c) (PE.andM (!ovS (axX c)) (!ovS (axY c))) = false := by
    unfold okN
    cases ovS (axX c) <;> cases ovS (axY c) <;> rfl
  rw [e0, cond_false]
  have k1 := pk_lo (c := cr) (n := 2) (by omega)
  have k2 := pk_hi (c := cr) (n := 2) (by omega)
  have k3 := pk_lo (c := cr.tdiv 2) (n := 2) (by omega)
  have k4 := pk_hi (c := cr.tdiv 2) (n := 2) (by omega)
  have f1 : eqM (100 : Int) 0 = false := rfl
  have f2 : eqM (100 : Int) 100 = true := rfl
  have f3 : eqM (0 : Int) 0 = true := rfl
  have f4 : eqbM false false = true := rfl
  have f5 : eqbM true true = true := rfl
  have hcor : ∀ A : Bx × Int, ∀ k : Nat, ∀ g : Nat → Int × Int, k < nP x → g k = (corX cr A, corY cr A) → (Option.bind (m15 (cr, (2 : Int))) fun (r_18 : Int) =>
                                                          Option.bind (idxM [A.1.1, A.1.2.1] r_18) fun (r_19 : Int) =>
                                                            Option.bind (divM IntKind.i64 cr (2 : Int))
                                                              fun (r_20 : Int) =>
                                                              Option.bind (m15 (r_20, (2 : Int))) fun (r_21 : Int) =>
                                                                Option.bind (idxM [A.1.2.2.1, A.1.2.2.2] r_21)
                                                                  fun (r_22 : Int) =>
                                                                  Option.bind (appM (nat_lit 16) (row k g) [(r_19, r_22)])
                                                                    fun (r : List (Int × Int)) =>
                                                                    some
                                                                      (Sum.inl (β := List (Int × Int) ⊕ Bool)
                                                                        (IntKind.wrap IntKind.i64 ((k : Int) + (1 : Int)), r))) = some (Sum.inl ((k : Int) + 1, row (k + 1) g)) := by
    intro A k g hk hg
    rw [m15_eq h4 (by omega), Option.bind_some, idx2 k1 k2, Option.bind_some, divM_pos (by omega), wrap_tdiv h4 (by omega), Option.bind_some, m15_eq (tdiv_ok h4 (by omega)) (by omega), Option.bind_some, idx2 k3 k4, Option.bind_some]
    refine bind_of (app_rowOf (g := g) (hg ▸ rfl) (by show (k + 1) * 16 ≤ 140737488355328; omega)) ?_
    rw [wrap_in (by omega) (by omega)]
  cases ho : okN c with
  | false =>
    refine bind_of (x := Sum.inl (row (nP x) fun _ => ((0 : Int), (0 : Int)))) ?_ ?_
    · refine count_loop (fun k => row k fun _ => ((0 : Int), (0 : Int))) (nP x) (fun k hk => ?_) ?_
      · dsimp only
        have hb : m14 (c, (k : Int)) = some err := by
          rw [m14_eq, boxQ_in hc (by omega), apM_no ho]
        rw [ltI (by omega), cond_true]
        refine bind_of hb ?_
        have := hcor err k (fun _ => ((0 : Int), (0 : Int))) hk (by unfold corX corY err; dsimp only; split <;> split <;> rfl)
        exact this
      · dsimp only
        rw [geI (by omega), cond_false]
    · rfl
  | true =>
    have aX := axisX hc ho
    have aY := axisY hc ho
    have oX := (okN_iff.1 ho).1
    have oY := (okN_iff.1 ho).2
    have nX := axX_n hc
    have nY := axY_n hc
    have ci := fun i j hi hj => cnB_iff hc ho (i := i) (j := j) hi hj
    have eX : (clR (axX c)).1 = rt (nP x + 1) (fun _ => nP x + 1) (fX' c) := by
      unfold clR
      rw [if_neg (by rw [oX]; intro h; cases h), nX, hcn]
    have eY : (clR (axY c)).1 = rt (nP x + 1) (fun _ => nP x + 1) (fY' c) := by
      unfold clR
      rw [if_neg (by rw [oY]; intro h; cases h), nY, hcn]
    rw [eX, eY, hcn, hc1]
    rw [hcn] at ci
    have tdk : ∀ k, k < nP x → td c k = cnB c (nP x) k := fun k hk => by
      rw [Bool.eq_iff_iff]
      have := td_iff hc ho (p := k) (by omega)
      rw [hcn] at this
      rw [this, ci _ _ (by omega) (by omega)]
    have ec0 : ((((nP x : Nat) : Int), c.2.1, c.2.2) : Net) = c := by rw [← hc1]
    have tdk' : ∀ k, k < nP x → td (((nP x : Nat) : Int), c.2.1, c.2.2) k = cnB c (nP x) k := fun k hk => by rw [ec0]; exact tdk k hk
    refine bind_of (x := Sum.inl (row (nP x) fun i => (corX cr (apM c (nP x) i), corY cr (apM c (nP x) i)))) ?_ ?_
    · refine count_loop (fun k => row k fun i => (corX cr (apM c (nP x) i), corY cr (apM c (nP x) i))) (nP x) (fun k hk => ?_) ?_
      · dsimp only
        have hb : m14 ((((nP x : Nat) : Int), c.2.1, c.2.2), (k : Int)) = some (apM c (nP x) k) := by
          have e : ((((nP x : Nat) : Int), c.2.1, c.2.2) : Net) = c := by rw [← hc1]
          rw [e, m14_eq, boxQ_in hc (by omega), hcn]
        rw [ltI (by omega), cond_true]
        refine bind_of hb ?_
        have hfin := hcor (apM c (nP x) k) k (fun i => (corX cr (apM c (nP x) i), corY cr (apM c (nP x) i))) hk rfl
        rw [Bool.not_true, notF, cond_true, row_idx hk, Option.bind_some, tdk' k hk]
        have p1 : nP x < nP x + 1 := by omega
        have p2 : k < nP x + 1 := by omega
        cases hA : cnB c (nP x) k with
        | false =>
          rw [apM_far hA] at hfin ⊢
          exact hfin
        | true =>
          have cA := (ci _ _ (by omega) (by omega)).1 hA
          have bA := small_bd hc ho hS (i := nP x) (j := k) (by omega) (by omega) cA
          have bB := small_bd hc ho hS (i := k) (j := nP x) (by omega) (by omega) cA.symm
          have t1 := aX.tri (nP x) k (nP x) (by omega) (by omega) (by omega) cA cA.symm
          have t2 := aY.tri (nP x) k (nP x) (by omega) (by omega) (by omega) cA cA.symm
          rw [aX.self (nP x) (by omega)] at t1
          rw [aY.self (nP x) (by omega)] at t2
          rw [apM_yes ho hA] at hfin ⊢
          have w1 : IntKind.wrap IntKind.i64 (negM (fX' c k (nP x))) = -fX' c k (nP x) := wrap_in (n := -fX' c k (nP x)) (by omega) (by omega)
          have w2 : IntKind.wrap IntKind.i64 (negM (fY' c k (nP x))) = -fY' c k (nP x) := wrap_in (n := -fY' c k (nP x)) (by omega) (by omega)
          have z1 : eqM (boxR c (nP x) k).2.1 (fX' c (nP x) k) = true := eqI rfl
          have z2 : eqM (boxR c (nP x) k).1 (-fX' c k (nP x)) = true := eqI rfl
          have z3 : eqM (boxR c (nP x) k).2.2.2 (fY' c (nP x) k) = true := eqI rfl
          have z4 : eqM (boxR c (nP x) k).2.2.1 (-fY' c k (nP x)) = true := eqI rfl
          have z5 : ltM (boxR c (nP x) k).2.1 (boxR c (nP x) k).1 = false := geI (by unfold boxR; dsimp only; omega)
          have z6 : ltM (boxR c (nP x) k).2.2.2 (boxR c (nP x) k).2.2.1 = false := geI (by unfold boxR; dsimp only; omega)
          simp only [f3, f5, notT, notF, andT, andF, orF, orT, cond_true, cond_false, Option.bind_some, rt_idx p1, rt_idx p2, row_idx p1, row_idx p2, z1, z2, z3, z4, z5, z6, w1, w2]
          exact hfin
      · dsimp only
        rw [geI (by omega), cond_false]
    · dsimp only [Sum.elim_inl]
      rw [Bool.not_true, orF]
      by_cases hz : nP x = 0
      · rw [eqI (by omega), cond_true]
      · rw [neI (by omega), cond_false]
        have ec : ((((nP x : Nat) : Int), c.2.1, c.2.2) : Net) = c := by rw [← hc1]
        obtain ⟨ball, g1, g2⟩ := m16_eq hc
        rw [← ec] at g1
        refine bind_of g1 ?_
        -- the corners are allowed
        have hcorn : ball = true → m17 ((((nP x : Nat) : Int), c.2.1, c.2.2), row (nP x) fun i => (corX cr (apM c (nP x) i), corY cr (apM c (nP x) i))) = some true := fun hb => by
          have hall : ∀ i, i < c.1.toNat → Cn c c.1.toNat i := fun i hi => (td_iff hc ho hi).1 ((g2.1 hb) i hi)
          have heq : ∀ i, i < nP x → (corX cr (apM c (nP x) i), corY cr (apM c (nP x) i)) = (corn c (fX' c) (pk cr 2) i, corn c (fY' c) (pk (cr.tdiv 2) 2) i) := fun i hi => by
            have cA := hall i (by omega)
            rw [hcn] at cA
            rw [apM_yes ho ((ci _ _ (by omega) (by omega)).2 cA)]
            unfold corX corY corn boxR
            rw [hcn]
          have er : (row (nP x) fun i => (corX cr (apM c (nP x) i), corY cr (apM c (nP x) i))) = row c.1.toNat fun i => (corn c (fX' c) (pk cr 2) i, corn c (fY' c) (pk (cr.tdiv 2) 2) i) := by
            rw [hcn]
            exact row_congr heq
          rw [er, ec, m17_row hc (fun i hi => by
            have cA := hall i hi
            have b1 := small_bd hc ho hS (i := c.1.toNat) (j := i) (Nat.le_refl _) (by omega) cA
            have b2 := small_bd hc ho hS (i := i) (j := c.1.toNat) (by omega) (Nat.le_refl _) cA.symm
            unfold corn
            dsimp only
            split <;> split <;> omega)]
          congr 1
          exact k_of (corn_k1 hc hc.dx aX hall _) (corn_k1 hc hc.dy aY hall _)
        refine bind_of (x := ball) (by
          cases hb : ball with
          | false => rfl
          | true => rw [cond_true]; exact hcorn hb) ?_
        have : PE.andM ball (PE.notM ball) = false := by cases ball <;> rfl
        rw [this, cond_false, m15_eq h1 (by omega), Option.bind_some]
        have l1 := pN_lt (c := p0) (n := nP x) (by omega)
        dsimp only
        rw [← pN_eq (c := p0) (n := nP x) (by omega)]
        generalize pN p0 (nP x) = p at *
        rw [row_idx l1, Option.bind_some, tdk' p l1]
        cases hA : cnB c (nP x) p with
        | false => rfl
        | true =>
          rw [notT, cond_false]
          have cA := (ci _ _ (by omega) (by omega)).1 hA
          have hb : m14 ((((nP x : Nat) : Int), c.2.1, c.2.2), (p : Int)) = some (boxR c (nP x) p, 0) := by
            rw [ec, m14_eq, boxQ_in hc (by omega), hcn, apM_yes ho hA]
          refine bind_of hb ?_
          have bA := small_bd hc ho hS (i := nP x) (j := p) (by omega) (by omega) cA
          have bB := small_bd hc ho hS (i := p) (j := nP x) (by omega) (by omega) cA.symm
          have t1 := aX.tri (nP x) p (nP x) (by omega) (by omega) (by omega) cA cA.symm
          have t2 := aY.tri (nP x) p (nP x) (by omega) (by omega) (by omega) cA cA.symm
          rw [aX.self (nP x) (by omega)] at t1
          rw [aY.self (nP x) (by omega)] at t2
          have hbx : boxR c (nP x) p = (-fX' c p (nP x), fX' c (nP x) p, -fY' c p (nP x), fY' c (nP x) p) := rfl
          rw [hbx]
          dsimp only
          rw [wrap_in (n := fX' c (nP x) p - -fX' c p (nP x)) (by omega) (by omega), wrap_in (n := fX' c (nP x) p - -fX' c p (nP x) + 5) (by omega) (by omega), wrap_in (n := fY' c (nP x) p - -fY' c p (nP x)) (by omega) (by omega), wrap_in (n := fY' c (nP x) p - -fY' c p (nP x) + 5) (by omega) (by omega)]
          rw [m15_eq h2 (by omega), Option.bind_some, m15_eq h3 (by omega), Option.bind_some]
          have u1 := pk_lo (c := dx) (n := fX' c (nP x) p - -fX' c p (nP x) + 5) (by omega)
          have u2 := pk_hi (c := dx) (n := fX' c (nP x) p - -fX' c p (nP x) + 5) (by omega)
          have u3 := pk_lo (c := dy) (n := fY' c (nP x) p - -fY' c p (nP x) + 5) (by omega)
          have u4 := pk_hi (c := dy) (n := fY' c (nP x) p - -fY' c p (nP x) + 5) (by omega)
          generalize pk dx (fX' c (nP x) p - -fX' c p (nP x) + 5) = vx at *
          generalize pk dy (fY' c (nP x) p - -fY' c p (nP x) + 5) = vy at *
          rw [wrap_in (n := -fX' c p (nP x) + vx) (by omega) (by omega), wrap_in (n := -fX' c p (nP x) + vx - 2) (by omega) (by omega), wrap_in (n := -fY' c p (nP x) + vy) (by omega) (by omega), wrap_in (n := -fY' c p (nP x) + vy - 2) (by omega) (by omega)]
          generalize hax : -fX' c p (nP x) + vx - 2 = ax at *
          generalize hay : -fY' c p (nP x) + vy - 2 = ay at *
          refine bind_of (x := c.2.1) (by rw [appM_of (by simp; omega)]; rfl) ?_
          refine bind_of (appM_of (by simp; omega)) ?_
          have hf : ∃ f : Fix, f = ((p : Int), ax, ay, 0) := ⟨_, rfl⟩
          obtain ⟨f, hf⟩ := hf
          rw [← hf]
          have ha2 : ((((nP x : Nat) : Int), c.2.1 ++ [f], c.2.2) : Net) = addF c f := by unfold addF; rw [← hc1]
          have hc2 : NOK (addF c f) := ⟨hc.n0, hc.n8, by show (c.2.1 ++ [f]).length ≤ 8; simp; omega, hc.sl, fun f' hf' => by
            rcases List.mem_append.1 hf' with hf' | hf'
            · exact hc.fx f' hf'
            · rw [List.mem_singleton.1 hf', hf]
              show (0 : Int) ≤ (p : Int) ∧ (p : Int) < c.1 ∧ _
              dsimp only
              omega, hc.sg⟩
          have m10m : m10 (((nP x : Nat) : Int), c.2.1 ++ [f], c.2.2) = some (blL (addF c f), !okN (addF c f)) := by rw [ha2]; exact m10_eq hc2
          refine bind_of m10m ?_
          have m18m : m18 (((nP x : Nat) : Int), c.2.1 ++ [f], c.2.2) = some true := by rw [ha2, m18_eq, nval_iff.2 hc2]
          dsimp only
          rw [f3, cond_true]
          refine bind_of m18m ?_
          rw [andT, cond_true]
          have cA' : Cn c c.1.toNat p := by rw [hcn]; exact cA
          have q1 := fix_axis hc ho hc.dx hc2 hc2.dx oX (A := aX) (p := p) (by omega) (by rw [hf]) (by rw [hf]) cA'
          have q2 := fix_axis hc ho hc.dy hc2 hc2.dy oY (A := aY) (p := p) (by omega) (by rw [hf]) (by rw [hf]) cA'
          have d1 : fX f = ax := by rw [hf]; rfl
          have d2 : fY f = ay := by rw [hf]; rfl
          rw [d1, hcn] at q1
          rw [d2, hcn] at q2
          have q1 : ovS (axX (addF c f)) = false ↔ -fX' c p (nP x) ≤ ax ∧ ax ≤ fX' c (nP x) p := q1
          have q2 : ovS (axY (addF c f)) = false ↔ -fY' c p (nP x) ≤ ay ∧ ay ≤ fY' c (nP x) p := q2
          have hin : m19 ((-fX' c p (nP x), fX' c (nP x) p, -fY' c p (nP x), fY' c (nP x) p), ax, ay) = some (okN (addF c f)) := by
            unfold m19
            dsimp only
            congr 1
            rw [Bool.eq_iff_iff, okN_iff, q1, q2]
            show (((decide _ && decide _) && decide _) && decide _) = true ↔ _
            simp only [Bool.and_eq_true, decide_eq_true_eq]
            constructor
            · rintro ⟨⟨⟨a1, a2⟩, a3⟩, a4⟩; exact ⟨⟨a1, a2⟩, a3, a4⟩
            · rintro ⟨⟨a1, a2⟩, a3, a4⟩; exact ⟨⟨⟨a1, a2⟩, a3⟩, a4⟩
          refine bind_of hin ?_
          cases okN (addF c f) <;> rfl
end Go.Proofs.Ytklddmmnggcffaa
/-
  Network: what is known of the integers that determine a network.
  No conditions.
-/
namespace Go.Proofs.Ytklddmmnggcffaa
open Go Go.Abs Go.PE
theorem nn_ok {x : NNum} (h : InR (.pair (.list (.pair tI tI)) (.pair (.list tI) (.pair (.list (.pair tI (.pair tI (.pair tI tI)))) (.pair (.list (.pair tI (.pair tI (.pair tI (.pair tI tI))))) (.pair tI (.pair tI tI)))))) x) : NN x := by
  obtain ⟨⟨_, h1⟩, ⟨_, h2⟩, ⟨_, h3⟩, ⟨_, h4⟩, h5, h6, h7⟩ := h
  refine ⟨fun p hp => ?_, fun v hv => ?_, fun f hf => ?_, fun s hs => ?_, h5, h6, h7⟩
  · obtain ⟨i, hi, rfl⟩ := List.mem_iff_getElem.1 hp
    exact h1 i _ (List.getElem?_eq_getElem hi)
  · obtain ⟨i, hi, rfl⟩ := List.mem_iff_getElem.1 hv
    exact h2 i _ (List.getElem?_eq_getElem hi)
  · obtain ⟨i, hi, rfl⟩ := List.mem_iff_getElem.1 hf
    exact h3 i _ (List.getElem?_eq_getElem hi)
  · obtain ⟨i, hi, rfl⟩ := List.mem_iff_getElem.1 hs
    exact h4 i _ (List.getElem?_eq_getElem hi)
end Go.Proofs.Ytklddmmnggcffaa
