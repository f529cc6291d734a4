/-
  Texts of this proof, put together: F, Bs, Ca, Cb, Cc, Cd, Ce, Cf, Ch, Cm, Cn, Co, Cg.
  No conditions.
-/
import Derived.Test.YtklddmmnggcffaaZ5
set_option linter.all false
/-
  The models with loops of bounded rounds, and that they answer no more than the models (printed by gen_twin.py). No conditions.
-/
namespace Go.Proofs.Ytklddmmnggcffaa
open Go Go.Abs Go.PE Go.Proofs
set_option linter.unusedVariables false
set_option maxRecDepth 100000
set_option maxHeartbeats 0
def m38F : (Int × Int × Int) → Option (Bool) :=
  fun (x : Int × Int × Int) => some (PE.andM (leM x.2.1 x.1) (leM x.1 x.2.2))
theorem le38 (x) : Le (m38F x) (m38 x) := by
  unfold m38F m38
  repeat' first | with_reducible exact Le.refl _ | intro _ | apply Le.bind | apply Le.cond | apply Le.nil | apply Le.loop | apply Le.elim
def m42F : (Int × Int × Int) → Option (Bool) :=
  fun (x : Int × Int × Int) => Option.bind (m38F (x.1, IntKind.wrap IntKind.i64 (negM x.2.2), x.2.2)) fun (r : Bool) => Option.bind (bif r then m38F (x.2.1,
  IntKind.wrap IntKind.i64 (negM x.2.2), x.2.2) else some false) fun (r_1 : Bool) => some (PE.andM r r_1)
theorem le42 (x) : Le (m42F x) (m42 x) := by
  unfold m42F m42
  repeat' first | exact le38 _ | with_reducible exact Le.refl _ | intro _ | apply Le.bind | apply Le.cond | apply Le.nil | apply Le.loop | apply Le.elim
def m18F : (Int × (List (Int × Int × Int × Int)) × List (Int × Int × Int × Int × Int)) → Option (Bool) :=
  fun (x : Int × List (Int × Int × Int × Int) × List (Int × Int × Int × Int × Int)) => Option.bind (m38F (x.1, (0 : Int), (8 : Int))) fun (r : Bool) => bif PE.orM
  (PE.orM (PE.notM r) (ltM (8 : Int) (lenM x.2.1))) (ltM (20 : Int) (lenM x.2.2)) then some false else Option.bind (Option.bind (loopF (fun (s : Int) => bif ltM
  s (lenM x.2.1) then Option.bind (idxM x.2.1 s) fun (r_1 : Int × Int × Int × Int) => Option.bind (m38F (r_1.1, (0 : Int), IntKind.wrap IntKind.i64 (x.1 - (1 :
  Int)))) fun (r_2 : Bool) => Option.bind (bif PE.notM (PE.notM r_2) then m42F (r_1.2.1, r_1.2.2.1, (10000 : Int)) else some false) fun (r_3 : Bool) =>
  Option.bind (bif PE.notM (PE.orM (PE.notM r_2) (PE.notM r_3)) then m38F (r_1.2.2.2, (0 : Int), (1000 : Int)) else some false) fun (r : Bool) => bif PE.orM
  (PE.orM (PE.notM r_2) (PE.notM r_3)) (PE.notM r) then some (Sum.inr (Sum.inr s)) else some (Sum.inl (IntKind.wrap IntKind.i64 (s + (1 : Int)))) else some
  (Sum.inr (Sum.inl ()))) (0 : Int)) fun (o : Unit ⊕ Int) => Sum.elim (fun (t : Unit) => some (-1 : Int)) (fun (t : Int) => some t) o) fun (ov : Int) =>
  Option.bind (bif PE.notM (leM (0 : Int) ov) then Option.bind (Option.bind (loopF (fun (s : Int) => bif ltM s (lenM x.2.2) then Option.bind (idxM x.2.2 s) fun
  (r_1 : Int × Int × Int × Int × Int) => Option.bind (m38F (r_1.1, (0 : Int), IntKind.wrap IntKind.i64 (x.1 - (1 : Int)))) fun (r_2 : Bool) => Option.bind (bif
  PE.notM (PE.notM r_2) then m38F (r_1.2.1, (0 : Int), IntKind.wrap IntKind.i64 (x.1 - (1 : Int))) else some false) fun (r_3 : Bool) => Option.bind (bif PE.notM
  (PE.orM (PE.orM (PE.notM r_2) (PE.notM r_3)) (eqM r_1.1 r_1.2.1)) then m42F (r_1.2.2.1, r_1.2.2.2.1, (10000 : Int)) else some false) fun (r_4 : Bool) =>
  Option.bind (bif PE.notM (PE.orM (PE.orM (PE.orM (PE.notM r_2) (PE.notM r_3)) (eqM r_1.1 r_1.2.1)) (PE.notM r_4)) then m38F (r_1.2.2.2.2, (0 : Int), (1000 :
  Int)) else some false) fun (r : Bool) => bif PE.orM (PE.orM (PE.orM (PE.orM (PE.notM r_2) (PE.notM r_3)) (eqM r_1.1 r_1.2.1)) (PE.notM r_4)) (PE.notM r) then
  some (Sum.inr (Sum.inr s)) else some (Sum.inl (IntKind.wrap IntKind.i64 (s + (1 : Int)))) else some (Sum.inr (Sum.inl ()))) (0 : Int)) fun (o : Unit ⊕ Int) =>
  Sum.elim (fun (t : Unit) => some (-1 : Int)) (fun (t : Int) => some t) o) fun (ov : Int) => some (leM (0 : Int) ov) else some false) fun (ov_1 : Bool) => some
  (PE.andM (PE.notM (leM (0 : Int) ov)) (PE.notM ov_1))
theorem le18 (x) : Le (m18F x) (m18 x) := by
  unfold m18F m18
  repeat' first | exact le38 _ | exact le42 _ | with_reducible exact Le.refl _ | intro _ | apply Le.bind | apply Le.cond | apply Le.nil | apply Le.loop | apply Le.elim
def m53F : (Int × Int) → Option (Int) :=
  fun (x : Int × Int) => some x.1
theorem le53 (x) : Le (m53F x) (m53 x) := by
  unfold m53F m53
  repeat' first | with_reducible exact Le.refl _ | intro _ | apply Le.bind | apply Le.cond | apply Le.nil | apply Le.loop | apply Le.elim
def m54F : (Int × Int) → Option (Int) :=
  fun (x : Int × Int) => some x.2
theorem le54 (x) : Le (m54F x) (m54 x) := by
  unfold m54F m54
  repeat' first | with_reducible exact Le.refl _ | intro _ | apply Le.bind | apply Le.cond | apply Le.nil | apply Le.loop | apply Le.elim
def m32F : (Int × (List (Int × Int × Int × Int)) × List (Int × Int × Int × Int × Int)) → Option ((Int × List (Int × Int × Int)) × Int × List (Int × Int × Int)) :=
  fun (x : Int × List (Int × Int × Int × Int) × List (Int × Int × Int × Int × Int)) => Option.bind (loopF (fun (s : Int × Int × Int × List (Int × Int × Int) ×
  List (Int × Int × Int)) => bif ltM s.1 (lenM x.2.1) then Option.bind (idxM x.2.1 s.1) fun (r : Int × Int × Int × Int) => Option.bind (m53F (r.2.1, r.2.2.1))
  fun (r_1 : Int) => Option.bind (appM (nat_lit 24) s.2.2.2.1 [(x.1, r.1, IntKind.wrap IntKind.i64 (r_1 + r.2.2.2)), (r.1, x.1, IntKind.wrap IntKind.i64
  (r.2.2.2 - r_1))]) fun (r_2 : List (Int × Int × Int)) => Option.bind (m54F (r.2.1, r.2.2.1)) fun (r_3 : Int) => Option.bind (appM (nat_lit 24) s.2.2.2.2
  [(x.1, r.1, IntKind.wrap IntKind.i64 (r_3 + r.2.2.2)), (r.1, x.1, IntKind.wrap IntKind.i64 (r.2.2.2 - r_3))]) fun (r : List (Int × Int × Int)) => some
  (Sum.inl (IntKind.wrap IntKind.i64 (s.1 + (1 : Int)), s.2.1, s.2.2.1, r_2, r)) else some (Sum.inr (s.2.1, s.2.2.1, s.2.2.2.1, s.2.2.2.2))) ((0 : Int),
  IntKind.wrap IntKind.i64 (x.1 + (1 : Int)), IntKind.wrap IntKind.i64 (x.1 + (1 : Int)), [], [])) fun (o : Int × Int × List (Int × Int × Int) × List (Int × Int
  × Int)) => Option.bind (loopF (fun (s : Int × Int × Int × List (Int × Int × Int) × List (Int × Int × Int)) => bif ltM s.1 (lenM x.2.2) then Option.bind (idxM
  x.2.2 s.1) fun (r : Int × Int × Int × Int × Int) => Option.bind (m53F (r.2.2.1, r.2.2.2.1)) fun (r_1 : Int) => Option.bind (appM (nat_lit 24) s.2.2.2.1 [(r.1,
  r.2.1, IntKind.wrap IntKind.i64 (r_1 + r.2.2.2.2)), (r.2.1, r.1, IntKind.wrap IntKind.i64 (r.2.2.2.2 - r_1))]) fun (r_2 : List (Int × Int × Int)) =>
  Option.bind (m54F (r.2.2.1, r.2.2.2.1)) fun (r_3 : Int) => Option.bind (appM (nat_lit 24) s.2.2.2.2 [(r.1, r.2.1, IntKind.wrap IntKind.i64 (r_3 + r.2.2.2.2)),
  (r.2.1, r.1, IntKind.wrap IntKind.i64 (r.2.2.2.2 - r_3))]) fun (r : List (Int × Int × Int)) => some (Sum.inl (IntKind.wrap IntKind.i64 (s.1 + (1 : Int)),
  s.2.1, s.2.2.1, r_2, r)) else some (Sum.inr (s.2.1, s.2.2.1, s.2.2.2.1, s.2.2.2.2))) ((0 : Int), o.1, o.2.1, o.2.2.1, o.2.2.2)) fun (o : Int × Int × List (Int
  × Int × Int) × List (Int × Int × Int)) => some ((o.1, o.2.2.1), o.2.1, o.2.2.2)
theorem le32 (x) : Le (m32F x) (m32 x) := by
  unfold m32F m32
  repeat' first | exact le53 _ | exact le54 _ | with_reducible exact Le.refl _ | intro _ | apply Le.bind | apply Le.cond | apply Le.nil | apply Le.loop | apply Le.elim
def m60F : (Int × Int × Int) → Option (Bool) :=
  fun (x : Int × Int × Int) => some (PE.andM (leM x.2.1 x.1) (leM x.1 x.2.2))
theorem le60 (x) : Le (m60F x) (m60 x) := by
  unfold m60F m60
  repeat' first | with_reducible exact Le.refl _ | intro _ | apply Le.bind | apply Le.cond | apply Le.nil | apply Le.loop | apply Le.elim
def m63F : (Int × Int × Int × Int) → Option (Bool) :=
  fun (x : Int × Int × Int × Int) => Option.bind (m60F (x.2.1, (0 : Int), IntKind.wrap IntKind.i64 (x.1 - (1 : Int)))) fun (r : Bool) => Option.bind (bif r then
  m60F (x.2.2.1, (0 : Int), IntKind.wrap IntKind.i64 (x.1 - (1 : Int))) else some false) fun (r_1 : Bool) => Option.bind (bif PE.andM r r_1 then m60F (x.2.2.2,
  (-1000000000 : Int), (1000000000 : Int)) else some false) fun (r_2 : Bool) => some (PE.andM (PE.andM r r_1) r_2)
theorem le63 (x) : Le (m63F x) (m63 x) := by
  unfold m63F m63
  repeat' first | exact le60 _ | with_reducible exact Le.refl _ | intro _ | apply Le.bind | apply Le.cond | apply Le.nil | apply Le.loop | apply Le.elim
def m36F : (Int × List (Int × Int × Int)) → Option (Bool) :=
  fun (x : Int × List (Int × Int × Int)) => Option.bind (m60F (x.1, (0 : Int), (16 : Int))) fun (r : Bool) => Option.bind (bif PE.andM r (leM (lenM x.2) (60 :
  Int)) then Option.bind (Option.bind (loopF (fun (s : Int) => bif ltM s (lenM x.2) then Option.bind (idxM x.2 s) fun (r_1 : Int × Int × Int) => Option.bind
  (m63F (x.1, r_1.1, r_1.2.1, r_1.2.2)) fun (r : Bool) => bif PE.notM r then some (Sum.inr (Sum.inr s)) else some (Sum.inl (IntKind.wrap IntKind.i64 (s + (1 :
  Int)))) else some (Sum.inr (Sum.inl ()))) (0 : Int)) fun (o : Unit ⊕ Int) => Sum.elim (fun (t : Unit) => some (-1 : Int)) (fun (t : Int) => some t) o) fun (ov
  : Int) => some (leM (0 : Int) ov) else some false) fun (ov : Bool) => some (PE.andM (PE.andM r (leM (lenM x.2) (60 : Int))) (PE.notM ov))
theorem le36 (x) : Le (m36F x) (m36 x) := by
  unfold m36F m36
  repeat' first | exact le60 _ | exact le63 _ | with_reducible exact Le.refl _ | intro _ | apply Le.bind | apply Le.cond | apply Le.nil | apply Le.loop | apply Le.elim
def m86F : (Int × Int) → Option (Int) :=
  fun (x : Int × Int) => bif eqM x.1 x.2 then some (0 : Int) else some (1152921504606846976 : Int)
theorem le86 (x) : Le (m86F x) (m86 x) := by
  unfold m86F m86
  repeat' first | with_reducible exact Le.refl _ | intro _ | apply Le.bind | apply Le.cond | apply Le.nil | apply Le.loop | apply Le.elim
def m64F : Int → Option (List (List Int)) :=
  fun (x : Int) => Option.bind (mkM x x (nat_lit 24) []) fun (r : List (List Int)) => Option.bind (loopF (fun (s : Int × List (List Int)) => bif ltM s.1 x then
  Option.bind (loopF (fun (s_1 : Int × List (List Int)) => bif ltM s_1.1 x then Option.bind (chkM s.1 (lenM s_1.2)) fun (r_1 : Unit) => Option.bind (chkM s.1
  (lenM s_1.2)) fun (r_2 : Unit) => Option.bind (m86F (s.1, s_1.1)) fun (r_3 : Int) => Option.bind (app2M (nat_lit 8) s_1.2 s.1 [r_3]) fun (r_4 : List (List
  Int)) => Option.bind (chkM s.1 (lenM r_4)) fun (r_5 : Unit) => Option.bind (Option.bind (sameM s.1 s.1) fun (x : Unit) => Option.bind (sameM s.1 s.1) fun (x :
  Unit) => chkM s.1 (lenM r_4)) fun (r : Unit) => some (Sum.inl (IntKind.wrap IntKind.i64 (s_1.1 + (1 : Int)), r_4)) else some (Sum.inr s_1.2)) ((0 : Int),
  s.2)) fun (o : List (List Int)) => some (Sum.inl (IntKind.wrap IntKind.i64 (s.1 + (1 : Int)), o)) else some (Sum.inr s.2)) ((0 : Int), r)) fun (o : List (List
  Int)) => some o
theorem le64 (x) : Le (m64F x) (m64 x) := by
  unfold m64F m64
  repeat' first | exact le86 _ | with_reducible exact Le.refl _ | intro _ | apply Le.bind | apply Le.cond | apply Le.nil | apply Le.loop | apply Le.elim
def m56F : (Int × Int) → Option (Int) :=
  fun (x : Int × Int) => bif PE.orM (eqM x.1 (1152921504606846976 : Int)) (eqM x.2 (1152921504606846976 : Int)) then some (1152921504606846976 : Int) else some
  (IntKind.wrap IntKind.i64 (x.1 + x.2))
theorem le56 (x) : Le (m56F x) (m56 x) := by
  unfold m56F m56
  repeat' first | with_reducible exact Le.refl _ | intro _ | apply Le.bind | apply Le.cond | apply Le.nil | apply Le.loop | apply Le.elim
def m37F : (Int × List (Int × Int × Int)) → Option (List (List Int) × Bool) :=
  fun (x : Int × List (Int × Int × Int)) => Option.bind (mkM x.1 x.1 (nat_lit 24) []) fun (r : List (List Int)) => Option.bind (loopF (fun (s : Int × List (List
  Int)) => bif ltM s.1 x.1 then Option.bind (loopF (fun (s_1 : Int × List (List Int)) => bif ltM s_1.1 x.1 then Option.bind (chkM s.1 (lenM s_1.2)) fun (r_1 :
  Unit) => Option.bind (chkM s.1 (lenM s_1.2)) fun (r_2 : Unit) => Option.bind (m86F (s.1, s_1.1)) fun (r_3 : Int) => Option.bind (app2M (nat_lit 8) s_1.2 s.1
  [r_3]) fun (r_4 : List (List Int)) => Option.bind (chkM s.1 (lenM r_4)) fun (r_5 : Unit) => Option.bind (Option.bind (sameM s.1 s.1) fun (x : Unit) =>
  Option.bind (sameM s.1 s.1) fun (x : Unit) => chkM s.1 (lenM r_4)) fun (r : Unit) => some (Sum.inl (IntKind.wrap IntKind.i64 (s_1.1 + (1 : Int)), r_4)) else
  some (Sum.inr s_1.2)) ((0 : Int), s.2)) fun (o : List (List Int)) => some (Sum.inl (IntKind.wrap IntKind.i64 (s.1 + (1 : Int)), o)) else some (Sum.inr s.2))
  ((0 : Int), r)) fun (o : List (List Int)) => Option.bind (loopF (fun (s : Int × List (List Int)) => bif ltM s.1 (lenM x.2) then Option.bind (idxM x.2 s.1) fun
  (r_1 : Int × Int × Int) => Option.bind (chkM r_1.1 (lenM s.2)) fun (r_2 : Unit) => Option.bind (chkM r_1.1 (lenM s.2)) fun (r_3 : Unit) => Option.bind (chkM
  r_1.1 (lenM s.2)) fun (r_4 : Unit) => Option.bind (chkM r_1.1 (lenM s.2)) fun (r_5 : Unit) => Option.bind (Option.bind (idxM s.2 r_1.1) fun (xs : List Int) =>
  chkM r_1.2.1 (lenM xs)) fun (r_6 : Unit) => Option.bind (Option.bind (idxM s.2 r_1.1) fun (xs : List Int) => Option.bind (idxM xs r_1.2.1) fun (x : Int) =>
  some x) fun (r_7 : Int) => Option.bind (Option.bind (idxM s.2 r_1.1) fun (xs : List Int) => chkM r_1.2.1 (lenM xs)) fun (r_8 : Unit) => Option.bind (set2M s.2
  r_1.1 r_1.2.1 fun (x : Int) => some (min r_7 r_1.2.2)) fun (r : List (List Int)) => some (Sum.inl (IntKind.wrap IntKind.i64 (s.1 + (1 : Int)), r)) else some
  (Sum.inr s.2)) ((0 : Int), o)) fun (o_1 : List (List Int)) => Option.bind (loopF (fun (s : Int × List (List Int)) => bif ltM s.1 x.1 then Option.bind (mkM x.1
  x.1 (nat_lit 8) (0 : Int)) fun (r_1 : List Int) => Option.bind (chkM s.1 (lenM s.2)) fun (r_2 : Unit) => Option.bind (chkM s.1 (lenM s.2)) fun (r_3 : Unit) =>
  Option.bind (idxM s.2 s.1) fun (r_4 : List Int) => Option.bind (loopF (fun (s_1 : Int × List (List Int)) => bif ltM s_1.1 x.1 then Option.bind (loopF (fun
  (s_2 : Int × List (List Int)) => bif ltM s_2.1 x.1 then Option.bind (chkM s_1.1 (lenM s_2.2)) fun (r_5 : Unit) => Option.bind (chkM s_1.1 (lenM s_2.2)) fun
  (r_6 : Unit) => Option.bind (chkM s_1.1 (lenM s_2.2)) fun (r_7 : Unit) => Option.bind (chkM s_1.1 (lenM s_2.2)) fun (r_8 : Unit) => Option.bind (Option.bind
  (idxM s_2.2 s_1.1) fun (xs : List Int) => chkM s_2.1 (lenM xs)) fun (r_9 : Unit) => Option.bind (Option.bind (idxM s_2.2 s_1.1) fun (xs : List Int) =>
  Option.bind (idxM xs s_2.1) fun (x : Int) => some x) fun (r_10 : Int) => Option.bind (chkM s_1.1 (lenM s_2.2)) fun (r_11 : Unit) => Option.bind (chkM s_1.1
  (lenM s_2.2)) fun (r_12 : Unit) => Option.bind (Option.bind (idxM s_2.2 s_1.1) fun (xs : List Int) => chkM s.1 (lenM xs)) fun (r_13 : Unit) => Option.bind
  (Option.bind (idxM s_2.2 s_1.1) fun (xs : List Int) => Option.bind (idxM xs s.1) fun (x : Int) => some x) fun (r_14 : Int) => Option.bind (chkM s_2.1 (lenM
  (copyM r_1 r_4))) fun (r_15 : Unit) => Option.bind (idxM (copyM r_1 r_4) s_2.1) fun (r_16 : Int) => Option.bind (m56F (r_14, r_16)) fun (r_17 : Int) =>
  Option.bind (Option.bind (idxM s_2.2 s_1.1) fun (xs : List Int) => chkM s_2.1 (lenM xs)) fun (r_18 : Unit) => Option.bind (set2M s_2.2 s_1.1 s_2.1 fun (x :
  Int) => some (min r_10 r_17)) fun (r : List (List Int)) => some (Sum.inl (IntKind.wrap IntKind.i64 (s_2.1 + (1 : Int)), r)) else some (Sum.inr s_2.2)) ((0 :
  Int), s_1.2)) fun (o : List (List Int)) => some (Sum.inl (IntKind.wrap IntKind.i64 (s_1.1 + (1 : Int)), o)) else some (Sum.inr s_1.2)) ((0 : Int), s.2)) fun
  (o : List (List Int)) => some (Sum.inl (IntKind.wrap IntKind.i64 (s.1 + (1 : Int)), o)) else some (Sum.inr s.2)) ((0 : Int), o_1)) fun (o_2 : List (List Int))
  => Option.bind (loopF (fun (s : Int) => bif ltM s x.1 then Option.bind (chkM s (lenM o_2)) fun (r_1 : Unit) => Option.bind (chkM s (lenM o_2)) fun (r_2 :
  Unit) => Option.bind (Option.bind (idxM o_2 s) fun (xs : List Int) => chkM s (lenM xs)) fun (r_3 : Unit) => Option.bind (Option.bind (idxM o_2 s) fun (xs :
  List Int) => Option.bind (idxM xs s) fun (x : Int) => some x) fun (r : Int) => bif ltM r (0 : Int) then some (Sum.inr (Sum.inr false)) else some (Sum.inl
  (IntKind.wrap IntKind.i64 (s + (1 : Int)))) else some (Sum.inr (Sum.inl ()))) (0 : Int)) fun (o : Unit ⊕ Bool) => Sum.elim (fun (t : Unit) => some (o_2,
  true)) (fun (t : Bool) => some ([], t)) o
theorem le37 (x) : Le (m37F x) (m37 x) := by
  unfold m37F m37
  repeat' first | exact le56 _ | exact le86 _ | with_reducible exact Le.refl _ | intro _ | apply Le.bind | apply Le.cond | apply Le.nil | apply Le.loop | apply Le.elim
def m12F : (Int × List (Int × Int × Int)) → Option (List (List Int) × Int) :=
  fun (x : Int × List (Int × Int × Int)) => Option.bind (m36F (x.1, x.2)) fun (r : Bool) => bif PE.notM r then some ([], (90 : Int)) else Option.bind (m37F (x.1,
  x.2)) fun (r : List (List Int) × Bool) => bif PE.notM r.2 then some ([], (90 : Int)) else some (r.1, (0 : Int))
theorem le12 (x) : Le (m12F x) (m12 x) := by
  unfold m12F m12
  repeat' first | exact le36 _ | exact le37 _ | with_reducible exact Le.refl _ | intro _ | apply Le.bind | apply Le.cond | apply Le.nil | apply Le.loop | apply Le.elim
def m39F : ((Int × (List (Int × Int × Int × Int)) × List (Int × Int × Int × Int × Int)) × Int × Int) → Option ((Int × Int × Int × Int) × Int) :=
  fun (x : (Int × List (Int × Int × Int × Int) × List (Int × Int × Int × Int × Int)) × Int × Int) => Option.bind (m32F (x.1.1, x.1.2.1, x.1.2.2)) fun (r : (Int ×
  List (Int × Int × Int)) × Int × List (Int × Int × Int)) => Option.bind (m12F (r.1.1, r.1.2)) fun (r_1 : List (List Int) × Int) => Option.bind (m12F (r.2.1,
  r.2.2)) fun (r_2 : List (List Int) × Int) => Option.bind (bif PE.notM (PE.orM (PE.notM (eqM r_1.2 (0 : Int))) (PE.notM (eqM r_2.2 (0 : Int)))) then idxM r_1.1
  x.2.1 else some []) fun (r_3 : List Int) => Option.bind (bif PE.notM (PE.orM (PE.notM (eqM r_1.2 (0 : Int))) (PE.notM (eqM r_2.2 (0 : Int)))) then idxM r_3
  x.2.2 else some (0 : Int)) fun (r_4 : Int) => bif PE.orM (PE.orM (PE.notM (eqM r_1.2 (0 : Int))) (PE.notM (eqM r_2.2 (0 : Int)))) (eqM r_4
  (1152921504606846976 : Int)) then some (((0 : Int), (0 : Int), (0 : Int), (0 : Int)), (100 : Int)) else Option.bind (idxM r_1.1 x.2.2) fun (r_5 : List Int) =>
  Option.bind (idxM r_5 x.2.1) fun (r_6 : Int) => Option.bind (idxM r_1.1 x.2.1) fun (r_7 : List Int) => Option.bind (idxM r_7 x.2.2) fun (r_8 : Int) =>
  Option.bind (idxM r_2.1 x.2.2) fun (r_9 : List Int) => Option.bind (idxM r_9 x.2.1) fun (r_10 : Int) => Option.bind (idxM r_2.1 x.2.1) fun (r_11 : List Int)
  => Option.bind (idxM r_11 x.2.2) fun (r : Int) => some ((IntKind.wrap IntKind.i64 (negM r_6), r_8, IntKind.wrap IntKind.i64 (negM r_10), r), (0 : Int))
theorem le39 (x) : Le (m39F x) (m39 x) := by
  unfold m39F m39
  repeat' first | exact le12 _ | exact le32 _ | with_reducible exact Le.refl _ | intro _ | apply Le.bind | apply Le.cond | apply Le.nil | apply Le.loop | apply Le.elim
def m14F : ((Int × (List (Int × Int × Int × Int)) × List (Int × Int × Int × Int × Int)) × Int) → Option ((Int × Int × Int × Int) × Int) :=
  fun (x : (Int × List (Int × Int × Int × Int) × List (Int × Int × Int × Int × Int)) × Int) => Option.bind (m18F (x.1.1, x.1.2.1, x.1.2.2)) fun (r : Bool) =>
  Option.bind (bif PE.notM (PE.notM r) then m38F (x.2, (0 : Int), IntKind.wrap IntKind.i64 (x.1.1 - (1 : Int))) else some false) fun (r_1 : Bool) => bif PE.orM
  (PE.notM r) (PE.notM r_1) then some (((0 : Int), (0 : Int), (0 : Int), (0 : Int)), (100 : Int)) else Option.bind (m39F ((x.1.1, x.1.2.1, x.1.2.2), x.1.1,
  x.2)) fun (r : (Int × Int × Int × Int) × Int) => some ((r.1.1, r.1.2.1, r.1.2.2.1, r.1.2.2.2), r.2)
theorem le14 (x) : Le (m14F x) (m14 x) := by
  unfold m14F m14
  repeat' first | exact le18 _ | exact le38 _ | exact le39 _ | with_reducible exact Le.refl _ | intro _ | apply Le.bind | apply Le.cond | apply Le.nil | apply Le.loop | apply Le.elim
def m22F : ((Int × (List (Int × Int × Int × Int)) × List (Int × Int × Int × Int × Int)) × Int × Int) → Option ((Int × Int × Int × Int) × Int) :=
  fun (x : (Int × List (Int × Int × Int × Int) × List (Int × Int × Int × Int × Int)) × Int × Int) => Option.bind (m18F (x.1.1, x.1.2.1, x.1.2.2)) fun (r : Bool)
  => Option.bind (bif PE.notM (PE.notM r) then m38F (x.2.1, (0 : Int), IntKind.wrap IntKind.i64 (x.1.1 - (1 : Int))) else some false) fun (r_1 : Bool) =>
  Option.bind (bif PE.notM (PE.orM (PE.notM r) (PE.notM r_1)) then m38F (x.2.2, (0 : Int), IntKind.wrap IntKind.i64 (x.1.1 - (1 : Int))) else some false) fun
  (r_2 : Bool) => bif PE.orM (PE.orM (PE.notM r) (PE.notM r_1)) (PE.notM r_2) then some (((0 : Int), (0 : Int), (0 : Int), (0 : Int)), (100 : Int)) else
  Option.bind (m39F ((x.1.1, x.1.2.1, x.1.2.2), x.2.1, x.2.2)) fun (r : (Int × Int × Int × Int) × Int) => some ((r.1.1, r.1.2.1, r.1.2.2.1, r.1.2.2.2), r.2)
theorem le22 (x) : Le (m22F x) (m22 x) := by
  unfold m22F m22
  repeat' first | exact le18 _ | exact le38 _ | exact le39 _ | with_reducible exact Le.refl _ | intro _ | apply Le.bind | apply Le.cond | apply Le.nil | apply Le.loop | apply Le.elim
def m52F : (Int × Int) → Option (Int) :=
  fun (x : Int × Int) => Option.bind (loopF (fun (s : Int × Int) => bif PE.notM (eqM s.2 (0 : Int)) then Option.bind (remM s.1 s.2) fun (r : Int) => some (Sum.inl
  (s.2, r)) else some (Sum.inr s.1)) (x.1, x.2)) fun (o : Int) => some (max o (IntKind.wrap IntKind.i64 (negM o)))
theorem le52 (x) : Le (m52F x) (m52 x) := by
  unfold m52F m52
  repeat' first | with_reducible exact Le.refl _ | intro _ | apply Le.bind | apply Le.cond | apply Le.nil | apply Le.loop | apply Le.elim
def m25F : (Int × (List (Int × Int × Int × Int)) × List (Int × Int × Int × Int × Int)) → Option ((List Int × List Int × Int) × Int) :=
  fun (x : Int × List (Int × Int × Int × Int) × List (Int × Int × Int × Int × Int)) => Option.bind (m18F (x.1, x.2.1, x.2.2)) fun (r : Bool) => bif PE.notM r then
  some (([], [], (0 : Int)), (100 : Int)) else Option.bind (loopF (fun (s : Int × List Int) => bif ltM s.1 (lenM x.2.1) then Option.bind (idxM x.2.1 s.1) fun
  (r_1 : Int × Int × Int × Int) => Option.bind (bif eqM r_1.1 x.1 then some s.2 else Option.bind (chkM r_1.1 ↑(nat_lit 8)) fun (r_2 : Unit) => Option.bind (chkM
  r_1.1 ↑(nat_lit 10)) fun (r_3 : Unit) => Option.bind (idxM s.2 (↑(nat_lit 0) + r_1.1 * ↑(nat_lit 10) + r_1.1 * ↑(nat_lit 1))) fun (r_4 : Int) => Option.bind
  (chkM r_1.1 ↑(nat_lit 8)) fun (r_5 : Unit) => Option.bind (chkM r_1.1 ↑(nat_lit 10)) fun (r_6 : Unit) => Option.bind (setM s.2 (↑(nat_lit 0) + r_1.1 *
  ↑(nat_lit 10) + r_1.1 * ↑(nat_lit 1)) fun (x : Int) => some (IntKind.wrap IntKind.i64 (r_4 + (1 : Int)))) fun (r_7 : List Int) => Option.bind (chkM r_1.1
  ↑(nat_lit 8)) fun (r_8 : Unit) => Option.bind (idxM r_7 (↑(nat_lit 0) + r_1.1 * ↑(nat_lit 10) + (8 : Int))) fun (r_9 : Int) => Option.bind (chkM r_1.1
  ↑(nat_lit 8)) fun (r_10 : Unit) => Option.bind (setM r_7 (↑(nat_lit 0) + r_1.1 * ↑(nat_lit 10) + (8 : Int)) fun (x : Int) => some (IntKind.wrap IntKind.i64
  (r_9 + r_1.2.1))) fun (r_11 : List Int) => Option.bind (chkM r_1.1 ↑(nat_lit 8)) fun (r_12 : Unit) => Option.bind (idxM r_11 (↑(nat_lit 0) + r_1.1 * ↑(nat_lit
  10) + (9 : Int))) fun (r_13 : Int) => Option.bind (chkM r_1.1 ↑(nat_lit 8)) fun (r_14 : Unit) => Option.bind (setM r_11 (↑(nat_lit 0) + r_1.1 * ↑(nat_lit 10)
  + (9 : Int)) fun (x : Int) => some (IntKind.wrap IntKind.i64 (r_13 + r_1.2.2.1))) fun (r_15 : List Int) => bif ltM x.1 x.1 then Option.bind (chkM r_1.1
  ↑(nat_lit 8)) fun (r_16 : Unit) => Option.bind (chkM x.1 ↑(nat_lit 10)) fun (r_17 : Unit) => Option.bind (idxM r_15 (↑(nat_lit 0) + r_1.1 * ↑(nat_lit 10) +
  x.1 * ↑(nat_lit 1))) fun (r_18 : Int) => Option.bind (chkM r_1.1 ↑(nat_lit 8)) fun (r_19 : Unit) => Option.bind (chkM x.1 ↑(nat_lit 10)) fun (r_20 : Unit) =>
  Option.bind (setM r_15 (↑(nat_lit 0) + r_1.1 * ↑(nat_lit 10) + x.1 * ↑(nat_lit 1)) fun (x : Int) => some (IntKind.wrap IntKind.i64 (r_18 - (1 : Int)))) fun (r
  : List Int) => some r else some r_15) fun (ov : List Int) => Option.bind (bif eqM x.1 x.1 then some ov else Option.bind (chkM x.1 ↑(nat_lit 8)) fun (r_2 :
  Unit) => Option.bind (chkM x.1 ↑(nat_lit 10)) fun (r_3 : Unit) => Option.bind (idxM ov (↑(nat_lit 0) + x.1 * ↑(nat_lit 10) + x.1 * ↑(nat_lit 1))) fun (r_4 :
  Int) => Option.bind (chkM x.1 ↑(nat_lit 8)) fun (r_5 : Unit) => Option.bind (chkM x.1 ↑(nat_lit 10)) fun (r_6 : Unit) => Option.bind (setM ov (↑(nat_lit 0) +
  x.1 * ↑(nat_lit 10) + x.1 * ↑(nat_lit 1)) fun (x : Int) => some (IntKind.wrap IntKind.i64 (r_4 + (1 : Int)))) fun (r_7 : List Int) => Option.bind (chkM x.1
  ↑(nat_lit 8)) fun (r_8 : Unit) => Option.bind (idxM r_7 (↑(nat_lit 0) + x.1 * ↑(nat_lit 10) + (8 : Int))) fun (r_9 : Int) => Option.bind (chkM x.1 ↑(nat_lit
  8)) fun (r_10 : Unit) => Option.bind (setM r_7 (↑(nat_lit 0) + x.1 * ↑(nat_lit 10) + (8 : Int)) fun (x : Int) => some (IntKind.wrap IntKind.i64 (r_9 +
  IntKind.wrap IntKind.i64 (negM r_1.2.1)))) fun (r_11 : List Int) => Option.bind (chkM x.1 ↑(nat_lit 8)) fun (r_12 : Unit) => Option.bind (idxM r_11 (↑(nat_lit
  0) + x.1 * ↑(nat_lit 10) + (9 : Int))) fun (r_13 : Int) => Option.bind (chkM x.1 ↑(nat_lit 8)) fun (r_14 : Unit) => Option.bind (setM r_11 (↑(nat_lit 0) + x.1
  * ↑(nat_lit 10) + (9 : Int)) fun (x : Int) => some (IntKind.wrap IntKind.i64 (r_13 + IntKind.wrap IntKind.i64 (negM r_1.2.2.1)))) fun (r_15 : List Int) => bif
  ltM r_1.1 x.1 then Option.bind (chkM x.1 ↑(nat_lit 8)) fun (r_16 : Unit) => Option.bind (chkM r_1.1 ↑(nat_lit 10)) fun (r_17 : Unit) => Option.bind (idxM r_15
  (↑(nat_lit 0) + x.1 * ↑(nat_lit 10) + r_1.1 * ↑(nat_lit 1))) fun (r_18 : Int) => Option.bind (chkM x.1 ↑(nat_lit 8)) fun (r_19 : Unit) => Option.bind (chkM
  r_1.1 ↑(nat_lit 10)) fun (r_20 : Unit) => Option.bind (setM r_15 (↑(nat_lit 0) + x.1 * ↑(nat_lit 10) + r_1.1 * ↑(nat_lit 1)) fun (x : Int) => some
  (IntKind.wrap IntKind.i64 (r_18 - (1 : Int)))) fun (r : List Int) => some r else some r_15) fun (ov : List Int) => some (Sum.inl (IntKind.wrap IntKind.i64
  (s.1 + (1 : Int)), ov)) else some (Sum.inr s.2)) ((0 : Int), [(0 : Int), (0 : Int), (0 : Int), (0 : Int), (0 : Int), (0 : Int), (0 : Int), (0 : Int), (0 :
  Int), (0 : Int), (0 : Int), (0 : Int), (0 : Int), (0 : Int), (0 : Int), (0 : Int), (0 : Int), (0 : Int), (0 : Int), (0 : Int), (0 : Int), (0 : Int), (0 :
  Int), (0 : Int), (0 : Int), (0 : Int), (0 : Int), (0 : Int), (0 : Int), (0 : Int), (0 : Int), (0 : Int), (0 : Int), (0 : Int), (0 : Int), (0 : Int), (0 :
  Int), (0 : Int), (0 : Int), (0 : Int), (0 : Int), (0 : Int), (0 : Int), (0 : Int), (0 : Int), (0 : Int), (0 : Int), (0 : Int), (0 : Int), (0 : Int), (0 :
  Int), (0 : Int), (0 : Int), (0 : Int), (0 : Int), (0 : Int), (0 : Int), (0 : Int), (0 : Int), (0 : Int), (0 : Int), (0 : Int), (0 : Int), (0 : Int), (0 :
  Int), (0 : Int), (0 : Int), (0 : Int), (0 : Int), (0 : Int), (0 : Int), (0 : Int), (0 : Int), (0 : Int), (0 : Int), (0 : Int), (0 : Int), (0 : Int), (0 :
  Int), (0 : Int)])) fun (o : List Int) => Option.bind (loopF (fun (s : Int × List Int) => bif ltM s.1 (lenM x.2.2) then Option.bind (idxM x.2.2 s.1) fun (r_1 :
  Int × Int × Int × Int × Int) => Option.bind (bif eqM r_1.2.1 x.1 then some s.2 else Option.bind (chkM r_1.2.1 ↑(nat_lit 8)) fun (r_2 : Unit) => Option.bind
  (chkM r_1.2.1 ↑(nat_lit 10)) fun (r_3 : Unit) => Option.bind (idxM s.2 (↑(nat_lit 0) + r_1.2.1 * ↑(nat_lit 10) + r_1.2.1 * ↑(nat_lit 1))) fun (r_4 : Int) =>
  Option.bind (chkM r_1.2.1 ↑(nat_lit 8)) fun (r_5 : Unit) => Option.bind (chkM r_1.2.1 ↑(nat_lit 10)) fun (r_6 : Unit) => Option.bind (setM s.2 (↑(nat_lit 0) +
  r_1.2.1 * ↑(nat_lit 10) + r_1.2.1 * ↑(nat_lit 1)) fun (x : Int) => some (IntKind.wrap IntKind.i64 (r_4 + (1 : Int)))) fun (r_7 : List Int) => Option.bind
  (chkM r_1.2.1 ↑(nat_lit 8)) fun (r_8 : Unit) => Option.bind (idxM r_7 (↑(nat_lit 0) + r_1.2.1 * ↑(nat_lit 10) + (8 : Int))) fun (r_9 : Int) => Option.bind
  (chkM r_1.2.1 ↑(nat_lit 8)) fun (r_10 : Unit) => Option.bind (setM r_7 (↑(nat_lit 0) + r_1.2.1 * ↑(nat_lit 10) + (8 : Int)) fun (x : Int) => some
  (IntKind.wrap IntKind.i64 (r_9 + r_1.2.2.1))) fun (r_11 : List Int) => Option.bind (chkM r_1.2.1 ↑(nat_lit 8)) fun (r_12 : Unit) => Option.bind (idxM r_11
  (↑(nat_lit 0) + r_1.2.1 * ↑(nat_lit 10) + (9 : Int))) fun (r_13 : Int) => Option.bind (chkM r_1.2.1 ↑(nat_lit 8)) fun (r_14 : Unit) => Option.bind (setM r_11
  (↑(nat_lit 0) + r_1.2.1 * ↑(nat_lit 10) + (9 : Int)) fun (x : Int) => some (IntKind.wrap IntKind.i64 (r_13 + r_1.2.2.2.1))) fun (r_15 : List Int) => bif ltM
  r_1.1 x.1 then Option.bind (chkM r_1.2.1 ↑(nat_lit 8)) fun (r_16 : Unit) => Option.bind (chkM r_1.1 ↑(nat_lit 10)) fun (r_17 : Unit) => Option.bind (idxM r_15
  (↑(nat_lit 0) + r_1.2.1 * ↑(nat_lit 10) + r_1.1 * ↑(nat_lit 1))) fun (r_18 : Int) => Option.bind (chkM r_1.2.1 ↑(nat_lit 8)) fun (r_19 : Unit) => Option.bind
  (chkM r_1.1 ↑(nat_lit 10)) fun (r_20 : Unit) => Option.bind (setM r_15 (↑(nat_lit 0) + r_1.2.1 * ↑(nat_lit 10) + r_1.1 * ↑(nat_lit 1)) fun (x : Int) => some
  (IntKind.wrap IntKind.i64 (r_18 - (1 : Int)))) fun (r : List Int) => some r else some r_15) fun (ov : List Int) => Option.bind (bif eqM r_1.1 x.1 then some ov
  else Option.bind (chkM r_1.1 ↑(nat_lit 8)) fun (r_2 : Unit) => Option.bind (chkM r_1.1 ↑(nat_lit 10)) fun (r_3 : Unit) => Option.bind (idxM ov (↑(nat_lit 0) +
  r_1.1 * ↑(nat_lit 10) + r_1.1 * ↑(nat_lit 1))) fun (r_4 : Int) => Option.bind (chkM r_1.1 ↑(nat_lit 8)) fun (r_5 : Unit) => Option.bind (chkM r_1.1 ↑(nat_lit
  10)) fun (r_6 : Unit) => Option.bind (setM ov (↑(nat_lit 0) + r_1.1 * ↑(nat_lit 10) + r_1.1 * ↑(nat_lit 1)) fun (x : Int) => some (IntKind.wrap IntKind.i64
  (r_4 + (1 : Int)))) fun (r_7 : List Int) => Option.bind (chkM r_1.1 ↑(nat_lit 8)) fun (r_8 : Unit) => Option.bind (idxM r_7 (↑(nat_lit 0) + r_1.1 * ↑(nat_lit
  10) + (8 : Int))) fun (r_9 : Int) => Option.bind (chkM r_1.1 ↑(nat_lit 8)) fun (r_10 : Unit) => Option.bind (setM r_7 (↑(nat_lit 0) + r_1.1 * ↑(nat_lit 10) +
  (8 : Int)) fun (x : Int) => some (IntKind.wrap IntKind.i64 (r_9 + IntKind.wrap IntKind.i64 (negM r_1.2.2.1)))) fun (r_11 : List Int) => Option.bind (chkM
  r_1.1 ↑(nat_lit 8)) fun (r_12 : Unit) => Option.bind (idxM r_11 (↑(nat_lit 0) + r_1.1 * ↑(nat_lit 10) + (9 : Int))) fun (r_13 : Int) => Option.bind (chkM
  r_1.1 ↑(nat_lit 8)) fun (r_14 : Unit) => Option.bind (setM r_11 (↑(nat_lit 0) + r_1.1 * ↑(nat_lit 10) + (9 : Int)) fun (x : Int) => some (IntKind.wrap
  IntKind.i64 (r_13 + IntKind.wrap IntKind.i64 (negM r_1.2.2.2.1)))) fun (r_15 : List Int) => bif ltM r_1.2.1 x.1 then Option.bind (chkM r_1.1 ↑(nat_lit 8)) fun
  (r_16 : Unit) => Option.bind (chkM r_1.2.1 ↑(nat_lit 10)) fun (r_17 : Unit) => Option.bind (idxM r_15 (↑(nat_lit 0) + r_1.1 * ↑(nat_lit 10) + r_1.2.1 *
  ↑(nat_lit 1))) fun (r_18 : Int) => Option.bind (chkM r_1.1 ↑(nat_lit 8)) fun (r_19 : Unit) => Option.bind (chkM r_1.2.1 ↑(nat_lit 10)) fun (r_20 : Unit) =>
  Option.bind (setM r_15 (↑(nat_lit 0) + r_1.1 * ↑(nat_lit 10) + r_1.2.1 * ↑(nat_lit 1)) fun (x : Int) => some (IntKind.wrap IntKind.i64 (r_18 - (1 : Int))))
  fun (r : List Int) => some r else some r_15) fun (ov : List Int) => some (Sum.inl (IntKind.wrap IntKind.i64 (s.1 + (1 : Int)), ov)) else some (Sum.inr s.2))
  ((0 : Int), o)) fun (o_1 : List Int) => Option.bind (Option.bind (loopF (fun (s : Int × Int × List Int) => bif ltM s.2.1 x.1 then Option.bind (loopF (fun (s_1
  : Int) => Option.bind (bif ltM s_1 x.1 then chkM s_1 ↑(nat_lit 8) else some ()) fun (r_1 : Unit) => Option.bind (bif ltM s_1 x.1 then chkM s.2.1 ↑(nat_lit 10)
  else some ()) fun (r_2 : Unit) => Option.bind (bif ltM s_1 x.1 then idxM s.2.2 (↑(nat_lit 0) + s_1 * ↑(nat_lit 10) + s.2.1 * ↑(nat_lit 1)) else some (0 :
  Int)) fun (r : Int) => bif PE.andM (ltM s_1 x.1) (eqM r (0 : Int)) then some (Sum.inl (IntKind.wrap IntKind.i64 (s_1 + (1 : Int)))) else some (Sum.inr s_1))
  s.2.1) fun (o_2 : Int) => bif eqM o_2 x.1 then some (Sum.inr (Sum.inr ((0 : Int), s.2.2))) else Option.bind (chkM s.2.1 ↑(nat_lit 8)) fun (r_1 : Unit) =>
  Option.bind (sliceM s.2.2 (↑(nat_lit 0) + s.2.1 * ↑(nat_lit 10)) (↑(nat_lit 0) + s.2.1 * ↑(nat_lit 10) + ↑(nat_lit 10))) fun (r_2 : List Int) => Option.bind
  (chkM o_2 ↑(nat_lit 8)) fun (r_3 : Unit) => Option.bind (sliceM s.2.2 (↑(nat_lit 0) + o_2 * ↑(nat_lit 10)) (↑(nat_lit 0) + o_2 * ↑(nat_lit 10) + ↑(nat_lit
  10))) fun (r_4 : List Int) => Option.bind (chkM o_2 ↑(nat_lit 8)) fun (r_5 : Unit) => Option.bind (putM s.2.2 (↑(nat_lit 0) + o_2 * ↑(nat_lit 10)) [nthD r_2
  (nat_lit 0) (0 : Int), nthD r_2 (nat_lit 1) (0 : Int), nthD r_2 (nat_lit 2) (0 : Int), nthD r_2 (nat_lit 3) (0 : Int), nthD r_2 (nat_lit 4) (0 : Int), nthD
  r_2 (nat_lit 5) (0 : Int), nthD r_2 (nat_lit 6) (0 : Int), nthD r_2 (nat_lit 7) (0 : Int), nthD r_2 (nat_lit 8) (0 : Int), nthD r_2 (nat_lit 9) (0 : Int)])
  fun (r_6 : List Int) => Option.bind (chkM s.2.1 ↑(nat_lit 8)) fun (r_7 : Unit) => Option.bind (putM r_6 (↑(nat_lit 0) + s.2.1 * ↑(nat_lit 10)) [nthD r_4
  (nat_lit 0) (0 : Int), nthD r_4 (nat_lit 1) (0 : Int), nthD r_4 (nat_lit 2) (0 : Int), nthD r_4 (nat_lit 3) (0 : Int), nthD r_4 (nat_lit 4) (0 : Int), nthD
  r_4 (nat_lit 5) (0 : Int), nthD r_4 (nat_lit 6) (0 : Int), nthD r_4 (nat_lit 7) (0 : Int), nthD r_4 (nat_lit 8) (0 : Int), nthD r_4 (nat_lit 9) (0 : Int)])
  fun (r_8 : List Int) => Option.bind (loopF (fun (s_1 : Int × List Int) => bif ltM s_1.1 x.1 then Option.bind (bif eqM s_1.1 s.2.1 then some s_1.2 else
  Option.bind (chkM s_1.1 ↑(nat_lit 8)) fun (r_9 : Unit) => Option.bind (chkM s.2.1 ↑(nat_lit 10)) fun (r_10 : Unit) => Option.bind (idxM s_1.2 (↑(nat_lit 0) +
  s_1.1 * ↑(nat_lit 10) + s.2.1 * ↑(nat_lit 1))) fun (r_11 : Int) => Option.bind (loopF (fun (s_2 : Int × List Int) => bif ltM s_2.1 (10 : Int) then Option.bind
  (chkM s_1.1 ↑(nat_lit 8)) fun (r_12 : Unit) => Option.bind (chkM s_2.1 ↑(nat_lit 10)) fun (r_13 : Unit) => Option.bind (idxM s_2.2 (↑(nat_lit 0) + s_1.1 *
  ↑(nat_lit 10) + s_2.1 * ↑(nat_lit 1))) fun (r_14 : Int) => Option.bind (chkM s.2.1 ↑(nat_lit 8)) fun (r_15 : Unit) => Option.bind (chkM s.2.1 ↑(nat_lit 10))
  fun (r_16 : Unit) => Option.bind (idxM s_2.2 (↑(nat_lit 0) + s.2.1 * ↑(nat_lit 10) + s.2.1 * ↑(nat_lit 1))) fun (r_17 : Int) => Option.bind (chkM s.2.1
  ↑(nat_lit 8)) fun (r_18 : Unit) => Option.bind (chkM s_2.1 ↑(nat_lit 10)) fun (r_19 : Unit) => Option.bind (idxM s_2.2 (↑(nat_lit 0) + s.2.1 * ↑(nat_lit 10) +
  s_2.1 * ↑(nat_lit 1))) fun (r_20 : Int) => Option.bind (divM IntKind.i64 (IntKind.wrap IntKind.i64 (IntKind.wrap IntKind.i64 (r_14 * r_17) - IntKind.wrap
  IntKind.i64 (r_11 * r_20))) s.1) fun (r_21 : Int) => Option.bind (chkM s_1.1 ↑(nat_lit 8)) fun (r_22 : Unit) => Option.bind (chkM s_2.1 ↑(nat_lit 10)) fun
  (r_23 : Unit) => Option.bind (setM s_2.2 (↑(nat_lit 0) + s_1.1 * ↑(nat_lit 10) + s_2.1 * ↑(nat_lit 1)) fun (x : Int) => some r_21) fun (r : List Int) => some
  (Sum.inl (IntKind.wrap IntKind.i64 (s_2.1 + (1 : Int)), r)) else some (Sum.inr s_2.2)) ((0 : Int), s_1.2)) fun (o : List Int) => some o) fun (o : List Int) =>
  some (Sum.inl (IntKind.wrap IntKind.i64 (s_1.1 + (1 : Int)), o)) else some (Sum.inr s_1.2)) ((0 : Int), r_8)) fun (o_3 : List Int) => Option.bind (chkM s.2.1
  ↑(nat_lit 8)) fun (r_9 : Unit) => Option.bind (chkM s.2.1 ↑(nat_lit 10)) fun (r_10 : Unit) => Option.bind (idxM o_3 (↑(nat_lit 0) + s.2.1 * ↑(nat_lit 10) +
  s.2.1 * ↑(nat_lit 1))) fun (r : Int) => some (Sum.inl (r, IntKind.wrap IntKind.i64 (s.2.1 + (1 : Int)), o_3)) else some (Sum.inr (Sum.inl (s.1, s.2.2)))) ((1
  : Int), (0 : Int), o_1)) fun (o : Int × List Int ⊕ Int × List Int) => Sum.elim (fun (t : Int × List Int) => some (t.1, t.2)) (fun (t : Int × List Int) => some
  (t.1, t.2)) o) fun (ov : Int × List Int) => bif eqM ov.1 (0 : Int) then some (([], [], (0 : Int)), (100 : Int)) else Option.bind (loopF (fun (s : Int × Int ×
  Int × List Int × List Int) => bif ltM s.2.1 x.1 then Option.bind (chkM s.2.1 ↑(nat_lit 8)) fun (r_1 : Unit) => Option.bind (idxM ov.2 (↑(nat_lit 0) + s.2.1 *
  ↑(nat_lit 10) + (8 : Int))) fun (r_2 : Int) => Option.bind (appM (nat_lit 8) s.2.2.2.1 [r_2]) fun (r_3 : List Int) => Option.bind (chkM s.2.1 ↑(nat_lit 8))
  fun (r_4 : Unit) => Option.bind (idxM ov.2 (↑(nat_lit 0) + s.2.1 * ↑(nat_lit 10) + (9 : Int))) fun (r_5 : Int) => Option.bind (appM (nat_lit 8) s.2.2.2.2
  [r_5]) fun (r_6 : List Int) => Option.bind (chkM s.2.1 (lenM r_3)) fun (r_7 : Unit) => Option.bind (idxM r_3 s.2.1) fun (r_8 : Int) => Option.bind (m52F (s.1,
  r_8)) fun (r_9 : Int) => Option.bind (chkM s.2.1 (lenM r_6)) fun (r_10 : Unit) => Option.bind (idxM r_6 s.2.1) fun (r_11 : Int) => Option.bind (m52F (r_9,
  r_11)) fun (r : Int) => some (Sum.inl (r, IntKind.wrap IntKind.i64 (s.2.1 + (1 : Int)), s.2.2.1, r_3, r_6)) else some (Sum.inr (s.1, s.2.2.1, s.2.2.2.1,
  s.2.2.2.2))) (ov.1, (0 : Int), ov.1, [], [])) fun (o_2 : Int × Int × List Int × List Int) => Option.bind (bif ltM ov.1 (0 : Int) then some (IntKind.wrap
  IntKind.i64 (negM o_2.1)) else some o_2.1) fun (o_3 : Int) => Option.bind (divM IntKind.i64 o_2.2.1 o_3) fun (r_1 : Int) => Option.bind (loopF (fun (s : Int ×
  List Int × List Int) => bif ltM s.1 x.1 then Option.bind (chkM s.1 (lenM s.2.1)) fun (r_2 : Unit) => Option.bind (idxM s.2.1 s.1) fun (r_3 : Int) =>
  Option.bind (divM IntKind.i64 r_3 o_3) fun (r_4 : Int) => Option.bind (chkM s.1 (lenM s.2.1)) fun (r_5 : Unit) => Option.bind (setM s.2.1 s.1 fun (x : Int) =>
  some r_4) fun (r_6 : List Int) => Option.bind (chkM s.1 (lenM s.2.2)) fun (r_7 : Unit) => Option.bind (idxM s.2.2 s.1) fun (r_8 : Int) => Option.bind (divM
  IntKind.i64 r_8 o_3) fun (r_9 : Int) => Option.bind (chkM s.1 (lenM s.2.2)) fun (r_10 : Unit) => Option.bind (setM s.2.2 s.1 fun (x : Int) => some r_9) fun (r
  : List Int) => some (Sum.inl (IntKind.wrap IntKind.i64 (s.1 + (1 : Int)), r_6, r)) else some (Sum.inr (s.2.1, s.2.2))) ((0 : Int), o_2.2.2.1, o_2.2.2.2)) fun
  (o : List Int × List Int) => some ((o.1, o.2, r_1), (0 : Int))
theorem le25 (x) : Le (m25F x) (m25 x) := by
  unfold m25F m25
  repeat' first | exact le18 _ | exact le52 _ | with_reducible exact Le.refl _ | intro _ | apply Le.bind | apply Le.cond | apply Le.nil | apply Le.loop | apply Le.elim
def m72F : (Int × Int) → Option (Int) :=
  fun (x : Int × Int) => some (1152921504606846976 : Int)
theorem le72 (x) : Le (m72F x) (m72 x) := by
  unfold m72F m72
  repeat' first | with_reducible exact Le.refl _ | intro _ | apply Le.bind | apply Le.cond | apply Le.nil | apply Le.loop | apply Le.elim
def m57F : ((Int × List (Int × Int × Int)) × List (List (List Int)) × Int × Int × Int × Int) → Option (List Int) :=
  fun (x : (Int × List (Int × Int × Int)) × List (List (List Int)) × Int × Int × Int × Int) => Option.bind (loopF (fun (s : Int × Int × Int × List Int) => bif ltM
  (0 : Int) s.2.1 then Option.bind (Option.bind (loopF (fun (s_1 : Int) => bif ltM s_1 (lenM x.1.2) then Option.bind (idxM x.1.2 s_1) fun (r : Int × Int × Int)
  => Option.bind (bif eqM r.1 s.1 then idxM x.2.1 (IntKind.wrap IntKind.i64 (s.2.1 - (1 : Int))) else some []) fun (r_1 : List (List Int)) => Option.bind (bif
  eqM r.1 s.1 then idxM r_1 r.2.1 else some []) fun (r_2 : List Int) => Option.bind (bif eqM r.1 s.1 then idxM r_2 x.2.2.2.1 else some (0 : Int)) fun (r_3 :
  Int) => Option.bind (bif eqM r.1 s.1 then m56F (r.2.2, r_3) else some (0 : Int)) fun (r_4 : Int) => bif PE.andM (eqM r.1 s.1) (leM r_4 s.2.2.1) then some
  (Sum.inr (Sum.inr s_1)) else some (Sum.inl (IntKind.wrap IntKind.i64 (s_1 + (1 : Int)))) else some (Sum.inr (Sum.inl ()))) (0 : Int)) fun (o : Unit ⊕ Int) =>
  Sum.elim (fun (t : Unit) => some (-1 : Int)) (fun (t : Int) => some t) o) fun (ov : Int) => Option.bind (idxM x.1.2 ov) fun (r : Int × Int × Int) =>
  Option.bind (idxM x.1.2 ov) fun (r_1 : Int × Int × Int) => Option.bind (appM (nat_lit 8) s.2.2.2 [ov]) fun (r_2 : List Int) => some (Sum.inl (r.2.1,
  IntKind.wrap IntKind.i64 (s.2.1 - (1 : Int)), IntKind.wrap IntKind.i64 (s.2.2.1 - r_1.2.2), r_2)) else some (Sum.inr (s.1, s.2.1, s.2.2.1, s.2.2.2)))
  (x.2.2.1, x.2.2.2.2.1, x.2.2.2.2.2, [])) fun (o : Int × Int × Int × List Int) => some o.2.2.2
theorem le57 (x) : Le (m57F x) (m57 x) := by
  unfold m57F m57
  repeat' first | exact le56 _ | with_reducible exact Le.refl _ | intro _ | apply Le.bind | apply Le.cond | apply Le.nil | apply Le.loop | apply Le.elim
def m33F : (Int × List (Int × Int × Int)) → Option (List Int × Bool) :=
  fun (x : Int × List (Int × Int × Int)) => Option.bind (m36F (x.1, x.2)) fun (r : Bool) => bif PE.notM r then some ([], false) else Option.bind (m37F (x.1, x.2))
  fun (r_1 : List (List Int) × Bool) => bif r_1.2 then some ([], false) else Option.bind (m64F x.1) fun (r_2 : List (List Int)) => Option.bind (loopF (fun (s :
  List (List Int) × List (List (List Int))) => Option.bind (appM (nat_lit 24) s.2 [s.1]) fun (r_3 : List (List (List Int))) => Option.bind (loopF (fun (s_1 :
  Int) => bif ltM s_1 (lenM x.2) then Option.bind (idxM x.2 s_1) fun (r_4 : Int × Int × Int) => Option.bind (bif ltM (0 : Int) (IntKind.wrap IntKind.i64 (lenM
  r_3 - (1 : Int))) then chkM (IntKind.wrap IntKind.i64 (IntKind.wrap IntKind.i64 (lenM r_3 - (1 : Int)) - (1 : Int))) (lenM r_3) else some ()) fun (r_5 : Unit)
  => Option.bind (bif ltM (0 : Int) (IntKind.wrap IntKind.i64 (lenM r_3 - (1 : Int))) then idxM r_3 (IntKind.wrap IntKind.i64 (IntKind.wrap IntKind.i64 (lenM
  r_3 - (1 : Int)) - (1 : Int))) else some []) fun (r_6 : List (List Int)) => Option.bind (bif ltM (0 : Int) (IntKind.wrap IntKind.i64 (lenM r_3 - (1 : Int)))
  then idxM r_6 r_4.2.1 else some []) fun (r_7 : List Int) => Option.bind (bif ltM (0 : Int) (IntKind.wrap IntKind.i64 (lenM r_3 - (1 : Int))) then idxM r_7
  r_4.1 else some (0 : Int)) fun (r_8 : Int) => Option.bind (bif ltM (0 : Int) (IntKind.wrap IntKind.i64 (lenM r_3 - (1 : Int))) then m56F (r_4.2.2, r_8) else
  some (0 : Int)) fun (r_9 : Int) => bif PE.andM (ltM (0 : Int) (IntKind.wrap IntKind.i64 (lenM r_3 - (1 : Int)))) (ltM r_9 (0 : Int)) then Option.bind (m57F
  ((x.1, x.2), r_3, r_4.2.1, r_4.1, IntKind.wrap IntKind.i64 (IntKind.wrap IntKind.i64 (lenM r_3 - (1 : Int)) - (1 : Int)), IntKind.wrap IntKind.i64 ((-1 : Int)
  - r_4.2.2))) fun (r_10 : List Int) => Option.bind (appM (nat_lit 8) [s_1] r_10) fun (r : List Int) => some (Sum.inr (Sum.inr (r, true, r_3))) else some
  (Sum.inl (IntKind.wrap IntKind.i64 (s_1 + (1 : Int)))) else some (Sum.inr (Sum.inl ()))) (0 : Int)) fun (o : Unit ⊕ List Int × Bool × List (List (List Int)))
  => Sum.elim (fun (t : Unit) => Option.bind (mkM x.1 x.1 (nat_lit 24) []) fun (r_4 : List (List Int)) => Option.bind (loopF (fun (s_1 : Int × List (List Int))
  => bif ltM s_1.1 x.1 then Option.bind (loopF (fun (s_2 : Int × List (List Int)) => bif ltM s_2.1 x.1 then Option.bind (chkM s_1.1 (lenM s_2.2)) fun (r_5 :
  Unit) => Option.bind (chkM s_1.1 (lenM s_2.2)) fun (r_6 : Unit) => Option.bind (m72F (s_1.1, s_2.1)) fun (r_7 : Int) => Option.bind (app2M (nat_lit 8) s_2.2
  s_1.1 [r_7]) fun (r_8 : List (List Int)) => Option.bind (chkM s_1.1 (lenM r_8)) fun (r_9 : Unit) => Option.bind (Option.bind (sameM s_1.1 s_1.1) fun (x :
  Unit) => Option.bind (sameM s_1.1 s_1.1) fun (x : Unit) => chkM s_1.1 (lenM r_8)) fun (r : Unit) => some (Sum.inl (IntKind.wrap IntKind.i64 (s_2.1 + (1 :
  Int)), r_8)) else some (Sum.inr s_2.2)) ((0 : Int), s_1.2)) fun (o : List (List Int)) => some (Sum.inl (IntKind.wrap IntKind.i64 (s_1.1 + (1 : Int)), o)) else
  some (Sum.inr s_1.2)) ((0 : Int), r_4)) fun (o : List (List Int)) => Option.bind (loopF (fun (s_1 : Int × List (List Int)) => bif ltM s_1.1 (lenM x.2) then
  Option.bind (idxM x.2 s_1.1) fun (r_5 : Int × Int × Int) => Option.bind (loopF (fun (s_2 : Int × List (List Int)) => bif ltM s_2.1 x.1 then Option.bind (chkM
  s_2.1 (lenM s_2.2)) fun (r_6 : Unit) => Option.bind (chkM s_2.1 (lenM s_2.2)) fun (r_7 : Unit) => Option.bind (chkM s_2.1 (lenM s_2.2)) fun (r_8 : Unit) =>
  Option.bind (chkM s_2.1 (lenM s_2.2)) fun (r_9 : Unit) => Option.bind (Option.bind (idxM s_2.2 s_2.1) fun (xs : List Int) => chkM r_5.2.1 (lenM xs)) fun (r_10
  : Unit) => Option.bind (Option.bind (idxM s_2.2 s_2.1) fun (xs : List Int) => Option.bind (idxM xs r_5.2.1) fun (x : Int) => some x) fun (r_11 : Int) =>
  Option.bind (idxM s.1 s_2.1) fun (r_12 : List Int) => Option.bind (idxM r_12 r_5.1) fun (r_13 : Int) => Option.bind (m56F (r_13, r_5.2.2)) fun (r_14 : Int) =>
  Option.bind (Option.bind (idxM s_2.2 s_2.1) fun (xs : List Int) => chkM r_5.2.1 (lenM xs)) fun (r_15 : Unit) => Option.bind (set2M s_2.2 s_2.1 r_5.2.1 fun (x
  : Int) => some (min r_11 r_14)) fun (r : List (List Int)) => some (Sum.inl (IntKind.wrap IntKind.i64 (s_2.1 + (1 : Int)), r)) else some (Sum.inr s_2.2)) ((0 :
  Int), s_1.2)) fun (o : List (List Int)) => some (Sum.inl (IntKind.wrap IntKind.i64 (s_1.1 + (1 : Int)), o)) else some (Sum.inr s_1.2)) ((0 : Int), o)) fun (o
  : List (List Int)) => some (Sum.inl (o, r_3))) (fun (t : List Int × Bool × List (List (List Int))) => some (Sum.inr (t.1, t.2.1, t.2.2))) o) (r_2, [])) fun (o
  : List Int × Bool × List (List (List Int))) => some (o.1, o.2.1)
theorem le33 (x) : Le (m33F x) (m33 x) := by
  unfold m33F m33
  repeat' first | exact le36 _ | exact le37 _ | exact le56 _ | exact le57 _ | exact le64 _ | exact le72 _ | with_reducible exact Le.refl _ | intro _ | apply Le.bind | apply Le.cond | apply Le.nil | apply Le.loop | apply Le.elim
def m10F : (Int × (List (Int × Int × Int × Int)) × List (Int × Int × Int × Int × Int)) → Option (List Int × Bool) :=
  fun (x : Int × List (Int × Int × Int × Int) × List (Int × Int × Int × Int × Int)) => Option.bind (m18F (x.1, x.2.1, x.2.2)) fun (r : Bool) => bif PE.notM r then
  some ([], false) else Option.bind (m32F (x.1, x.2.1, x.2.2)) fun (r_1 : (Int × List (Int × Int × Int)) × Int × List (Int × Int × Int)) => Option.bind
  (Option.bind (m33F (r_1.1.1, r_1.1.2)) fun (r : List Int × Bool) => bif PE.andM r.2 (PE.orM true (ltM (lenM r.1) (0 : Int))) then some (r.1, true) else some
  ([], false)) fun (o : List Int × Bool) => Option.bind (Option.bind (m33F (r_1.2.1, r_1.2.2)) fun (r : List Int × Bool) => bif PE.andM r.2 (PE.orM (PE.notM
  o.2) (ltM (lenM r.1) (lenM o.1))) then some (r.1, true) else some (o.1, o.2)) fun (o_1 : List Int × Bool) => Option.bind (loopF (fun (s : Int × List Int) =>
  bif ltM s.1 (lenM o_1.1) then Option.bind (idxM o_1.1 s.1) fun (r_2 : Int) => Option.bind (divM IntKind.i64 r_2 (2 : Int)) fun (r_3 : Int) => Option.bind
  (appM (nat_lit 8) s.2 [r_3]) fun (r : List Int) => some (Sum.inl (IntKind.wrap IntKind.i64 (s.1 + (1 : Int)), r)) else some (Sum.inr s.2)) ((0 : Int), []))
  fun (o_2 : List Int) => Option.bind (sortI o_2) fun (r_2 : List Int) => Option.bind (compI r_2) fun (r : List Int) => some (r, o_1.2)
theorem le10 (x) : Le (m10F x) (m10 x) := by
  unfold m10F m10
  repeat' first | exact le18 _ | exact le32 _ | exact le33 _ | with_reducible exact Le.refl _ | intro _ | apply Le.bind | apply Le.cond | apply Le.nil | apply Le.loop | apply Le.elim
def m49F : (List Int × List Int) → Option (Bool) :=
  fun (x : List Int × List Int) => bif PE.notM (eqM (lenM x.1) (lenM x.2)) then some false else Option.bind (loopF (fun (s : Int) => bif ltM s (lenM x.1) then
  Option.bind (idxM x.1 s) fun (r : Int) => Option.bind (idxM x.2 s) fun (r_1 : Int) => bif PE.notM (eqM r r_1) then some (Sum.inr (Sum.inr false)) else some
  (Sum.inl (IntKind.wrap IntKind.i64 (s + (1 : Int)))) else some (Sum.inr (Sum.inl ()))) (0 : Int)) fun (o : Unit ⊕ Bool) => Sum.elim (fun (t : Unit) => some
  true) (fun (t : Bool) => some t) o
theorem le49 (x) : Le (m49F x) (m49 x) := by
  unfold m49F m49
  repeat' first | with_reducible exact Le.refl _ | intro _ | apply Le.bind | apply Le.cond | apply Le.nil | apply Le.loop | apply Le.elim
def m24F : (List Int × List Int) → Option (Bool) :=
  fun (x : List Int × List Int) => Option.bind (m49F (x.1, x.2)) fun (r : Bool) => some r
theorem le24 (x) : Le (m24F x) (m24 x) := by
  unfold m24F m24
  repeat' first | exact le49 _ | with_reducible exact Le.refl _ | intro _ | apply Le.bind | apply Le.cond | apply Le.nil | apply Le.loop | apply Le.elim
def m26F : ((List Int × List Int × Int) × List Int × List Int × Int) → Option (Bool) :=
  fun (x : (List Int × List Int × Int) × List Int × List Int × Int) => Option.bind (m24F (x.1.1, x.2.1)) fun (r : Bool) => Option.bind (bif r then m24F (x.1.2.1,
  x.2.2.1) else some false) fun (r_1 : Bool) => some (PE.andM (PE.andM r r_1) (eqM x.1.2.2 x.2.2.2))
theorem le26 (x) : Le (m26F x) (m26 x) := by
  unfold m26F m26
  repeat' first | exact le24 _ | with_reducible exact Le.refl _ | intro _ | apply Le.bind | apply Le.cond | apply Le.nil | apply Le.loop | apply Le.elim
def m41F : (Int × Int) → Option (Bool) :=
  fun (x : Int × Int) => Option.bind (m42F (x.1, x.2, (1000000 : Int))) fun (r : Bool) => some (PE.notM r)
theorem le41 (x) : Le (m41F x) (m41 x) := by
  unfold m41F m41
  repeat' first | exact le42 _ | with_reducible exact Le.refl _ | intro _ | apply Le.bind | apply Le.cond | apply Le.nil | apply Le.loop | apply Le.elim
def m17F : ((Int × (List (Int × Int × Int × Int)) × List (Int × Int × Int × Int × Int)) × List (Int × Int)) → Option (Bool) :=
  fun (x : (Int × List (Int × Int × Int × Int) × List (Int × Int × Int × Int × Int)) × List (Int × Int)) => Option.bind (m18F (x.1.1, x.1.2.1, x.1.2.2)) fun (r :
  Bool) => Option.bind (bif PE.notM (PE.orM (PE.notM r) (PE.notM (eqM (lenM x.2) x.1.1))) then Option.bind (Option.bind (loopF (fun (s : Int) => bif ltM s (lenM
  x.2) then Option.bind (idxM x.2 s) fun (r_1 : Int × Int) => Option.bind (m41F (r_1.1, r_1.2)) fun (r : Bool) => bif r then some (Sum.inr (Sum.inr s)) else
  some (Sum.inl (IntKind.wrap IntKind.i64 (s + (1 : Int)))) else some (Sum.inr (Sum.inl ()))) (0 : Int)) fun (o : Unit ⊕ Int) => Sum.elim (fun (t : Unit) =>
  some (-1 : Int)) (fun (t : Int) => some t) o) fun (ov : Int) => some (leM (0 : Int) ov) else some false) fun (ov : Bool) => bif PE.orM (PE.orM (PE.notM r)
  (PE.notM (eqM (lenM x.2) x.1.1))) ov then some false else Option.bind (nilF x.2 (some []) (Option.bind (appM (nat_lit 16) [] x.2) fun (r : List (Int × Int))
  => some r)) fun (ov_1 : List (Int × Int)) => Option.bind (appM (nat_lit 16) ov_1 [((0 : Int), (0 : Int))]) fun (r_1 : List (Int × Int)) => Option.bind (loopF
  (fun (s : Int) => bif ltM s (lenM x.1.2.1) then Option.bind (idxM x.1.2.1 s) fun (r_2 : Int × Int × Int × Int) => Option.bind (chkM r_2.1 (lenM r_1)) fun (r_3
  : Unit) => Option.bind (Option.bind (idxM r_1 r_2.1) fun (x : Int × Int) => some x.1) fun (r_4 : Int) => Option.bind (chkM x.1.1 (lenM r_1)) fun (r_5 : Unit)
  => Option.bind (Option.bind (idxM r_1 x.1.1) fun (x : Int × Int) => some x.1) fun (r_6 : Int) => Option.bind (chkM r_2.1 (lenM r_1)) fun (r_7 : Unit) =>
  Option.bind (Option.bind (idxM r_1 r_2.1) fun (x : Int × Int) => some x.2) fun (r_8 : Int) => Option.bind (chkM x.1.1 (lenM r_1)) fun (r_9 : Unit) =>
  Option.bind (Option.bind (idxM r_1 x.1.1) fun (x : Int × Int) => some x.2) fun (r_10 : Int) => Option.bind (m42F (IntKind.wrap IntKind.i64 (IntKind.wrap
  IntKind.i64 (r_4 - r_6) - r_2.2.1), IntKind.wrap IntKind.i64 (IntKind.wrap IntKind.i64 (r_8 - r_10) - r_2.2.2.1), r_2.2.2.2)) fun (r : Bool) => bif PE.notM r
  then some (Sum.inr (Sum.inr false)) else some (Sum.inl (IntKind.wrap IntKind.i64 (s + (1 : Int)))) else some (Sum.inr (Sum.inl ()))) (0 : Int)) fun (o : Unit
  ⊕ Bool) => Sum.elim (fun (t : Unit) => Option.bind (loopF (fun (s : Int) => bif ltM s (lenM x.1.2.2) then Option.bind (idxM x.1.2.2 s) fun (r_2 : Int × Int ×
  Int × Int × Int) => Option.bind (chkM r_2.2.1 (lenM r_1)) fun (r_3 : Unit) => Option.bind (Option.bind (idxM r_1 r_2.2.1) fun (x : Int × Int) => some x.1) fun
  (r_4 : Int) => Option.bind (chkM r_2.1 (lenM r_1)) fun (r_5 : Unit) => Option.bind (Option.bind (idxM r_1 r_2.1) fun (x : Int × Int) => some x.1) fun (r_6 :
  Int) => Option.bind (chkM r_2.2.1 (lenM r_1)) fun (r_7 : Unit) => Option.bind (Option.bind (idxM r_1 r_2.2.1) fun (x : Int × Int) => some x.2) fun (r_8 : Int)
  => Option.bind (chkM r_2.1 (lenM r_1)) fun (r_9 : Unit) => Option.bind (Option.bind (idxM r_1 r_2.1) fun (x : Int × Int) => some x.2) fun (r_10 : Int) =>
  Option.bind (m42F (IntKind.wrap IntKind.i64 (IntKind.wrap IntKind.i64 (r_4 - r_6) - r_2.2.2.1), IntKind.wrap IntKind.i64 (IntKind.wrap IntKind.i64 (r_8 -
  r_10) - r_2.2.2.2.1), r_2.2.2.2.2)) fun (r : Bool) => bif PE.notM r then some (Sum.inr (Sum.inr false)) else some (Sum.inl (IntKind.wrap IntKind.i64 (s + (1 :
  Int)))) else some (Sum.inr (Sum.inl ()))) (0 : Int)) fun (o : Unit ⊕ Bool) => Sum.elim (fun (t : Unit) => some true) (fun (t : Bool) => some t) o) (fun (t :
  Bool) => some t) o
theorem le17 (x) : Le (m17F x) (m17 x) := by
  unfold m17F m17
  repeat' first | exact le18 _ | exact le41 _ | exact le42 _ | with_reducible exact Le.refl _ | intro _ | apply Le.bind | apply Le.cond | apply Le.nil | apply Le.loop | apply Le.elim
def m8F : Unit → Option (Bool) :=
  fun (x : Unit) => Option.bind (appM (nat_lit 40) [] [((0 : Int), (1 : Int), (100 : Int), (0 : Int), (3 : Int)), ((1 : Int), (2 : Int), (0 : Int), (50 : Int), (1
  : Int)), ((0 : Int), (2 : Int), (104 : Int), (48 : Int), (2 : Int))]) fun (r : List (Int × Int × Int × Int × Int)) => Option.bind (chkM (2 : Int) (lenM r))
  fun (r_1 : Unit) => Option.bind (setM r (2 : Int) fun (x : Int × Int × Int × Int × Int) => some (x.1, x.2.1, (111 : Int), x.2.2.2)) fun (r_2 : List (Int × Int
  × Int × Int × Int)) => Option.bind (m14F (((3 : Int), [((0 : Int), (0 : Int), (0 : Int), (2 : Int))], [((0 : Int), (1 : Int), (100 : Int), (0 : Int), (3 :
  Int)), ((1 : Int), (2 : Int), (0 : Int), (50 : Int), (1 : Int)), ((0 : Int), (2 : Int), (104 : Int), (48 : Int), (2 : Int))]), (0 : Int))) fun (r_3 : (Int ×
  Int × Int × Int) × Int) => Option.bind (m14F (((3 : Int), [((0 : Int), (0 : Int), (0 : Int), (2 : Int))], [((0 : Int), (1 : Int), (100 : Int), (0 : Int), (3 :
  Int)), ((1 : Int), (2 : Int), (0 : Int), (50 : Int), (1 : Int)), ((0 : Int), (2 : Int), (104 : Int), (48 : Int), (2 : Int))]), (1 : Int))) fun (r_4 : (Int ×
  Int × Int × Int) × Int) => Option.bind (m14F (((3 : Int), [((0 : Int), (0 : Int), (0 : Int), (2 : Int))], [((0 : Int), (1 : Int), (100 : Int), (0 : Int), (3 :
  Int)), ((1 : Int), (2 : Int), (0 : Int), (50 : Int), (1 : Int)), ((0 : Int), (2 : Int), (104 : Int), (48 : Int), (2 : Int))]), (2 : Int))) fun (r_5 : (Int ×
  Int × Int × Int) × Int) => Option.bind (m22F (((3 : Int), [((0 : Int), (0 : Int), (0 : Int), (2 : Int))], [((0 : Int), (1 : Int), (100 : Int), (0 : Int), (3 :
  Int)), ((1 : Int), (2 : Int), (0 : Int), (50 : Int), (1 : Int)), ((0 : Int), (2 : Int), (104 : Int), (48 : Int), (2 : Int))]), (0 : Int), (2 : Int))) fun (r_6
  : (Int × Int × Int × Int) × Int) => Option.bind (m25F ((3 : Int), [((0 : Int), (0 : Int), (0 : Int), (2 : Int))], [((0 : Int), (1 : Int), (100 : Int), (0 :
  Int), (3 : Int)), ((1 : Int), (2 : Int), (0 : Int), (50 : Int), (1 : Int)), ((0 : Int), (2 : Int), (104 : Int), (48 : Int), (2 : Int))])) fun (r_7 : (List Int
  × List Int × Int) × Int) => Option.bind (m10F ((3 : Int), [((0 : Int), (0 : Int), (0 : Int), (2 : Int))], r_2)) fun (r_8 : List Int × Bool) => Option.bind
  (m10F ((3 : Int), [((0 : Int), (0 : Int), (0 : Int), (2 : Int))], [((0 : Int), (1 : Int), (100 : Int), (0 : Int), (3 : Int)), ((1 : Int), (2 : Int), (0 :
  Int), (50 : Int), (1 : Int)), ((0 : Int), (2 : Int), (104 : Int), (48 : Int), (2 : Int))])) fun (r_9 : List Int × Bool) => Option.bind (m14F (((3 : Int), [((0
  : Int), (0 : Int), (0 : Int), (2 : Int))], r_2), (0 : Int))) fun (r_10 : (Int × Int × Int × Int) × Int) => bif PE.orM (PE.orM (PE.orM (PE.orM (PE.orM (PE.orM
  (PE.orM (PE.notM (eqM r_3.2 (0 : Int))) (PE.notM (eqM r_4.2 (0 : Int)))) (PE.notM (eqM r_5.2 (0 : Int)))) (PE.notM (eqM r_6.2 (0 : Int)))) (PE.notM (eqM r_7.2
  (0 : Int)))) (PE.notM (eqM r_10.2 (100 : Int)))) (PE.notM r_8.2)) r_9.2 then some false else Option.bind (m26F ((r_7.1.1, r_7.1.2.1, r_7.1.2.2), [(0 : Int),
  (304 : Int), (308 : Int)], [(0 : Int), (-2 : Int), (146 : Int)], (3 : Int))) fun (r_11 : Bool) => Option.bind (m17F (((3 : Int), [((0 : Int), (0 : Int), (0 :
  Int), (2 : Int))], [((0 : Int), (1 : Int), (100 : Int), (0 : Int), (3 : Int)), ((1 : Int), (2 : Int), (0 : Int), (50 : Int), (1 : Int)), ((0 : Int), (2 :
  Int), (104 : Int), (48 : Int), (2 : Int))]), [((0 : Int), (0 : Int)), ((101 : Int), (-1 : Int)), ((102 : Int), (48 : Int))])) fun (r_12 : Bool) => Option.bind
  (bif r_12 then m17F (((3 : Int), [((0 : Int), (0 : Int), (0 : Int), (2 : Int))], [((0 : Int), (1 : Int), (100 : Int), (0 : Int), (3 : Int)), ((1 : Int), (2 :
  Int), (0 : Int), (50 : Int), (1 : Int)), ((0 : Int), (2 : Int), (104 : Int), (48 : Int), (2 : Int))]), [((0 : Int), (0 : Int)), ((104 : Int), (-1 : Int)),
  ((103 : Int), (48 : Int))]) else some false) fun (r_13 : Bool) => Option.bind (bif PE.andM (PE.andM (PE.andM (PE.andM (PE.andM (PE.andM (eqM r_3.1.1 (-2 :
  Int)) (PE.andM (eqM r_3.1.2.1 (2 : Int)) (PE.andM (eqM r_3.1.2.2.1 (-2 : Int)) (eqM r_3.1.2.2.2 (2 : Int))))) (PE.andM (eqM r_4.1.1 (99 : Int)) (PE.andM (eqM
  r_4.1.2.1 (105 : Int)) (PE.andM (eqM r_4.1.2.2.1 (-5 : Int)) (eqM r_4.1.2.2.2 (3 : Int)))))) (PE.andM (eqM r_5.1.1 (100 : Int)) (PE.andM (eqM r_5.1.2.1 (106 :
  Int)) (PE.andM (eqM r_5.1.2.2.1 (44 : Int)) (eqM r_5.1.2.2.2 (52 : Int)))))) (PE.andM (eqM r_6.1.1 (102 : Int)) (PE.andM (eqM r_6.1.2.1 (104 : Int)) (PE.andM
  (eqM r_6.1.2.2.1 (46 : Int)) (eqM r_6.1.2.2.2 (50 : Int)))))) r_11) (PE.andM r_12 (PE.notM r_13)) then m24F (r_8.1, [(1 : Int), (2 : Int), (3 : Int)]) else
  some false) fun (r_14 : Bool) => Option.bind (bif PE.andM (PE.andM (PE.andM (PE.andM (PE.andM (PE.andM (PE.andM (eqM r_3.1.1 (-2 : Int)) (PE.andM (eqM
  r_3.1.2.1 (2 : Int)) (PE.andM (eqM r_3.1.2.2.1 (-2 : Int)) (eqM r_3.1.2.2.2 (2 : Int))))) (PE.andM (eqM r_4.1.1 (99 : Int)) (PE.andM (eqM r_4.1.2.1 (105 :
  Int)) (PE.andM (eqM r_4.1.2.2.1 (-5 : Int)) (eqM r_4.1.2.2.2 (3 : Int)))))) (PE.andM (eqM r_5.1.1 (100 : Int)) (PE.andM (eqM r_5.1.2.1 (106 : Int)) (PE.andM
  (eqM r_5.1.2.2.1 (44 : Int)) (eqM r_5.1.2.2.2 (52 : Int)))))) (PE.andM (eqM r_6.1.1 (102 : Int)) (PE.andM (eqM r_6.1.2.1 (104 : Int)) (PE.andM (eqM
  r_6.1.2.2.1 (46 : Int)) (eqM r_6.1.2.2.2 (50 : Int)))))) r_11) (PE.andM r_12 (PE.notM r_13))) r_14 then m18F ((3 : Int), [((0 : Int), (0 : Int), (0 : Int), (2
  : Int))], [((0 : Int), (1 : Int), (100 : Int), (0 : Int), (3 : Int)), ((1 : Int), (2 : Int), (0 : Int), (50 : Int), (1 : Int)), ((0 : Int), (2 : Int), (104 :
  Int), (48 : Int), (2 : Int))]) else some false) fun (r_15 : Bool) => Option.bind (bif PE.andM (PE.andM (PE.andM (PE.andM (PE.andM (PE.andM (PE.andM (PE.andM
  (eqM r_3.1.1 (-2 : Int)) (PE.andM (eqM r_3.1.2.1 (2 : Int)) (PE.andM (eqM r_3.1.2.2.1 (-2 : Int)) (eqM r_3.1.2.2.2 (2 : Int))))) (PE.andM (eqM r_4.1.1 (99 :
  Int)) (PE.andM (eqM r_4.1.2.1 (105 : Int)) (PE.andM (eqM r_4.1.2.2.1 (-5 : Int)) (eqM r_4.1.2.2.2 (3 : Int)))))) (PE.andM (eqM r_5.1.1 (100 : Int)) (PE.andM
  (eqM r_5.1.2.1 (106 : Int)) (PE.andM (eqM r_5.1.2.2.1 (44 : Int)) (eqM r_5.1.2.2.2 (52 : Int)))))) (PE.andM (eqM r_6.1.1 (102 : Int)) (PE.andM (eqM r_6.1.2.1
  (104 : Int)) (PE.andM (eqM r_6.1.2.2.1 (46 : Int)) (eqM r_6.1.2.2.2 (50 : Int)))))) r_11) (PE.andM r_12 (PE.notM r_13))) r_14) r_15 then m18F ((9 : Int), [],
  []) else some false) fun (r : Bool) => some (PE.andM (PE.andM (PE.andM (PE.andM (PE.andM (PE.andM (PE.andM (PE.andM (PE.andM (eqM r_3.1.1 (-2 : Int)) (PE.andM
  (eqM r_3.1.2.1 (2 : Int)) (PE.andM (eqM r_3.1.2.2.1 (-2 : Int)) (eqM r_3.1.2.2.2 (2 : Int))))) (PE.andM (eqM r_4.1.1 (99 : Int)) (PE.andM (eqM r_4.1.2.1 (105
  : Int)) (PE.andM (eqM r_4.1.2.2.1 (-5 : Int)) (eqM r_4.1.2.2.2 (3 : Int)))))) (PE.andM (eqM r_5.1.1 (100 : Int)) (PE.andM (eqM r_5.1.2.1 (106 : Int)) (PE.andM
  (eqM r_5.1.2.2.1 (44 : Int)) (eqM r_5.1.2.2.2 (52 : Int)))))) (PE.andM (eqM r_6.1.1 (102 : Int)) (PE.andM (eqM r_6.1.2.1 (104 : Int)) (PE.andM (eqM
  r_6.1.2.2.1 (46 : Int)) (eqM r_6.1.2.2.2 (50 : Int)))))) r_11) (PE.andM r_12 (PE.notM r_13))) r_14) r_15) (PE.notM r))
theorem le8 (x) : Le (m8F x) (m8 x) := by
  unfold m8F m8
  repeat' first | exact le10 _ | exact le14 _ | exact le17 _ | exact le18 _ | exact le22 _ | exact le24 _ | exact le25 _ | exact le26 _ | with_reducible exact Le.refl _ | intro _ | apply Le.bind | apply Le.cond | apply Le.nil | apply Le.loop | apply Le.elim
end Go.Proofs.Ytklddmmnggcffaa
/-
  Network: the self-test of the laws answers true.
  No conditions.
-/
namespace Go.Proofs.Ytklddmmnggcffaa
open Go Go.Abs Go.PE
set_option maxRecDepth 100000 in
theorem saneF : m8F () = some true := by kernel_rfl
theorem sane_ok : m8 () = some true := (le8 ()).out saneF
end Go.Proofs.Ytklddmmnggcffaa
/-
  Network: what is valid, and the bounds of both axes.
  No conditions.
-/
namespace Go.Proofs.Ytklddmmnggcffaa
open Go Go.Abs Go.PE
set_option linter.unusedVariables false
abbrev Fix := Int × Int × Int × Int
abbrev Sgt := Int × Int × Int × Int × Int
abbrev Net := Int × List Fix × List Sgt
def inB (a b c : Int) : Bool := decide (b ≤ a) && decide (a ≤ c)
theorem inB_iff {a b c : Int} : inB a b c = true ↔ b ≤ a ∧ a ≤ c := by simp [inB]
def nearB (x y l : Int) : Bool := inB x (-l) l && inB y (-l) l
def fixB (n : Int) (f : Fix) : Bool := inB f.1 0 (n - 1) && nearB f.2.1 f.2.2.1 10000 && inB f.2.2.2 0 1000
def sgtB (n : Int) (s : Sgt) : Bool := inB s.1 0 (n - 1) && inB s.2.1 0 (n - 1) && !decide (s.1 = s.2.1) && nearB s.2.2.1 s.2.2.2.1 10000 && inB s.2.2.2.2 0 1000
def nval (c : Net) : Bool := (inB c.1 0 8 && decide (c.2.1.length ≤ 8) && decide (c.2.2.length ≤ 20)) && (c.2.1.all (fixB c.1) && c.2.2.all (sgtB c.1))
theorem m38_eq (a b c : Int) : m38 (a, b, c) = some (inB a b c) := rfl
theorem m42_eq {x y l : Int} (h1 : -9223372036854775808 < l) (h2 : l ≤ 9223372036854775807) : m42 (x, y, l) = some (nearB x y l) := by
  have e : IntKind.wrap IntKind.i64 (negM l) = -l := wrap_in (n := -l) (by omega) (by omega)
  unfold m42 nearB
  dsimp only
  rw [e, m38_eq, m38_eq, Option.bind_some]
  cases inB x (-l) l <;> rfl
theorem not_any {α : Type} (xs : List α) (p : α → Bool) : (!xs.any fun x => !p x) = xs.all p := by
  rw [List.not_any_eq_all_not]
  simp
theorem m18_eq (c : Net) : m18 c = some (nval c) := by
  obtain ⟨n, fs, ss⟩ := c
  unfold m18 nval
  dsimp only
  rw [m38_eq, Option.bind_some]
  by_cases h : inB n 0 8 = true ∧ fs.length ≤ 8 ∧ ss.length ≤ 20
  · obtain ⟨h1, h2, h3⟩ := h
    have hn := inB_iff.1 h1
    have e0 : IntKind.wrap IntKind.i64 (n - 1) = n - 1 := wrap_in (by omega) (by omega)
    rw [h1, geI (a := 8) (by show (fs.length : Int) ≤ 8; omega), geI (a := 20) (by show (ss.length : Int) ≤ 20; omega), decide_eq_true h2, decide_eq_true h3]
    show Option.bind _ _ = _
    have L1 := any_loop (xs := fs) (fun f => !fixB n f) (body := fun (s : Int) =>
                bif ltM s (lenM fs) then
                  Option.bind (idxM fs s) fun (r_1 : Int × Int × Int × Int) =>
                    Option.bind (m38 (r_1.1, (0 : Int), IntKind.wrap IntKind.i64 (n - (1 : Int)))) fun (r_2 : Bool) =>
                      Option.bind (bif PE.notM (PE.notM r_2) then m42 (r_1.2.1, r_1.2.2.1, (10000 : Int)) else some false)
                        fun (r_3 : Bool) =>
                        Option.bind
                          (bif PE.notM (PE.orM (PE.notM r_2) (PE.notM r_3)) then m38 (r_1.2.2.2, (0 : Int), (1000 : Int))
                          else some false)
                          fun (r : Bool) =>
                          bif PE.orM (PE.orM (PE.notM r_2) (PE.notM r_3)) (PE.notM r) then some (Sum.inr (Sum.inr s))
                          else some (Sum.inl (IntKind.wrap IntKind.i64 (s + (1 : Int))))
                else some (Sum.inr (Sum.inl ()))) (fun k hk => by
        rw [ltI (by show (k : Int) < (fs.length : Int); omega), cond_true, idxM_lt hk, Option.bind_some, m38_eq, Option.bind_some, m42_eq (by omega) (by omega), m38_eq, e0, wrap_in (n := (k : Int) + 1) (by omega) (by omega)]
        unfold fixB
        generalize fs[k] = f
        cases inB f.1 0 (n - 1) <;> cases nearB f.2.1 f.2.2.1 10000 <;> cases inB f.2.2.2 0 1000 <;> rfl) (by rw [geI (by show (fs.length : Int) ≤ (fs.length : Int); omega), cond_false])
    have L2 := any_loop (xs := ss) (fun f => !sgtB n f) (body := fun (s : Int) =>
                      bif ltM s (lenM ss) then
                        Option.bind (idxM ss s) fun (r_1 : Int × Int × Int × Int × Int) =>
                          Option.bind (m38 (r_1.1, (0 : Int), IntKind.wrap IntKind.i64 (n - (1 : Int))))
                            fun (r_2 : Bool) =>
                            Option.bind
                              (bif PE.notM (PE.notM r_2) then
                                m38 (r_1.2.1, (0 : Int), IntKind.wrap IntKind.i64 (n - (1 : Int)))
                              else some false)
                              fun (r_3 : Bool) =>
                              Option.bind
                                (bif PE.notM (PE.orM (PE.orM (PE.notM r_2) (PE.notM r_3)) (eqM r_1.1 r_1.2.1)) then
                                  m42 (r_1.2.2.1, r_1.2.2.2.1, (10000 : Int))
                                else some false)
                                fun (r_4 : Bool) =>
                                Option.bind
                                  (bif
                                      PE.notM
                                        (PE.orM (PE.orM (PE.orM (PE.notM r_2) (PE.notM r_3)) (eqM r_1.1 r_1.2.1))
                                          (PE.notM r_4)) then
                                    m38 (r_1.2.2.2.2, (0 : Int), (1000 : Int))
                                  else some false)
                                  fun (r : Bool) =>
                                  bif
                                      PE.orM
                                        (PE.orM (PE.orM (PE.orM (PE.notM r_2) (PE.notM r_3)) (eqM r_1.1 r_1.2.1))
                                          (PE.notM r_4))
                                        (PE.notM r) then
                                    some (Sum.inr (Sum.inr s))
                                  else some (Sum.inl (IntKind.wrap IntKind.i64 (s + (1 : Int))))
                      else some (Sum.inr (Sum.inl ()))) (fun k hk => by
        rw [ltI (by show (k : Int) < (ss.length : Int); omega), cond_true, idxM_lt hk, Option.bind_some, m38_eq, Option.bind_some, m38_eq, m42_eq (by omega) (by omega), m38_eq, e0, wrap_in (n := (k : Int) + 1) (by omega) (by omega)]
        unfold sgtB
        generalize ss[k] = f
        have ee : eqM f.1 f.2.1 = decide (f.1 = f.2.1) := rfl
        rw [ee]
        cases inB f.1 0 (n - 1) <;> cases inB f.2.1 0 (n - 1) <;> cases decide (f.1 = f.2.1) <;> cases nearB f.2.2.1 f.2.2.2.1 10000 <;> cases inB f.2.2.2.2 0 1000 <;> rfl) (by rw [geI (by show (ss.length : Int) ≤ (ss.length : Int); omega), cond_false])
    obtain ⟨ov, hov, hb⟩ := Option.bind_eq_some_iff.1 L1
    have hb := Option.some.inj hb
    refine bind_of hov ?_
    rw [hb]
    have e9 : ∀ b : Bool, (Option.bind (bif PE.notM b then (some (ss.any fun f => !sgtB n f)) else some false) fun (ov_1 : Bool) => some (PE.andM (PE.notM b) (PE.notM ov_1))) = some (!b && !ss.any fun f => !sgtB n f) := fun b => by cases b <;> rfl
    rw [L2, e9]
    rw [← not_any fs (fixB n), ← not_any ss (sgtB n)]
    rfl
  · have e1 : PE.orM (PE.orM (PE.notM (inB n 0 8)) (ltM 8 (lenM fs))) (ltM 20 (lenM ss)) = !(inB n 0 8 && decide (fs.length ≤ 8) && decide (ss.length ≤ 20)) := by
      have a1 : ltM 8 (lenM fs) = !decide (fs.length ≤ 8) := by
        by_cases h8 : fs.length ≤ 8
        · rw [geI (by show (fs.length : Int) ≤ 8; omega), decide_eq_true h8]; rfl
        · rw [ltI (by show (8 : Int) < (fs.length : Int); omega), decide_eq_false h8]; rfl
      have a2 : ltM 20 (lenM ss) = !decide (ss.length ≤ 20) := by
        by_cases h8 : ss.length ≤ 20
        · rw [geI (by show (ss.length : Int) ≤ 20; omega), decide_eq_true h8]; rfl
        · rw [ltI (by show (20 : Int) < (ss.length : Int); omega), decide_eq_false h8]; rfl
      rw [a1, a2]
      cases inB n 0 8 <;> cases decide (fs.length ≤ 8) <;> cases decide (ss.length ≤ 20) <;> rfl
    have e2 : (inB n 0 8 && decide (fs.length ≤ 8) && decide (ss.length ≤ 20)) = false := by
      rw [Bool.eq_false_iff]
      intro hh
      simp only [Bool.and_eq_true, decide_eq_true_eq] at hh
      exact h ⟨hh.1.1, hh.1.2, hh.2⟩
    rw [e1, e2]
    rfl
end Go.Proofs.Ytklddmmnggcffaa
/-
  Network: the bounds of both axes.
  No conditions.
-/
namespace Go.Proofs.Ytklddmmnggcffaa
open Go Go.Abs Go.PE
set_option linter.unusedVariables false
abbrev Obs := Int × Int × Int × Int
def two (o : Obs) : List (Int × Int × Int) := [(o.1, o.2.1, o.2.2.1 + o.2.2.2), (o.2.1, o.1, o.2.2.2 - o.2.2.1)]
def bds (os : List Obs) : List (Int × Int × Int) := os.flatMap two
def fOb (d : Fix → Int) (n : Int) (f : Fix) : Obs := (n, f.1, d f, f.2.2.2)
def sOb (d : Sgt → Int) (s : Sgt) : Obs := (s.1, s.2.1, d s, s.2.2.2.2)
def obs (d1 : Fix → Int) (d2 : Sgt → Int) (c : Net) : List Obs := c.2.1.map (fOb d1 c.1) ++ c.2.2.map (sOb d2)
def fX (f : Fix) : Int := f.2.1
def fY (f : Fix) : Int := f.2.2.1
def sX (s : Sgt) : Int := s.2.2.1
def sY (s : Sgt) : Int := s.2.2.2.1
def obX (c : Net) : List Obs := obs fX sX c
def obY (c : Net) : List Obs := obs fY sY c
def axX (c : Net) : Sys := (c.1 + 1, bds (obX c))
def axY (c : Net) : Sys := (c.1 + 1, bds (obY c))
theorem bds_len (os : List Obs) : (bds os).length = 2 * os.length := by
  induction os with
  | nil => rfl
  | cons o r ih =>
    show (two o ++ bds r).length = _
    rw [List.length_append, ih]
    simp [two]; omega
theorem bds_app (a b : List Obs) : bds (a ++ b) = bds a ++ bds b := by
  unfold bds
  rw [List.flatMap_append]
theorem bds_step {α : Type} {f : α → Obs} {xs : List α} {k : Nat} (hk : k < xs.length) : bds ((xs.take (k + 1)).map f) = bds ((xs.take k).map f) ++ two (f xs[k]) := by
  rw [List.take_succ_eq_append_getElem hk, List.map_append, bds_app]
  simp [bds]
theorem mem_bds {os : List Obs} {a b m : Int} : (a, b, m) ∈ bds os ↔ ∃ o ∈ os, (a = o.1 ∧ b = o.2.1 ∧ m = o.2.2.1 + o.2.2.2) ∨ (a = o.2.1 ∧ b = o.1 ∧ m = o.2.2.2 - o.2.2.1) := by
  unfold bds
  rw [List.mem_flatMap]
  constructor
  · rintro ⟨o, ho, h⟩
    refine ⟨o, ho, ?_⟩
    unfold two at h
    rcases List.mem_cons.1 h with h | h
    · injection h with h1 h2
      injection h2 with h2 h3
      exact .inl ⟨h1, h2, h3⟩
    · rcases List.mem_cons.1 h with h | h
      · injection h with h1 h2
        injection h2 with h2 h3
        exact .inr ⟨h1, h2, h3⟩
      · cases h
  · rintro ⟨o, ho, ⟨rfl, rfl, rfl⟩ | ⟨rfl, rfl, rfl⟩⟩
    · exact ⟨o, ho, List.mem_cons_self ..⟩
    · exact ⟨o, ho, List.mem_cons_of_mem _ (List.mem_cons_self ..)⟩
structure NOK (c : Net) : Prop where
  n0 : 0 ≤ c.1
  n8 : c.1 ≤ 8
  fl : c.2.1.length ≤ 8
  sl : c.2.2.length ≤ 20
  fx : ∀ f ∈ c.2.1, 0 ≤ f.1 ∧ f.1 < c.1 ∧ -10000 ≤ f.2.1 ∧ f.2.1 ≤ 10000 ∧ -10000 ≤ f.2.2.1 ∧ f.2.2.1 ≤ 10000 ∧ 0 ≤ f.2.2.2 ∧ f.2.2.2 ≤ 1000
  sg : ∀ s ∈ c.2.2, 0 ≤ s.1 ∧ s.1 < c.1 ∧ 0 ≤ s.2.1 ∧ s.2.1 < c.1 ∧ s.1 ≠ s.2.1 ∧ -10000 ≤ s.2.2.1 ∧ s.2.2.1 ≤ 10000 ∧ -10000 ≤ s.2.2.2.1 ∧ s.2.2.2.1 ≤ 10000 ∧ 0 ≤ s.2.2.2.2 ∧ s.2.2.2.2 ≤ 1000
theorem fixB_iff {n : Int} {f : Fix} : fixB n f = true ↔ 0 ≤ f.1 ∧ f.1 < n ∧ -10000 ≤ f.2.1 ∧ f.2.1 ≤ 10000 ∧ -10000 ≤ f.2.2.1 ∧ f.2.2.1 ≤ 10000 ∧ 0 ≤ f.2.2.2 ∧ f.2.2.2 ≤ 1000 := by
  unfold fixB nearB
  simp only [Bool.and_eq_true, inB_iff]
  constructor
  · rintro ⟨⟨⟨h1, h2⟩, ⟨h3, h4⟩, h5, h6⟩, h7, h8⟩
    exact ⟨h1, by omega, h3, h4, h5, h6, h7, h8⟩
  · rintro ⟨h1, h2, h3, h4, h5, h6, h7, h8⟩
    exact ⟨⟨⟨h1, by omega⟩, ⟨h3, h4⟩, h5, h6⟩, h7, h8⟩
theorem sgtB_iff {n : Int} {s : Sgt} : sgtB n s = true ↔ 0 ≤ s.1 ∧ s.1 < n ∧ 0 ≤ s.2.1 ∧ s.2.1 < n ∧ s.1 ≠ s.2.1 ∧ -10000 ≤ s.2.2.1 ∧ s.2.2.1 ≤ 10000 ∧ -10000 ≤ s.2.2.2.1 ∧ s.2.2.2.1 ≤ 10000 ∧ 0 ≤ s.2.2.2.2 ∧ s.2.2.2.2 ≤ 1000 := by
  unfold sgtB nearB
  simp only [Bool.and_eq_true, inB_iff, Bool.not_eq_true', decide_eq_false_iff_not]
  constructor
  · rintro ⟨⟨⟨⟨⟨h1, h2⟩, h3, h4⟩, h5⟩, ⟨h6, h7⟩, h8, h9⟩, h10, h11⟩
    exact ⟨h1, by omega, h3, by omega, h5, h6, h7, h8, h9, h10, h11⟩
  · rintro ⟨h1, h2, h3, h4, h5, h6, h7, h8, h9, h10, h11⟩
    exact ⟨⟨⟨⟨⟨h1, by omega⟩, h3, by omega⟩, h5⟩, ⟨h6, h7⟩, h8, h9⟩, h10, h11⟩
theorem nval_iff {c : Net} : nval c = true ↔ NOK c := by
  unfold nval
  simp only [Bool.and_eq_true, inB_iff, decide_eq_true_eq, List.all_eq_true, fixB_iff, sgtB_iff]
  constructor
  · rintro ⟨⟨⟨⟨h1, h2⟩, h3⟩, h4⟩, h5, h6⟩
    exact ⟨h1, h2, h3, h4, h5, h6⟩
  · rintro ⟨h1, h2, h3, h4, h5, h6⟩
    exact ⟨⟨⟨⟨h1, h2⟩, h3⟩, h4⟩, h5, h6⟩
def dOk (d1 : Fix → Int) (d2 : Sgt → Int) (c : Net) : Prop := (∀ f ∈ c.2.1, -10000 ≤ d1 f ∧ d1 f ≤ 10000) ∧ ∀ s ∈ c.2.2, -10000 ≤ d2 s ∧ d2 s ≤ 10000
theorem NOK.dx {c : Net} (h : NOK c) : dOk fX sX c := ⟨fun f hf => by have := h.fx f hf; unfold fX; omega, fun s hs => by have := h.sg s hs; unfold sX; omega⟩
theorem NOK.dy {c : Net} (h : NOK c) : dOk fY sY c := ⟨fun f hf => by have := h.fx f hf; unfold fY; omega, fun s hs => by have := h.sg s hs; unfold sY; omega⟩
theorem obs_len (d1 : Fix → Int) (d2 : Sgt → Int) (c : Net) : (obs d1 d2 c).length = c.2.1.length + c.2.2.length := by simp [obs]
theorem obs_mem {c : Net} (h : NOK c) {d1 : Fix → Int} {d2 : Sgt → Int} (hd : dOk d1 d2 c) {o : Obs} (ho : o ∈ obs d1 d2 c) : 0 ≤ o.1 ∧ o.1 ≤ c.1 ∧ 0 ≤ o.2.1 ∧ o.2.1 < c.1 ∧ o.1 ≠ o.2.1 ∧ -10000 ≤ o.2.2.1 ∧ o.2.2.1 ≤ 10000 ∧ 0 ≤ o.2.2.2 ∧ o.2.2.2 ≤ 1000 := by
  rcases List.mem_append.1 ho with ho | ho
  · obtain ⟨f, hf, rfl⟩ := List.mem_map.1 ho
    have h1 := h.fx f hf
    have h2 := hd.1 f hf
    have h0 := h.n0
    unfold fOb
    dsimp only
    omega
  · obtain ⟨s, hs, rfl⟩ := List.mem_map.1 ho
    have h1 := h.sg s hs
    have h2 := hd.2 s hs
    unfold sOb
    dsimp only
    omega
theorem ax_sys {c : Net} (h : NOK c) {d1 : Fix → Int} {d2 : Sgt → Int} (hd : dOk d1 d2 c) : sys (c.1 + 1, bds (obs d1 d2 c)) = true := by
  unfold sys
  rw [Bool.and_eq_true]
  have h0 := h.n0
  have h8 := h.n8
  have hf := h.fl
  have hs := h.sl
  refine ⟨decide_eq_true ⟨by show 0 ≤ c.1 + 1; omega, by show c.1 + 1 ≤ 16; omega, by show (bds _).length ≤ 60; rw [bds_len, obs_len]; omega⟩, List.all_eq_true.2 fun b hb => ?_⟩
  obtain ⟨a, b', m⟩ := b
  obtain ⟨o, ho, hh⟩ := mem_bds.1 hb
  have hm := obs_mem h hd ho
  unfold bnd
  apply decide_eq_true
  dsimp only
  rcases hh with ⟨rfl, rfl, rfl⟩ | ⟨rfl, rfl, rfl⟩ <;> omega
theorem sysX {c : Net} (h : NOK c) : sys (axX c) = true := ax_sys h h.dx
theorem sysY {c : Net} (h : NOK c) : sys (axY c) = true := ax_sys h h.dy
theorem axX_n {c : Net} (h : NOK c) : (axX c).1.toNat = c.1.toNat + 1 := by
  have h0 := h.n0
  show (c.1 + 1).toNat = _
  omega
theorem axY_n {c : Net} (h : NOK c) : (axY c).1.toNat = c.1.toNat + 1 := by
  have h0 := h.n0
  show (c.1 + 1).toNat = _
  omega
theorem app_two {bs : List (Int × Int × Int)} {a b d t : Int} (hl : bs.length ≤ 1000) (h1 : -10000 ≤ d) (h2 : d ≤ 10000) (h3 : 0 ≤ t) (h4 : t ≤ 1000) :
    appM (nat_lit 24) bs [(a, b, IntKind.wrap IntKind.i64 (d + t)), (b, a, IntKind.wrap IntKind.i64 (t - d))] = some (bs ++ two (a, b, d, t)) := by
  rw [wrap_in (n := d + t) (by omega) (by omega), wrap_in (n := t - d) (by omega) (by omega)]
  exact appM_of (by simp; omega)
theorem m32_eq {c : Net} (h : NOK c) : m32 c = some (axX c, axY c) := by
  obtain ⟨n, fs, ss⟩ := c
  have h0 := h.n0
  have h8 := h.n8
  have hfl := h.fl
  have hsl := h.sl
  have hfx := h.fx
  have hsg := h.sg
  dsimp only at h0 h8 hfl hsl hfx hsg
  have e1 : IntKind.wrap IntKind.i64 (n + 1) = n + 1 := wrap_in (by omega) (by omega)
  unfold m32
  dsimp only
  rw [e1]
  refine bind_of (x := (n + 1, n + 1, bds (fs.map (fOb fX n)), bds (fs.map (fOb fY n)))) ?_ ?_
  · refine count_loop (fun k => (n + 1, n + 1, bds ((fs.take k).map (fOb fX n)), bds ((fs.take k).map (fOb fY n)))) fs.length (fun k hk => ?_) ?_
    · have hb := hfx _ (List.getElem_mem hk)
      dsimp only
      rw [ltI (by show (k : Int) < (fs.length : Int); omega), cond_true, idxM_lt hk, Option.bind_some]
      show Option.bind (some fs[k].2.1) _ = _
      rw [Option.bind_some, app_two (by rw [bds_len]; simp; omega) (by omega) (by omega) (by omega) (by omega), Option.bind_some]
      show Option.bind (some fs[k].2.2.1) _ = _
      rw [Option.bind_some, app_two (by rw [bds_len]; simp; omega) (by omega) (by omega) (by omega) (by omega), Option.bind_some, bds_step hk, bds_step hk, wrap_in (by omega) (by omega)]
      rfl
    · dsimp only
      rw [geI (by show (fs.length : Int) ≤ (fs.length : Int); omega), cond_false, List.take_length]
  dsimp only
  refine bind_of (x := (n + 1, n + 1, bds (obX (n, fs, ss)), bds (obY (n, fs, ss)))) ?_ rfl
  have ex : bds (obX (n, fs, ss)) = bds (fs.map (fOb fX n)) ++ bds ((ss.take ss.length).map (sOb sX)) := by rw [List.take_length]; exact bds_app _ _
  have ey : bds (obY (n, fs, ss)) = bds (fs.map (fOb fY n)) ++ bds ((ss.take ss.length).map (sOb sY)) := by rw [List.take_length]; exact bds_app _ _
  rw [ex, ey]
  have e00 : ∀ g : Fix → Obs, bds (fs.map g) = bds (fs.map g) ++ bds ((ss.take 0).map (sOb sX)) := fun g => by simp [bds]
  have e01 : ∀ g : Fix → Obs, bds (fs.map g) = bds (fs.map g) ++ bds ((ss.take 0).map (sOb sY)) := fun g => by simp [bds]
  have hlen : ∀ (g : Fix → Obs) (d : Sgt → Int) k, k < ss.length → (bds (fs.map g) ++ bds ((ss.take k).map (sOb d))).length ≤ 1000 := fun g d k hk => by
    rw [List.length_append, bds_len, bds_len]; simp; omega
  have L := count_loop (body := fun (s : Int × Int × Int × List (Int × Int × Int) × List (Int × Int × Int)) =>
            bif ltM s.1 (lenM ss) then
              Option.bind (idxM ss s.1) fun (r : Int × Int × Int × Int × Int) =>
                Option.bind (m53 (r.2.2.1, r.2.2.2.1)) fun (r_1 : Int) =>
                  Option.bind
                    (appM (nat_lit 24) s.2.2.2.1
                      [(r.1, r.2.1, IntKind.wrap IntKind.i64 (r_1 + r.2.2.2.2)),
                        (r.2.1, r.1, IntKind.wrap IntKind.i64 (r.2.2.2.2 - r_1))])
                    fun (r_2 : List (Int × Int × Int)) =>
                    Option.bind (m54 (r.2.2.1, r.2.2.2.1)) fun (r_3 : Int) =>
                      Option.bind
                        (appM (nat_lit 24) s.2.2.2.2
                          [(r.1, r.2.1, IntKind.wrap IntKind.i64 (r_3 + r.2.2.2.2)),
                            (r.2.1, r.1, IntKind.wrap IntKind.i64 (r.2.2.2.2 - r_3))])
                        fun (r : List (Int × Int × Int)) =>
                        some (Sum.inl (IntKind.wrap IntKind.i64 (s.1 + (1 : Int)), s.2.1, s.2.2.1, r_2, r))
            else some (Sum.inr (s.2.1, s.2.2.1, s.2.2.2.1, s.2.2.2.2))) (fun k => (n + 1, n + 1, bds (fs.map (fOb fX n)) ++ bds ((ss.take k).map (sOb sX)), bds (fs.map (fOb fY n)) ++ bds ((ss.take k).map (sOb sY)))) ss.length
      (r := (n + 1, n + 1, bds (fs.map (fOb fX n)) ++ bds ((ss.take ss.length).map (sOb sX)), bds (fs.map (fOb fY n)) ++ bds ((ss.take ss.length).map (sOb sY)))) (fun k hk => by
    have hb := hsg _ (List.getElem_mem hk)
    dsimp only
    rw [ltI (by show (k : Int) < (ss.length : Int); omega), cond_true, idxM_lt hk, Option.bind_some]
    show Option.bind (some ss[k].2.2.1) _ = _
    rw [Option.bind_some, app_two (hlen _ _ _ hk) (by omega) (by omega) (by omega) (by omega), Option.bind_some]
    show Option.bind (some ss[k].2.2.2.1) _ = _
    rw [Option.bind_some, app_two (hlen _ _ _ hk) (by omega) (by omega) (by omega) (by omega), Option.bind_some, bds_step hk, bds_step hk, wrap_in (by omega) (by omega), List.append_assoc, List.append_assoc]
    rfl) (by
    dsimp only
    rw [geI (by show (ss.length : Int) ≤ (ss.length : Int); omega), cond_false])
  rw [← e00, ← e01] at L
  exact L
theorem m13_any {c : Net} (h : NOK c) {d1 : Fix → Int} {d2 : Sgt → Int} (hd : dOk d1 d2 c) {ax : Int} (hax : (∀ f : Fix, idxM [f.2.1, f.2.2.1] ax = some (d1 f)) ∧ ∀ s : Sgt, idxM [s.2.2.1, s.2.2.2.1] ax = some (d2 s)) : m13 (c, ax) = some (c.1 + 1, bds (obs d1 d2 c)) := by
  obtain ⟨n, fs, ss⟩ := c
  have h0 := h.n0
  have h8 := h.n8
  have hfl := h.fl
  have hsl := h.sl
  have hfx := h.fx
  have hsg := h.sg
  obtain ⟨hd1, hd2⟩ := hd
  dsimp only at h0 h8 hfl hsl hfx hsg hd1 hd2
  have e1 : IntKind.wrap IntKind.i64 (n + 1) = n + 1 := wrap_in (by omega) (by omega)
  unfold m13
  dsimp only
  rw [e1]
  refine bind_of (x := (n + 1, bds (fs.map (fOb d1 n)))) ?_ ?_
  · refine count_loop (fun k => (n + 1, bds ((fs.take k).map (fOb d1 n)))) fs.length (fun k hk => ?_) ?_
    · have hb := hfx _ (List.getElem_mem hk)
      have hb2 := hd1 _ (List.getElem_mem hk)
      dsimp only
      rw [ltI (by show (k : Int) < (fs.length : Int); omega), cond_true, idxM_lt hk, Option.bind_some, hax.1, Option.bind_some, app_two (by rw [bds_len]; simp; omega) (by omega) (by omega) (by omega) (by omega), Option.bind_some, bds_step hk, wrap_in (by omega) (by omega)]
      rfl
    · dsimp only
      rw [geI (by show (fs.length : Int) ≤ (fs.length : Int); omega), cond_false, List.take_length]
  dsimp only
  refine bind_of (x := (n + 1, bds (obs d1 d2 (n, fs, ss)))) ?_ rfl
  have ex : bds (obs d1 d2 (n, fs, ss)) = bds (fs.map (fOb d1 n)) ++ bds ((ss.take ss.length).map (sOb d2)) := by rw [List.take_length]; exact bds_app _ _
  rw [ex]
  have e00 : bds (fs.map (fOb d1 n)) = bds (fs.map (fOb d1 n)) ++ bds ((ss.take 0).map (sOb d2)) := by simp [bds]
  have L := count_loop (body := fun (s : Int × Int × List (Int × Int × Int)) =>
            bif ltM s.1 (lenM ss) then
              Option.bind (idxM ss s.1) fun (r : Int × Int × Int × Int × Int) =>
                Option.bind (idxM [r.2.2.1, r.2.2.2.1] ax) fun (r_1 : Int) =>
                  Option.bind
                    (appM (nat_lit 24) s.2.2
                      [(r.1, r.2.1, IntKind.wrap IntKind.i64 (r_1 + r.2.2.2.2)),
                        (r.2.1, r.1, IntKind.wrap IntKind.i64 (r.2.2.2.2 - r_1))])
                    fun (r : List (Int × Int × Int)) =>
                    some (Sum.inl (IntKind.wrap IntKind.i64 (s.1 + (1 : Int)), s.2.1, r))
            else some (Sum.inr (s.2.1, s.2.2))) (fun k => (n + 1, bds (fs.map (fOb d1 n)) ++ bds ((ss.take k).map (sOb d2)))) ss.length
      (r := (n + 1, bds (fs.map (fOb d1 n)) ++ bds ((ss.take ss.length).map (sOb d2)))) (fun k hk => by
    have hb := hsg _ (List.getElem_mem hk)
    have hb2 := hd2 _ (List.getElem_mem hk)
    dsimp only
    rw [ltI (by show (k : Int) < (ss.length : Int); omega), cond_true, idxM_lt hk, Option.bind_some, hax.2, Option.bind_some, app_two (by rw [List.length_append, bds_len, bds_len]; simp; omega) (by omega) (by omega) (by omega) (by omega), Option.bind_some, bds_step hk, wrap_in (by omega) (by omega), List.append_assoc]
    rfl) (by
    dsimp only
    rw [geI (by show (ss.length : Int) ≤ (ss.length : Int); omega), cond_false])
  rw [← e00] at L
  exact L
theorem m13_X {c : Net} (h : NOK c) : m13 (c, 0) = some (axX c) := m13_any h h.dx ⟨fun _ => rfl, fun _ => rfl⟩
theorem m13_Y {c : Net} (h : NOK c) : m13 (c, 1) = some (axY c) := m13_any h h.dy ⟨fun _ => rfl, fun _ => rfl⟩
end Go.Proofs.Ytklddmmnggcffaa
/-
  Network: boxes of differences.
  No conditions.
-/
namespace Go.Proofs.Ytklddmmnggcffaa
open Go Go.Abs Go.PE
set_option linter.unusedVariables false
abbrev Bx := Int × Int × Int × Int
theorem wk_map {bs bs' : List (Int × Int × Int)} (h : ∀ a b : Nat, ∀ m : Int, ((a : Int), (b : Int), m) ∈ bs → ∃ m', ((a : Int), (b : Int), m') ∈ bs') {i j : Nat} {w : Int} (hw : Wk bs i j w) : ∃ w', Wk bs' i j w' := by
  induction hw with
  | nil => exact ⟨0, .nil _⟩
  | snoc _ hm ih =>
    obtain ⟨w', h1⟩ := ih
    obtain ⟨m', h2⟩ := h _ _ _ hm
    exact ⟨_, h1.snoc h2⟩
theorem wk_rev {bs bs' : List (Int × Int × Int)} (h : ∀ a b : Nat, ∀ m : Int, ((a : Int), (b : Int), m) ∈ bs → ∃ m', ((b : Int), (a : Int), m') ∈ bs') {i j : Nat} {w : Int} (hw : Wk bs i j w) : ∃ w', Wk bs' j i w' := by
  induction hw with
  | nil => exact ⟨0, .nil _⟩
  | snoc _ hm ih =>
    obtain ⟨w', h1⟩ := ih
    obtain ⟨m', h2⟩ := h _ _ _ hm
    exact ⟨_, .cons h2 h1⟩
theorem obs_other {d1 d1' : Fix → Int} {d2 d2' : Sgt → Int} {c : Net} {o : Obs} (h : o ∈ obs d1 d2 c) : ∃ o' ∈ obs d1' d2' c, o'.1 = o.1 ∧ o'.2.1 = o.2.1 ∧ o'.2.2.2 = o.2.2.2 := by
  rcases List.mem_append.1 h with h | h
  · obtain ⟨f, hf, rfl⟩ := List.mem_map.1 h
    exact ⟨fOb d1' c.1 f, List.mem_append.2 (.inl (List.mem_map.2 ⟨f, hf, rfl⟩)), rfl, rfl, rfl⟩
  · obtain ⟨f, hf, rfl⟩ := List.mem_map.1 h
    exact ⟨sOb d2' f, List.mem_append.2 (.inr (List.mem_map.2 ⟨f, hf, rfl⟩)), rfl, rfl, rfl⟩
theorem bds_other {d1 d1' : Fix → Int} {d2 d2' : Sgt → Int} {c : Net} {a b m : Int} (h : (a, b, m) ∈ bds (obs d1 d2 c)) : (∃ m', (a, b, m') ∈ bds (obs d1' d2' c)) ∧ ∃ m', (b, a, m') ∈ bds (obs d1' d2' c) := by
  obtain ⟨o, ho, hh⟩ := mem_bds.1 h
  obtain ⟨o', ho', e1, e2, _⟩ := obs_other (d1' := d1') (d2' := d2') ho
  rcases hh with ⟨rfl, rfl, rfl⟩ | ⟨rfl, rfl, rfl⟩
  · exact ⟨⟨_, mem_bds.2 ⟨o', ho', .inl ⟨e1.symm, e2.symm, rfl⟩⟩⟩, ⟨_, mem_bds.2 ⟨o', ho', .inr ⟨e2.symm, e1.symm, rfl⟩⟩⟩⟩
  · exact ⟨⟨_, mem_bds.2 ⟨o', ho', .inr ⟨e2.symm, e1.symm, rfl⟩⟩⟩, ⟨_, mem_bds.2 ⟨o', ho', .inl ⟨e1.symm, e2.symm, rfl⟩⟩⟩⟩
/-- Two points are connected. -/
def Cn (c : Net) (i j : Nat) : Prop := ∃ w, Wk (axX c).2 i j w
theorem Cn.refl (c : Net) (i : Nat) : Cn c i i := ⟨0, .nil i⟩
theorem Cn.trans {c : Net} {i j k : Nat} (h : Cn c i j) (h2 : Cn c j k) : Cn c i k := by
  obtain ⟨w, h⟩ := h
  obtain ⟨w2, h2⟩ := h2
  exact ⟨_, h.trans h2⟩
theorem Cn.symm {c : Net} {i j : Nat} (h : Cn c i j) : Cn c j i := by
  obtain ⟨w, h⟩ := h
  exact wk_rev (fun a b m hm => (bds_other hm).2) h
theorem cn_Y {c : Net} {i j : Nat} : Cn c i j ↔ ∃ w, Wk (axY c).2 i j w :=
  ⟨fun ⟨w, h⟩ => wk_map (fun a b m hm => (bds_other hm).1) h, fun ⟨w, h⟩ => wk_map (fun a b m hm => (bds_other hm).1) h⟩
def okN (c : Net) : Bool := !ovS (axX c) && !ovS (axY c)
theorem okN_iff {c : Net} : okN c = true ↔ ovS (axX c) = false ∧ ovS (axY c) = false := by
  unfold okN
  simp
abbrev fX' (c : Net) : Tab := fwS (axX c)
abbrev fY' (c : Net) : Tab := fwS (axY c)
/-- A table of distances of one axis. -/
structure Axis (c : Net) (f : Tab) (bs : List (Int × Int × Int)) : Prop where
  cn : ∀ i j, i ≤ c.1.toNat → j ≤ c.1.toNat → (f i j ≠ 1152921504606846976 ↔ Cn c i j)
  bd : ∀ i j, i ≤ c.1.toNat → j ≤ c.1.toNat → f i j ≠ 1152921504606846976 → -100000000000000000 ≤ f i j ∧ f i j ≤ 100000000000000000
  self : ∀ i, i ≤ c.1.toNat → f i i = 0
  tri : ∀ i k j, i ≤ c.1.toNat → k ≤ c.1.toNat → j ≤ c.1.toNat → Cn c i k → Cn c k j → f i j ≤ f i k + f k j
  wk : ∀ i j, i ≤ c.1.toNat → j ≤ c.1.toNat → Cn c i j → Wk bs i j (f i j)
  le : ∀ i j w, i ≤ c.1.toNat → j ≤ c.1.toNat → Wk bs i j w → f i j ≤ w
theorem axis_of {c : Net} {x : Sys} (hs : sys x = true) (ho : ovS x = false) (hn : x.1.toNat = c.1.toNat + 1) (hcn : ∀ i j, Cn c i j ↔ ∃ w, Wk x.2 i j w) : Axis c (fwS x) x.2 where
  cn i j hi hj := by
    rcases fw_cases hs ho (i := i) (j := j) (by omega) (by omega) with ⟨e, h⟩ | ⟨e1, e2, e3, _⟩
    · rw [hcn]
      exact ⟨fun h' => absurd e h', fun ⟨w, hw⟩ => absurd hw (h w)⟩
    · rw [hcn]
      exact ⟨fun _ => ⟨_, e3⟩, fun _ => by omega⟩
  bd i j hi hj h := by
    rcases fw_cases hs ho (i := i) (j := j) (by omega) (by omega) with ⟨e, _⟩ | ⟨e1, e2, _, _⟩
    · exact absurd e h
    · exact ⟨e1, e2⟩
  self i hi := fw_self ho (by omega)
  tri i k j hi hk hj h1 h2 := by
    have a : ∀ i j, i ≤ c.1.toNat → j ≤ c.1.toNat → Cn c i j → fwS x i j < 1000000000000000000 := fun i j hi hj h => by
      obtain ⟨w, hw⟩ := (hcn i j).1 h
      rcases fw_cases hs ho (i := i) (j := j) (by omega) (by omega) with ⟨_, e⟩ | ⟨_, e, _⟩
      · exact absurd hw (e w)
      · omega
    exact fw_tri' hs ho (by omega) (by omega) (by omega) (a _ _ hi hk h1) (a _ _ hk hj h2)
  wk i j hi hj h := by
    obtain ⟨w, hw⟩ := (hcn i j).1 h
    rcases fw_cases hs ho (i := i) (j := j) (by omega) (by omega) with ⟨_, e⟩ | ⟨_, _, e, _⟩
    · exact absurd hw (e w)
    · exact e
  le i j w hi hj hw := by
    rcases fw_cases hs ho (i := i) (j := j) (by omega) (by omega) with ⟨_, e⟩ | ⟨_, _, _, e⟩
    · exact absurd hw (e w)
    · exact e w hw
theorem axisX {c : Net} (h : NOK c) (ho : okN c = true) : Axis c (fX' c) (axX c).2 := axis_of (sysX h) (okN_iff.1 ho).1 (axX_n h) fun _ _ => Iff.rfl
theorem axisY {c : Net} (h : NOK c) (ho : okN c = true) : Axis c (fY' c) (axY c).2 := axis_of (sysY h) (okN_iff.1 ho).2 (axY_n h) fun _ _ => cn_Y
def cnB (c : Net) (i j : Nat) : Bool := decide (fX' c i j ≠ 1152921504606846976)
def boxR (c : Net) (i j : Nat) : Bx := (-fX' c j i, fX' c i j, -fY' c j i, fY' c i j)
def apM (c : Net) (i j : Nat) : Bx × Int := if okN c = true ∧ cnB c i j = true then (boxR c i j, 0) else ((0, 0, 0, 0), 100)
theorem cnB_iff {c : Net} (h : NOK c) (ho : okN c = true) {i j : Nat} (hi : i ≤ c.1.toNat) (hj : j ≤ c.1.toNat) : cnB c i j = true ↔ Cn c i j := by
  unfold cnB
  rw [decide_eq_true_eq]
  exact (axisX h ho).cn i j hi hj
theorem get2 {β : Type} {n : Nat} {f : Tab} {a b : Nat} (ha : a < n) (hb : b < n) (K : Int → Option β) : (Option.bind (idxM (rt n (fun _ => n) f) (a : Int)) fun r => Option.bind (idxM r (b : Int)) K) = K (f a b) := by
  rw [rt_idx ha, Option.bind_some, row_idx hb, Option.bind_some]
theorem m39_eq {c : Net} (h : NOK c) {i j : Nat} (hi : i ≤ c.1.toNat) (hj : j ≤ c.1.toNat) : m39 (c, (i : Int), (j : Int)) = some (apM c i j) := by
  unfold m39
  dsimp only
  refine bind_of (m32_eq h) ?_
  dsimp only
  have hX := m12_bad (sysX h)
  have hY := m12_bad (sysY h)
  have gX := m12_good (sysX h)
  have gY := m12_good (sysY h)
  unfold apM okN
  cases ox : ovS (axX c) with
  | true =>
    refine bind_of (hX ox) ?_
    cases oy : ovS (axY c) with
    | true =>
      refine bind_of (hY oy) ?_
      rfl
    | false =>
      refine bind_of (gY oy) ?_
      rfl
  | false =>
    refine bind_of (gX ox) ?_
    cases oy : ovS (axY c) with
    | true =>
      refine bind_of (hY oy) ?_
      rfl
    | false =>
      refine bind_of (gY oy) ?_
      have nX := axX_n h
      have nY := axY_n h
      have ho : okN c = true := by unfold okN; rw [ox, oy]; rfl
      have aX := axisX h ho
      have aY := axisY h ho
      dsimp only
      rw [eqI rfl, notT, orF, notF, cond_true, rt_idx (by omega), Option.bind_some, cond_true, row_idx (by omega), Option.bind_some, orF]
      by_cases hc : fX' c i j = 1152921504606846976
      · rw [eqI hc, cond_true, if_neg]
        rintro ⟨_, h2⟩
        unfold cnB at h2
        exact of_decide_eq_true h2 hc
      · have hcn := (aX.cn i j hi hj).1 hc
        have b1 : -100000000000000000 ≤ fwS (axX c) j i ∧ fwS (axX c) j i ≤ 100000000000000000 := aX.bd j i hj hi ((aX.cn j i hj hi).2 hcn.symm)
        have b2 : -100000000000000000 ≤ fwS (axY c) j i ∧ fwS (axY c) j i ≤ 100000000000000000 := aY.bd j i hj hi ((aY.cn j i hj hi).2 hcn.symm)
        have p1 : j < (axX c).1.toNat := by omega
        have p2 : i < (axX c).1.toNat := by omega
        have p3 : j < (axY c).1.toNat := by omega
        have p4 : i < (axY c).1.toNat := by omega
        rw [neI hc, cond_false]
        simp only [rt_idx p1, rt_idx p2, rt_idx p3, rt_idx p4, row_idx p1, row_idx p2, row_idx p3, row_idx p4, Option.bind_some]
        rw [if_pos ⟨rfl, by unfold cnB; exact decide_eq_true hc⟩]
        unfold PE.negM boxR
        rw [wrap_in (n := -fwS (axX c) j i) (by omega) (by omega), wrap_in (n := -fwS (axY c) j i) (by omega) (by omega)]
def err : Bx × Int := ((0, 0, 0, 0), 100)
def aptR (c : Net) (p q : Int) : Bx × Int := if nval c = true ∧ inB p 0 (c.1 - 1) = true ∧ inB q 0 (c.1 - 1) = true then apM c p.toNat q.toNat else err
def boxQ (c : Net) (p : Int) : Bx × Int := if nval c = true ∧ inB p 0 (c.1 - 1) = true then apM c c.1.toNat p.toNat else err
theorem m22_eq (c : Net) (p q : Int) : m22 (c, p, q) = some (aptR c p q) := by
  unfold m22 aptR
  dsimp only
  rw [m18_eq, Option.bind_some]
  cases hv : nval c with
  | false =>
    rw [if_neg (by rintro ⟨h, _⟩; cases h)]
    rfl
  | true =>
    have h := nval_iff.1 hv
    have h0 := h.n0
    have h8 := h.n8
    have e0 : IntKind.wrap IntKind.i64 (c.1 - 1) = c.1 - 1 := wrap_in (by omega) (by omega)
    rw [e0, notT, notF, cond_true, m38_eq, Option.bind_some]
    cases hp : inB p 0 (c.1 - 1) with
    | false =>
      rw [if_neg (by rintro ⟨_, h, _⟩; cases h)]
      rfl
    | true =>
      rw [notT, orF, notF, cond_true, m38_eq, Option.bind_some]
      cases hq : inB q 0 (c.1 - 1) with
      | false =>
        rw [if_neg (by rintro ⟨_, _, h⟩; cases h)]
        rfl
      | true =>
        rw [notT, orF, cond_false, if_pos ⟨rfl, rfl, rfl⟩]
        have h1 := inB_iff.1 hp
        have h2 := inB_iff.1 hq
        obtain ⟨i, rfl⟩ := Int.eq_ofNat_of_zero_le h1.1
        obtain ⟨j, rfl⟩ := Int.eq_ofNat_of_zero_le h2.1
        exact bind_of (m39_eq h (by omega) (by omega)) rfl
theorem m14_eq (c : Net) (p : Int) : m14 (c, p) = some (boxQ c p) := by
  unfold m14 boxQ
  dsimp only
  rw [m18_eq, Option.bind_some]
  cases hv : nval c with
  | false =>
    rw [if_neg (by rintro ⟨h, _⟩; cases h)]
    rfl
  | true =>
    have h := nval_iff.1 hv
    have h0 := h.n0
    have h8 := h.n8
    have e0 : IntKind.wrap IntKind.i64 (c.1 - 1) = c.1 - 1 := wrap_in (by omega) (by omega)
    rw [e0, notT, notF, cond_true, m38_eq, Option.bind_some]
    cases hp : inB p 0 (c.1 - 1) with
    | false =>
      rw [if_neg (by rintro ⟨_, h⟩; cases h)]
      rfl
    | true =>
      rw [notT, orF, cond_false, if_pos ⟨rfl, rfl⟩]
      have h1 := inB_iff.1 hp
      obtain ⟨i, rfl⟩ := Int.eq_ofNat_of_zero_le h1.1
      have e1 : c.1 = ((c.1.toNat : Nat) : Int) := by omega
      have hm := m39_eq h (i := c.1.toNat) (j := i) (by omega) (by omega)
      rw [← e1] at hm
      exact bind_of hm rfl
end Go.Proofs.Ytklddmmnggcffaa
/-
  Network: what integers determine: hidden places, sights, networks.
  No conditions.
-/
namespace Go.Proofs.Ytklddmmnggcffaa
open Go Go.Abs Go.PE
set_option linter.unusedVariables false
abbrev NNum := List (Int × Int) × List Int × List Fix × List Sgt × Int × Int × Int
structure NN (x : NNum) : Prop where
  pl : ∀ p ∈ x.1, i64 p.1 ∧ i64 p.2
  ti : ∀ v ∈ x.2.1, i64 v
  fx : ∀ f ∈ x.2.2.1, i64 f.1 ∧ i64 f.2.1 ∧ i64 f.2.2.1 ∧ i64 f.2.2.2
  sg : ∀ s ∈ x.2.2.2.1, i64 s.1 ∧ i64 s.2.1 ∧ i64 s.2.2.1 ∧ i64 s.2.2.2.1 ∧ i64 s.2.2.2.2
  a : i64 x.2.2.2.2.1
  b : i64 x.2.2.2.2.2.1
  c : i64 x.2.2.2.2.2.2
theorem m30_eq {c n : Int} (hc : i64 c) (hn : 0 < n) : m30 (c, n) = some (pk c n) := pk_text hc hn
theorem m15_eq {c n : Int} (hc : i64 c) (hn : 0 < n) : m15 (c, n) = some (pk c n) := pk_text hc hn
theorem idxD {α : Type} {xs : List α} {i : Nat} (h : i < xs.length) (d : α) : idxM xs (i : Int) = some (xs.getD i d) := by
  rw [idxM_lt h]; simp [List.getD, h]
theorem memD {α : Type} {xs : List α} {i : Nat} (h : i < xs.length) (d : α) : xs.getD i d ∈ xs := by
  simp [List.getD, h]
/-! ### hidden places -/
def nP (x : NNum) : Nat := min x.1.length 8
def hp (x : NNum) (i : Nat) : Int × Int := (pk (x.1.getD i (0, 0)).1 1001 - 500, pk (x.1.getD i (0, 0)).2 1001 - 500)
def hidL (x : NNum) : List (Int × Int) := row (nP x) (hp x)
def HB (h : Nat → Int × Int) : Prop := ∀ i, -500 ≤ (h i).1 ∧ (h i).1 ≤ 500 ∧ -500 ≤ (h i).2 ∧ (h i).2 ≤ 500
theorem hp_bd (x : NNum) : HB (hp x) := fun i => by
  have h1 := pk_lo (c := (x.1.getD i (0, 0)).1) (n := 1001) (by omega)
  have h2 := pk_hi (c := (x.1.getD i (0, 0)).1) (n := 1001) (by omega)
  have h3 := pk_lo (c := (x.1.getD i (0, 0)).2) (n := 1001) (by omega)
  have h4 := pk_hi (c := (x.1.getD i (0, 0)).2) (n := 1001) (by omega)
  unfold hp
  dsimp only
  omega
theorem nP_bd (x : NNum) : nP x ≤ 8 ∧ nP x ≤ x.1.length := ⟨Nat.min_le_right _ _, Nat.min_le_left _ _⟩
theorem m20_eq {x : NNum} (h : NN x) : m20 x = some (hidL x) := by
  have hn := nP_bd x
  unfold m20
  dsimp only
  refine bind_of (x := hidL x) ?_ rfl
  refine count_loop (fun k => row k (hp x)) (nP x) (fun k hk => ?_) ?_
  · have hm := h.pl _ (memD (show k < x.1.length by omega) (0, 0))
    have hb := hp_bd x k
    unfold hp at hb
    dsimp only at hb
    dsimp only
    rw [ltI (by show (k : Int) < (x.1.length : Int); omega), andT, ltI (by omega), cond_true, idxD (by omega) (0, 0), Option.bind_some, m30_eq hm.1 (by omega), Option.bind_some, Option.bind_some, m30_eq hm.2 (by omega), Option.bind_some, wrap_in (n := _ - 500) (by omega) (by omega), wrap_in (n := _ - 500) (by omega) (by omega)]
    refine bind_of (app_rowOf rfl (by show (k + 1) * 16 ≤ 140737488355328; omega)) ?_
    rw [wrap_in (by omega) (by omega)]
  · dsimp only
    have e : PE.andM (ltM ((nP x : Nat) : Int) (lenM x.1)) (ltM ((nP x : Nat) : Int) 8) = false := by
      by_cases h8 : x.1.length ≤ 8
      · rw [geI (a := ((nP x : Nat) : Int)) (b := lenM x.1) (by show (x.1.length : Int) ≤ _; unfold nP; omega)]; rfl
      · rw [geI (a := ((nP x : Nat) : Int)) (b := 8) (by unfold nP; omega)]
        cases ltM ((nP x : Nat) : Int) (lenM x.1) <;> rfl
    rw [e, cond_false]
    rfl
/-! ### sights -/
def pN (c : Int) (n : Nat) : Nat := (pk c n).toNat
theorem pN_lt {c : Int} {n : Nat} (hn : 0 < n) : pN c n < n := by
  have h1 := pk_lo (c := c) (n := n) (by omega)
  have h2 := pk_hi (c := c) (n := n) (by omega)
  unfold pN
  omega
theorem pN_eq {c : Int} {n : Nat} (hn : 0 < n) : ((pN c n : Nat) : Int) = pk c n := by
  have h1 := pk_lo (c := c) (n := n) (by omega)
  unfold pN
  omega
def sTo (n : Nat) (s : Sgt) : Nat := (pN s.1 n + 1 + pN s.2.1 (n - 1)) % n
def jit (c : Int) (t : Nat) : Int := pk c (2 * t + 1) - t
theorem jit_bd {c : Int} {t : Nat} : -(t : Int) ≤ jit c t ∧ jit c t ≤ t := by
  have h1 := pk_lo (c := c) (n := 2 * t + 1) (by omega)
  have h2 := pk_hi (c := c) (n := 2 * t + 1) (by omega)
  unfold jit
  omega
def sightOf (n : Nat) (h : Nat → Int × Int) (s : Sgt) : Sgt :=
  ((pN s.1 n : Nat), (sTo n s : Nat), (h (sTo n s)).1 - (h (pN s.1 n)).1 + jit s.2.2.2.1 (pN s.2.2.1 12), (h (sTo n s)).2 - (h (pN s.1 n)).2 + jit s.2.2.2.2 (pN s.2.2.1 12), (pN s.2.2.1 12 : Nat))
theorem m21_eq {n : Nat} {h : Nat → Int × Int} (hn : 2 ≤ n) (hn8 : n ≤ 8) (hb : HB h) {s : Sgt} (h1 : i64 s.1) (h2 : i64 s.2.1) (h3 : i64 s.2.2.1) (h4 : i64 s.2.2.2.1) (h5 : i64 s.2.2.2.2) : m21 (row n h, s) = some (sightOf n h s) := by
  have hl : lenM (row n h) = (n : Int) := by show ((row n h).length : Int) = _; rw [row_length]
  have p1 := pN_lt (c := s.1) (n := n) (by omega)
  have p2 := pN_lt (c := s.2.1) (n := n - 1) (by omega)
  have p3 := pN_lt (c := s.2.2.1) (n := 12) (by omega)
  have q1 := pN_eq (c := s.1) (n := n) (by omega)
  have q2 := pN_eq (c := s.2.1) (n := n - 1) (by omega)
  have q3 := pN_eq (c := s.2.2.1) (n := 12) (by omega)
  have hto : sTo n s < n := Nat.mod_lt _ (by omega)
  have b1 := hb (sTo n s)
  have b2 := hb (pN s.1 n)
  have j1 := jit_bd (c := s.2.2.2.1) (t := pN s.2.2.1 12)
  have j2 := jit_bd (c := s.2.2.2.2) (t := pN s.2.2.1 12)
  have e12 : ((12 : Nat) : Int) = 12 := rfl
  rw [e12] at q3
  unfold m21
  dsimp only
  rw [hl, m30_eq h1 (by omega), Option.bind_some, m30_eq h3 (by omega), Option.bind_some, wrap_in (n := (n : Int) - 1) (by omega) (by omega)]
  have en : ((n : Int) - 1) = ((n - 1 : Nat) : Int) := by omega
  rw [en, m30_eq h2 (by omega), Option.bind_some, ← q1, ← q2, ← q3, wrap_in (n := ((pN s.1 n : Nat) : Int) + 1) (by omega) (by omega), wrap_in (n := ((pN s.1 n : Nat) : Int) + 1 + ((pN s.2.1 (n - 1) : Nat) : Int)) (by omega) (by omega), remM_of (by omega) (by omega), Option.bind_some]
  have et : (((pN s.1 n : Nat) : Int) + 1 + ((pN s.2.1 (n - 1) : Nat) : Int)) % (n : Int) = ((sTo n s : Nat) : Int) := by
    unfold sTo
    rw [Int.natCast_emod]
    rfl
  rw [et, row_idx hto, Option.bind_some, row_idx p1, Option.bind_some]
  have e2 : IntKind.wrap IntKind.i64 (IntKind.wrap IntKind.i64 ((2 : Int) * ((pN s.2.2.1 12 : Nat) : Int)) + 1) = 2 * ((pN s.2.2.1 12 : Nat) : Int) + 1 := by
    rw [wrap_in (n := 2 * ((pN s.2.2.1 12 : Nat) : Int)) (by omega) (by omega), wrap_in (by omega) (by omega)]
  rw [e2, m30_eq h4 (by omega), Option.bind_some, Option.bind_some, Option.bind_some, m30_eq h5 (by omega), Option.bind_some]
  unfold jit at j1 j2
  generalize hv1 : pk s.2.2.2.1 (2 * ((pN s.2.2.1 12 : Nat) : Int) + 1) = v1 at *
  generalize hv2 : pk s.2.2.2.2 (2 * ((pN s.2.2.1 12 : Nat) : Int) + 1) = v2 at *
  rw [wrap_in (n := (h (sTo n s)).1 - (h (pN s.1 n)).1) (by omega) (by omega), wrap_in (n := (h (sTo n s)).1 - (h (pN s.1 n)).1 + v1) (by omega) (by omega), wrap_in (n := (h (sTo n s)).1 - (h (pN s.1 n)).1 + v1 - ((pN s.2.2.1 12 : Nat) : Int)) (by omega) (by omega)]
  rw [wrap_in (n := (h (sTo n s)).2 - (h (pN s.1 n)).2) (by omega) (by omega), wrap_in (n := (h (sTo n s)).2 - (h (pN s.1 n)).2 + v2) (by omega) (by omega), wrap_in (n := (h (sTo n s)).2 - (h (pN s.1 n)).2 + v2 - ((pN s.2.2.1 12 : Nat) : Int)) (by omega) (by omega)]
  unfold sightOf jit
  rw [hv1, hv2]
  have z1 : (h (sTo n s)).1 - (h (pN s.1 n)).1 + v1 - ((pN s.2.2.1 12 : Nat) : Int) = (h (sTo n s)).1 - (h (pN s.1 n)).1 + (v1 - ((pN s.2.2.1 12 : Nat) : Int)) := by omega
  have z2 : (h (sTo n s)).2 - (h (pN s.1 n)).2 + v2 - ((pN s.2.2.1 12 : Nat) : Int) = (h (sTo n s)).2 - (h (pN s.1 n)).2 + (v2 - ((pN s.2.2.1 12 : Nat) : Int)) := by omega
  rw [z1, z2]
theorem sight_ne {n : Nat} (hn : 2 ≤ n) (s : Sgt) : sTo n s ≠ pN s.1 n := by
  have p1 := pN_lt (c := s.1) (n := n) (by omega)
  have p2 := pN_lt (c := s.2.1) (n := n - 1) (by omega)
  unfold sTo
  intro h
  by_cases hlt : pN s.1 n + 1 + pN s.2.1 (n - 1) < n
  · rw [Nat.mod_eq_of_lt hlt] at h; omega
  · rw [Nat.mod_eq_sub_mod (by omega), Nat.mod_eq_of_lt (by omega)] at h; omega
end Go.Proofs.Ytklddmmnggcffaa
/-
  Network: the networks that integers determine.
  No conditions.
-/
namespace Go.Proofs.Ytklddmmnggcffaa
open Go Go.Abs Go.PE
set_option linter.unusedVariables false
def fixOf (n : Nat) (h : Nat → Int × Int) (f : Fix) : Fix := ((pN f.1 n : Nat), (h (pN f.1 n)).1 + jit f.2.2.1 (pN f.2.1 12), (h (pN f.1 n)).2 + jit f.2.2.2 (pN f.2.1 12), (pN f.2.1 12 : Nat))
def nF (x : NNum) : Nat := if nP x = 0 then 0 else min x.2.2.1.length 6
def fxf (x : NNum) (i : Nat) : Fix := fixOf (nP x) (hp x) (x.2.2.1.getD i (0, 0, 0, 0))
def tN (x : NNum) : Nat := min x.2.1.length (nP x - 1)
def tieF (x : NNum) (k : Nat) : Sgt :=
  ((pN (x.2.1.getD k 0) (k + 1) : Nat), ((k + 1 : Nat) : Int), (hp x (k + 1)).1 - (hp x (pN (x.2.1.getD k 0) (k + 1))).1, (hp x (k + 1)).2 - (hp x (pN (x.2.1.getD k 0) (k + 1))).2, (pN ((x.2.1.getD k 0).tdiv 8) 10 : Nat))
def nS (x : NNum) : Nat := if nP x ≤ 1 then 0 else min x.2.2.2.1.length 10
def sgF (x : NNum) (k : Nat) : Sgt := sightOf (nP x) (hp x) (x.2.2.2.1.getD k (0, 0, 0, 0, 0))
def base (x : NNum) : List Sgt := row (tN x) (tieF x) ++ row (nS x) (sgF x)
def mis (x : NNum) : Bool := decide (pk x.2.2.2.2.1 3 = 2)
def bent (x : NNum) (s : Sgt) : Sgt := if pk x.2.2.2.2.2.2 2 = 0 then (s.1, s.2.1, s.2.2.1 + (pk (x.2.2.2.2.2.2.tdiv 2) 60 + 1), s.2.2.2) else (s.1, s.2.1, s.2.2.1, s.2.2.2.1 - (pk (x.2.2.2.2.2.2.tdiv 2) 60 + 1), s.2.2.2.2)
def msg (x : NNum) : List Sgt := if mis x = true ∧ 0 < (base x).length then (base x).set (pN x.2.2.2.2.2.1 (base x).length) (bent x ((base x).getD (pN x.2.2.2.2.2.1 (base x).length) (0, 0, 0, 0, 0))) else base x
def madeN (x : NNum) : Net := ((nP x : Int), row (nF x) (fxf x), msg x)
/-- A fix that hidden places keep. -/
def KF (n : Nat) (h : Nat → Int × Int) (f : Fix) : Prop := 0 ≤ f.1 ∧ f.1 < n ∧ -511 ≤ f.2.1 ∧ f.2.1 ≤ 511 ∧ -511 ≤ f.2.2.1 ∧ f.2.2.1 ≤ 511 ∧ 0 ≤ f.2.2.2 ∧ f.2.2.2 ≤ 11 ∧
  -f.2.2.2 ≤ (h f.1.toNat).1 - f.2.1 ∧ (h f.1.toNat).1 - f.2.1 ≤ f.2.2.2 ∧ -f.2.2.2 ≤ (h f.1.toNat).2 - f.2.2.1 ∧ (h f.1.toNat).2 - f.2.2.1 ≤ f.2.2.2
/-- A sight that hidden places keep. -/
def KS (n : Nat) (h : Nat → Int × Int) (s : Sgt) : Prop := 0 ≤ s.1 ∧ s.1 < n ∧ 0 ≤ s.2.1 ∧ s.2.1 < n ∧ s.1 ≠ s.2.1 ∧ -1011 ≤ s.2.2.1 ∧ s.2.2.1 ≤ 1011 ∧ -1011 ≤ s.2.2.2.1 ∧ s.2.2.2.1 ≤ 1011 ∧ 0 ≤ s.2.2.2.2 ∧ s.2.2.2.2 ≤ 11 ∧
  -s.2.2.2.2 ≤ (h s.2.1.toNat).1 - (h s.1.toNat).1 - s.2.2.1 ∧ (h s.2.1.toNat).1 - (h s.1.toNat).1 - s.2.2.1 ≤ s.2.2.2.2 ∧ -s.2.2.2.2 ≤ (h s.2.1.toNat).2 - (h s.1.toNat).2 - s.2.2.2.1 ∧ (h s.2.1.toNat).2 - (h s.1.toNat).2 - s.2.2.2.1 ≤ s.2.2.2.2
theorem fixOf_keeps {n : Nat} {h : Nat → Int × Int} (hn : 0 < n) (hb : HB h) (f : Fix) : KF n h (fixOf n h f) := by
  have p1 := pN_lt (c := f.1) hn
  have p2 := pN_lt (c := f.2.1) (n := 12) (by omega)
  have b := hb (pN f.1 n)
  have j1 := jit_bd (c := f.2.2.1) (t := pN f.2.1 12)
  have j2 := jit_bd (c := f.2.2.2) (t := pN f.2.1 12)
  unfold KF fixOf
  dsimp only
  rw [Int.toNat_natCast]
  omega
theorem sightOf_keeps {n : Nat} {h : Nat → Int × Int} (hn : 2 ≤ n) (hb : HB h) (s : Sgt) : KS n h (sightOf n h s) := by
  have p1 := pN_lt (c := s.1) (n := n) (by omega)
  have p3 := pN_lt (c := s.2.2.1) (n := 12) (by omega)
  have hto : sTo n s < n := Nat.mod_lt _ (by omega)
  have hne := sight_ne hn s
  have b1 := hb (pN s.1 n)
  have b2 := hb (sTo n s)
  have j1 := jit_bd (c := s.2.2.2.1) (t := pN s.2.2.1 12)
  have j2 := jit_bd (c := s.2.2.2.2) (t := pN s.2.2.1 12)
  unfold KS sightOf
  dsimp only
  rw [Int.toNat_natCast, Int.toNat_natCast]
  omega
theorem tie_keeps {x : NNum} {k : Nat} (hk : k < tN x) : KS (nP x) (hp x) (tieF x k) := by
  have hk2 : k + 1 < nP x := by unfold tN at hk; omega
  have p1 := pN_lt (c := x.2.1.getD k 0) (n := k + 1) (by omega)
  have p2 := pN_lt (c := (x.2.1.getD k 0).tdiv 8) (n := 10) (by omega)
  have b1 := hp_bd x (k + 1)
  have b2 := hp_bd x (pN (x.2.1.getD k 0) (k + 1))
  unfold KS tieF
  dsimp only
  rw [Int.toNat_natCast, Int.toNat_natCast]
  omega
theorem fix_keeps {x : NNum} {f : Fix} (hf : f ∈ row (nF x) (fxf x)) : KF (nP x) (hp x) f := by
  obtain ⟨i, hi, rfl⟩ := row_mem hf
  refine fixOf_keeps ?_ (hp_bd x) _
  unfold nF at hi
  split at hi <;> omega
theorem base_keeps {x : NNum} {s : Sgt} (hs : s ∈ base x) : KS (nP x) (hp x) s := by
  rcases List.mem_append.1 hs with hs | hs
  · obtain ⟨i, hi, rfl⟩ := row_mem hs
    exact tie_keeps hi
  · obtain ⟨i, hi, rfl⟩ := row_mem hs
    refine sightOf_keeps ?_ (hp_bd x) _
    unfold nS at hi
    split at hi <;> omega
theorem base_len (x : NNum) : (base x).length ≤ 17 := by
  unfold base
  rw [List.length_append, row_length, row_length]
  have := (nP_bd x).1
  unfold tN nS
  split <;> omega
theorem msg_len (x : NNum) : (msg x).length = (base x).length := by
  unfold msg
  split
  · rw [List.length_set]
  · rfl
theorem msg_mem {x : NNum} {s : Sgt} (hs : s ∈ msg x) : s ∈ base x ∨ ∃ s' ∈ base x, s = bent x s' := by
  unfold msg at hs
  split at hs
  · rename_i h
    rcases List.mem_or_eq_of_mem_set hs with h1 | h1
    · exact .inl h1
    · exact .inr ⟨_, memD (pN_lt h.2) _, h1⟩
  · exact .inl hs
theorem made_ok (x : NNum) : NOK (madeN x) where
  n0 := by show (0 : Int) ≤ (nP x : Int); omega
  n8 := by have := (nP_bd x).1; show (nP x : Int) ≤ 8; omega
  fl := by
    show (row (nF x) (fxf x)).length ≤ 8
    rw [row_length]
    unfold nF
    split <;> omega
  sl := by
    show (msg x).length ≤ 20
    have := base_len x
    rw [msg_len]; omega
  fx f hf := by
    have := fix_keeps hf
    unfold KF at this
    show 0 ≤ f.1 ∧ f.1 < (nP x : Int) ∧ _
    omega
  sg s hs := by
    show 0 ≤ s.1 ∧ s.1 < (nP x : Int) ∧ 0 ≤ s.2.1 ∧ s.2.1 < (nP x : Int) ∧ _
    have hd1 := pk_lo (c := x.2.2.2.2.2.2.tdiv 2) (n := 60) (by omega)
    have hd2 := pk_hi (c := x.2.2.2.2.2.2.tdiv 2) (n := 60) (by omega)
    rcases msg_mem hs with h | ⟨s', h, rfl⟩
    · have := base_keeps h
      unfold KS at this
      omega
    · have := base_keeps h
      unfold KS at this
      unfold bent
      split
      · dsimp only; omega
      · dsimp only; omega
theorem msg_clean {x : NNum} (h : mis x = false) : msg x = base x := by
  unfold msg
  rw [if_neg (by rintro ⟨h1, _⟩; rw [h] at h1; cases h1)]
theorem m31_eq {x : NNum} (h : NN x) : m31 x = some (mis x) := by
  unfold m31
  rw [m30_eq h.a (by omega)]
  rfl
theorem lenR {α : Type} (m : Nat) (g : Nat → α) : lenM (row m g) = (m : Int) := by show ((row m g).length : Int) = _; rw [row_length]
theorem wrap_2t {t : Nat} (ht : t < 12) : IntKind.wrap IntKind.i64 (IntKind.wrap IntKind.i64 ((2 : Int) * ((t : Nat) : Int)) + 1) = 2 * ((t : Nat) : Int) + 1 := by
  rw [wrap_in (n := 2 * ((t : Nat) : Int)) (by omega) (by omega), wrap_in (by omega) (by omega)]
theorem min_end (a b : Nat) (bs : Int) (h : bs = (b : Int)) {xs : Int} (hx : xs = (a : Int)) : PE.andM (ltM ((min a b : Nat) : Int) xs) (ltM ((min a b : Nat) : Int) bs) = false := by
  subst h; subst hx
  by_cases h1 : a ≤ b
  · rw [geI (a := ((min a b : Nat) : Int)) (b := (a : Int)) (by omega)]; rfl
  · rw [geI (a := ((min a b : Nat) : Int)) (b := (b : Int)) (by omega)]
    cases ltM ((min a b : Nat) : Int) (a : Int) <;> rfl
theorem andF2 (b : Bool) : PE.andM b false = false := by cases b <;> rfl
theorem setM_D {α : Type} {xs : List α} {i : Nat} (h : i < xs.length) (d : α) {f : α → Option α} {y : α} (hy : f (xs.getD i d) = some y) : setM xs (i : Int) f = some (xs.set i y) := by
  have e : xs.getD i d = xs[i] := by simp [List.getD, h]
  rw [e] at hy
  exact setM_of (by omega) (by omega) hy
theorem m9_eq {x : NNum} (h : NN x) : m9 x = some (madeN x) := by
  have hn := nP_bd x
  unfold m9
  dsimp only
  refine bind_of (m20_eq h) ?_
  have hl : lenM (hidL x) = (nP x : Int) := lenR _ _
  rw [hl]
  refine bind_of (x := ((nP x : Int), row (nF x) (fxf x))) ?_ ?_
  · refine count_loop (fun k => ((nP x : Int), row k (fxf x))) (nF x) (fun k hk => ?_) ?_
    · have hk1 : k < x.2.2.1.length ∧ k < 6 ∧ 0 < nP x := by unfold nF at hk; split at hk <;> omega
      obtain ⟨k1, k2, k3⟩ := hk1
      have hm := h.fx _ (memD k1 (0, 0, 0, 0))
      have ef : fxf x k = fixOf (nP x) (hp x) (x.2.2.1.getD k (0, 0, 0, 0)) := rfl
      dsimp only
      rw [ltI (by show (k : Int) < (x.2.2.1.length : Int); omega), andT, ltI (by omega), andT, ltI (by omega), cond_true, idxD k1 (0, 0, 0, 0), Option.bind_some]
      generalize x.2.2.1.getD k (0, 0, 0, 0) = f at *
      obtain ⟨m1, m2, m3, m4⟩ := hm
      have p1 := pN_lt (c := f.1) k3
      have q1 := pN_eq (c := f.1) k3
      have p2 := pN_lt (c := f.2.1) (n := 12) (by omega)
      have q2 : ((pN f.2.1 12 : Nat) : Int) = pk f.2.1 12 := pN_eq (c := f.2.1) (n := 12) (by omega)
      have b := hp_bd x (pN f.1 (nP x))
      have j1 := jit_bd (c := f.2.2.1) (t := pN f.2.1 12)
      have j2 := jit_bd (c := f.2.2.2) (t := pN f.2.1 12)
      rw [m30_eq m1 (by omega), Option.bind_some, Option.bind_some, m30_eq m2 (by omega), Option.bind_some, ← q1, ← q2]
      have er : idxM (hidL x) ((pN f.1 (nP x) : Nat) : Int) = some (hp x (pN f.1 (nP x))) := row_idx p1
      rw [er, Option.bind_some, Option.bind_some, wrap_2t p2, m30_eq m3 (by omega), Option.bind_some, Option.bind_some, Option.bind_some, m30_eq m4 (by omega), Option.bind_some]
      refine bind_of (app_rowOf (g := fxf x) ?_ (by show (k + 1) * 32 ≤ 140737488355328; omega)) ?_
      · rw [ef]
        unfold fixOf
        unfold jit at *
        generalize pk f.2.2.1 (2 * ((pN f.2.1 12 : Nat) : Int) + 1) = v1 at *
        generalize pk f.2.2.2 (2 * ((pN f.2.1 12 : Nat) : Int) + 1) = v2 at *
        rw [wrap_in (n := (hp x (pN f.1 (nP x))).1 + v1) (by omega) (by omega), wrap_in (n := (hp x (pN f.1 (nP x))).1 + v1 - ((pN f.2.1 12 : Nat) : Int)) (by omega) (by omega), wrap_in (n := (hp x (pN f.1 (nP x))).2 + v2) (by omega) (by omega), wrap_in (n := (hp x (pN f.1 (nP x))).2 + v2 - ((pN f.2.1 12 : Nat) : Int)) (by omega) (by omega)]
        have z1 : (hp x (pN f.1 (nP x))).1 + v1 - ((pN f.2.1 12 : Nat) : Int) = (hp x (pN f.1 (nP x))).1 + (v1 - ((pN f.2.1 12 : Nat) : Int)) := by omega
        have z2 : (hp x (pN f.1 (nP x))).2 + v2 - ((pN f.2.1 12 : Nat) : Int) = (hp x (pN f.1 (nP x))).2 + (v2 - ((pN f.2.1 12 : Nat) : Int)) := by omega
        rw [z1, z2]
      · rw [wrap_in (by omega) (by omega)]
    · dsimp only
      have e : PE.andM (PE.andM (ltM ((nF x : Nat) : Int) (lenM x.2.2.1)) (ltM ((nF x : Nat) : Int) 6)) (ltM 0 ((nP x : Nat) : Int)) = false := by
        unfold nF
        by_cases h0 : nP x = 0
        · rw [if_pos h0, h0, geI (a := 0) (b := ((0 : Nat) : Int)) (by omega)]
          exact andF2 _
        · rw [if_neg h0, min_end x.2.2.1.length 6 6 rfl (xs := lenM x.2.2.1) rfl]; rfl
      rw [e, cond_false]
  refine bind_of (x := ((nP x : Int), row (tN x) (tieF x))) ?_ ?_
  · refine count_loop (fun k => ((nP x : Int), row k (tieF x))) (tN x) (fun k hk => ?_) ?_
    · have k1 : k < x.2.1.length := by unfold tN at hk; omega
      have k2 : k + 1 < nP x := by unfold tN at hk; omega
      have hm := h.ti _ (memD k1 0)
      have ef : tieF x k = (((pN (x.2.1.getD k 0) (k + 1) : Nat) : Int), ((k + 1 : Nat) : Int), (hp x (k + 1)).1 - (hp x (pN (x.2.1.getD k 0) (k + 1))).1, (hp x (k + 1)).2 - (hp x (pN (x.2.1.getD k 0) (k + 1))).2, ((pN ((x.2.1.getD k 0).tdiv 8) 10 : Nat) : Int)) := rfl
      have ek : IntKind.wrap IntKind.i64 ((k : Int) + 1) = ((k + 1 : Nat) : Int) := by rw [wrap_in (by omega) (by omega)]; rfl
      dsimp only
      rw [ltI (by show (k : Int) < (x.2.1.length : Int); omega), andT, ek, ltI (by omega), cond_true, idxD k1 0, Option.bind_some]
      generalize x.2.1.getD k 0 = v at *
      have p1 := pN_lt (c := v) (n := k + 1) (by omega)
      have q1 : ((pN v (k + 1) : Nat) : Int) = pk v ((k + 1 : Nat) : Int) := pN_eq (c := v) (n := k + 1) (by omega)
      have q2 : ((pN (v.tdiv 8) 10 : Nat) : Int) = pk (v.tdiv 8) 10 := pN_eq (c := v.tdiv 8) (n := 10) (by omega)
      have b1 := hp_bd x (k + 1)
      have b2 := hp_bd x (pN v (k + 1))
      have er1 : idxM (hidL x) ((k + 1 : Nat) : Int) = some (hp x (k + 1)) := row_idx k2
      have er2 : idxM (hidL x) ((pN v (k + 1) : Nat) : Int) = some (hp x (pN v (k + 1))) := row_idx (by omega)
      rw [m30_eq hm (by omega), Option.bind_some, ← q1, er1, Option.bind_some, er2, Option.bind_some, Option.bind_some, Option.bind_some, Option.bind_some, divM_pos (by omega), wrap_tdiv hm (by omega), Option.bind_some, m30_eq (tdiv_ok hm (by omega)) (by omega), Option.bind_some, ← q2, wrap_in (n := (hp x (k + 1)).1 - (hp x (pN v (k + 1))).1) (by omega) (by omega), wrap_in (n := (hp x (k + 1)).2 - (hp x (pN v (k + 1))).2) (by omega) (by omega)]
      refine bind_of (app_rowOf (g := tieF x) ef.symm (by show (k + 1) * 40 ≤ 140737488355328; omega)) rfl
    · dsimp only
      have e : PE.andM (ltM ((tN x : Nat) : Int) (lenM x.2.1)) (ltM (IntKind.wrap IntKind.i64 (((tN x : Nat) : Int) + 1)) ((nP x : Nat) : Int)) = false := by
        have h9 : tN x ≤ 7 := by unfold tN; omega
        rw [wrap_in (n := ((tN x : Nat) : Int) + 1) (by omega) (by omega)]
        by_cases h1 : x.2.1.length ≤ tN x
        · rw [geI (a := ((tN x : Nat) : Int)) (b := lenM x.2.1) (by show (x.2.1.length : Int) ≤ _; omega)]; rfl
        · rw [geI (a := ((tN x : Nat) : Int) + 1) (b := ((nP x : Nat) : Int)) (by unfold tN at h1 ⊢; omega)]
          cases ltM ((tN x : Nat) : Int) (lenM x.2.1) <;> rfl
      rw [e, cond_false]
  refine bind_of (x := ((nP x : Int), base x)) ?_ ?_
  · have eb : base x = row (tN x) (tieF x) ++ row (nS x) (sgF x) := rfl
    have e0 : row (tN x) (tieF x) = row (tN x) (tieF x) ++ row 0 (sgF x) := by rw [row_zero, List.append_nil]
    have hb17 := base_len x
    have L := count_loop (body := fun (s : Int × Int × List (Int × Int × Int × Int × Int)) =>
                bif PE.andM (PE.andM (ltM s.1 (lenM x.2.2.2.1)) (ltM s.1 (10 : Int))) (ltM (1 : Int) ((nP x : Nat) : Int)) then
                  Option.bind (idxM x.2.2.2.1 s.1) fun (r_1 : Int × Int × Int × Int × Int) =>
                    Option.bind (m21 (hidL x, r_1.1, r_1.2.1, r_1.2.2.1, r_1.2.2.2.1, r_1.2.2.2.2))
                      fun (r_2 : Int × Int × Int × Int × Int) =>
                      Option.bind (appM (nat_lit 40) s.2.2 [(r_2.1, r_2.2.1, r_2.2.2.1, r_2.2.2.2.1, r_2.2.2.2.2)])
                        fun (r : List (Int × Int × Int × Int × Int)) =>
                        some (Sum.inl (IntKind.wrap IntKind.i64 (s.1 + (1 : Int)), s.2.1, r))
                else some (Sum.inr (s.2.1, s.2.2))) (fun k => ((nP x : Int), row (tN x) (tieF x) ++ row k (sgF x))) (nS x) (r := ((nP x : Int), row (tN x) (tieF x) ++ row (nS x) (sgF x))) (fun k hk => by
      have hk1 : k < x.2.2.2.1.length ∧ k < 10 ∧ 1 < nP x := by unfold nS at hk; split at hk <;> omega
      obtain ⟨k1, k2, k3⟩ := hk1
      obtain ⟨m1, m2, m3, m4, m5⟩ := h.sg _ (memD k1 (0, 0, 0, 0, 0))
      have hs := m21_eq (n := nP x) (h := hp x) (by omega) hn.1 (hp_bd x) m1 m2 m3 m4 m5
      dsimp only
      rw [ltI (by show (k : Int) < (x.2.2.2.1.length : Int); omega), andT, ltI (by omega), andT, ltI (by omega), cond_true, idxD k1 (0, 0, 0, 0, 0), Option.bind_some]
      refine bind_of hs ?_
      refine bind_of (appM_of (by rw [List.length_append, row_length, row_length]; unfold tN; simp; omega)) ?_
      rw [wrap_in (by omega) (by omega), row_succ, List.append_assoc]
      rfl) (by
      dsimp only
      have e : PE.andM (PE.andM (ltM ((nS x : Nat) : Int) (lenM x.2.2.2.1)) (ltM ((nS x : Nat) : Int) 10)) (ltM 1 ((nP x : Nat) : Int)) = false := by
        unfold nS
        by_cases h0 : nP x ≤ 1
        · rw [if_pos h0, geI (a := 1) (b := ((nP x : Nat) : Int)) (by omega)]
          exact andF2 _
        · rw [if_neg h0, min_end x.2.2.2.1.length 10 10 rfl (xs := lenM x.2.2.2.1) rfl]; rfl
      rw [e, cond_false])
    rw [← e0] at L
    exact L
  dsimp only
  refine bind_of (x := msg x) ?_ rfl
  refine bind_of (m31_eq h) ?_
  have hlb : lenM (base x) = ((base x).length : Int) := rfl
  have hb17 := base_len x
  rw [hlb]
  unfold msg
  by_cases h0 : mis x = true ∧ 0 < (base x).length
  · obtain ⟨hm, hl0⟩ := h0
    have p1 := pN_lt (c := x.2.2.2.2.2.1) hl0
    have q1 := pN_eq (c := x.2.2.2.2.2.1) hl0
    have hd1 := pk_lo (c := x.2.2.2.2.2.2.tdiv 2) (n := 60) (by omega)
    have hd2 := pk_hi (c := x.2.2.2.2.2.2.tdiv 2) (n := 60) (by omega)
    have hk := base_keeps (memD p1 (0, 0, 0, 0, 0))
    unfold KS at hk
    rw [if_pos ⟨hm, hl0⟩, hm, andT, ltI (by omega), cond_true, m30_eq h.b (by omega), Option.bind_some, divM_pos (by omega), wrap_tdiv h.c (by omega), Option.bind_some, m30_eq (tdiv_ok h.c (by omega)) (by omega), Option.bind_some, m30_eq h.c (by omega), Option.bind_some, ← q1]
    rw [wrap_in (n := pk (x.2.2.2.2.2.2.tdiv 2) 60 + 1) (by omega) (by omega)]
    unfold bent
    by_cases h2 : pk x.2.2.2.2.2.2 2 = 0
    · rw [eqI h2, cond_true, if_pos h2, chkM_of (by omega) (by omega), Option.bind_some, idxD p1 (0, 0, 0, 0, 0), Option.bind_some, Option.bind_some, Option.bind_some]
      refine bind_of (setM_D p1 (0, 0, 0, 0, 0) rfl) ?_
      rw [wrap_in (n := _ + (_ + 1)) (by omega) (by omega)]
    · rw [neI h2, cond_false, if_neg h2, chkM_of (by omega) (by omega), Option.bind_some, idxD p1 (0, 0, 0, 0, 0), Option.bind_some, Option.bind_some, Option.bind_some]
      refine bind_of (setM_D p1 (0, 0, 0, 0, 0) rfl) ?_
      rw [wrap_in (n := _ - (_ + 1)) (by omega) (by omega)]
  · rw [if_neg h0]
    have e : PE.andM (mis x) (ltM 0 ((base x).length : Int)) = false := by
      cases hm : mis x with
      | false => rfl
      | true =>
        rw [geI (by have : ¬ 0 < (base x).length := fun h => h0 ⟨hm, h⟩; omega)]
        rfl
    rw [e, cond_false]
end Go.Proofs.Ytklddmmnggcffaa
/-
  Network: the law NetworkApart.
  No conditions.
-/
namespace Go.Proofs.Ytklddmmnggcffaa
open Go Go.Abs Go.PE
set_option linter.unusedVariables false
theorem aptR_in {c : Net} (h : NOK c) {p q : Nat} (hp : p < c.1.toNat) (hq : q < c.1.toNat) : aptR c (p : Int) (q : Int) = apM c p q := by
  have h0 := h.n0
  unfold aptR
  rw [if_pos ⟨nval_iff.2 h, inB_iff.2 (by omega), inB_iff.2 (by omega)⟩, Int.toNat_natCast, Int.toNat_natCast]
theorem boxQ_in {c : Net} (h : NOK c) {p : Nat} (hp : p < c.1.toNat) : boxQ c (p : Int) = apM c c.1.toNat p := by
  have h0 := h.n0
  unfold boxQ
  rw [if_pos ⟨nval_iff.2 h, inB_iff.2 (by omega)⟩, Int.toNat_natCast]
theorem apM_no {c : Net} (ho : okN c = false) (i j : Nat) : apM c i j = err := by
  unfold apM
  rw [if_neg (by rintro ⟨h, _⟩; rw [ho] at h; cases h)]
  rfl
theorem apM_far {c : Net} {i j : Nat} (hc : cnB c i j = false) : apM c i j = err := by
  unfold apM
  rw [if_neg (by rintro ⟨_, h⟩; rw [hc] at h; cases h)]
  rfl
theorem apM_yes {c : Net} (ho : okN c = true) {i j : Nat} (hc : cnB c i j = true) : apM c i j = (boxR c i j, 0) := by
  unfold apM
  rw [if_pos ⟨ho, hc⟩]
def SB (a : Bx) : Prop := (-100000000000000000 ≤ a.1 ∧ a.1 ≤ 100000000000000000) ∧ (-100000000000000000 ≤ a.2.1 ∧ a.2.1 ≤ 100000000000000000) ∧ (-100000000000000000 ≤ a.2.2.1 ∧ a.2.2.1 ≤ 100000000000000000) ∧ (-100000000000000000 ≤ a.2.2.2 ∧ a.2.2.2 ≤ 100000000000000000)
theorem box_bd {c : Net} (h : NOK c) (ho : okN c = true) {i j : Nat} (hi : i ≤ c.1.toNat) (hj : j ≤ c.1.toNat) (hc : Cn c i j) : SB (boxR c i j) := by
  have aX := axisX h ho
  have aY := axisY h ho
  have b1 := aX.bd i j hi hj ((aX.cn i j hi hj).2 hc)
  have b2 := aX.bd j i hj hi ((aX.cn j i hj hi).2 hc.symm)
  have b3 := aY.bd i j hi hj ((aY.cn i j hi hj).2 hc)
  have b4 := aY.bd j i hj hi ((aY.cn j i hj hi).2 hc.symm)
  unfold SB boxR
  dsimp only
  omega
theorem m27_eq {h a d : Bx} (ha : SB a) (hd : SB d) : m27 (h, a, d) = some (decide (a.1 + d.1 ≤ h.1 ∧ h.2.1 ≤ a.2.1 + d.2.1 ∧ a.2.2.1 + d.2.2.1 ≤ h.2.2.1 ∧ h.2.2.2 ≤ a.2.2.2 + d.2.2.2)) := by
  unfold SB at ha hd
  unfold m27
  dsimp only
  rw [wrap_in (n := a.1 + d.1) (by omega) (by omega), wrap_in (n := a.2.1 + d.2.1) (by omega) (by omega), wrap_in (n := a.2.2.1 + d.2.2.1) (by omega) (by omega), wrap_in (n := a.2.2.2 + d.2.2.2) (by omega) (by omega)]
  congr 1
  rw [Bool.eq_iff_iff, decide_eq_true_eq]
  show (((decide _ && decide _) && decide _) && decide _) = true ↔ _
  simp only [Bool.and_eq_true, decide_eq_true_eq]
  constructor
  · rintro ⟨⟨⟨h1, h2⟩, h3⟩, h4⟩; exact ⟨h1, h2, h3, h4⟩
  · rintro ⟨h1, h2, h3, h4⟩; exact ⟨⟨⟨h1, h2⟩, h3⟩, h4⟩
theorem box_tri {c : Net} (h : NOK c) (ho : okN c = true) {i k j : Nat} (hi : i ≤ c.1.toNat) (hk : k ≤ c.1.toNat) (hj : j ≤ c.1.toNat) (h1 : Cn c i k) (h2 : Cn c k j) : m27 (boxR c i j, boxR c i k, boxR c k j) = some true := by
  rw [m27_eq (box_bd h ho hi hk h1) (box_bd h ho hk hj h2)]
  have aX := axisX h ho
  have aY := axisY h ho
  have t1 := aX.tri i k j hi hk hj h1 h2
  have t2 := aX.tri j k i hj hk hi h2.symm h1.symm
  have t3 := aY.tri i k j hi hk hj h1 h2
  have t4 := aY.tri j k i hj hk hi h2.symm h1.symm
  rw [decide_eq_true]
  unfold boxR
  dsimp only
  omega
theorem law6_ok (x : NNum × Int × Int × Int) (h : NN x.1) (h1 : i64 x.2.1) (h2 : i64 x.2.2.1) (h3 : i64 x.2.2.2) : m6 x = some true := by
  have hc := made_ok x.1
  unfold m6
  refine bind_of sane_ok ?_
  rw [notT, cond_false]
  refine bind_of (m9_eq h) ?_
  have hn0 : (madeN x.1).1 = (nP x.1 : Int) := rfl
  have hnt : (madeN x.1).1.toNat = nP x.1 := by rw [hn0, Int.toNat_natCast]
  generalize madeN x.1 = c at *
  by_cases hz : nP x.1 = 0
  · rw [eqI (by rw [hn0, hz]; rfl), cond_true]
    refine bind_of (m22_eq c 0 0) ?_
    have : aptR c 0 0 = err := by
      unfold aptR
      rw [if_neg]
      rintro ⟨_, hh, _⟩
      have := inB_iff.1 hh
      rw [hn0, hz] at this
      omega
    rw [this]
    rfl
  · rw [neI (by rw [hn0]; omega), cond_false, hn0, m15_eq h1 (by omega), Option.bind_some, m15_eq h2 (by omega), Option.bind_some, m15_eq h3 (by omega), Option.bind_some]
    have l1 := pN_lt (c := x.2.1) (n := nP x.1) (by omega)
    have l2 := pN_lt (c := x.2.2.1) (n := nP x.1) (by omega)
    have l3 := pN_lt (c := x.2.2.2) (n := nP x.1) (by omega)
    rw [← pN_eq (c := x.2.1) (n := nP x.1) (by omega), ← pN_eq (c := x.2.2.1) (n := nP x.1) (by omega), ← pN_eq (c := x.2.2.2) (n := nP x.1) (by omega), ← hn0]
    generalize pN x.2.1 (nP x.1) = p at *
    generalize pN x.2.2.1 (nP x.1) = q at *
    generalize pN x.2.2.2 (nP x.1) = r at *
    rw [← hnt] at l1 l2 l3
    refine bind_of (m22_eq c p q) (bind_of (m22_eq c q p) (bind_of (m22_eq c q r) (bind_of (m22_eq c p r) ?_)))
    rw [aptR_in hc l1 l2, aptR_in hc l2 l1, aptR_in hc l2 l3, aptR_in hc l1 l3]
    have B1 : m14 ((c.1, c.2.1, c.2.2), (p : Int)) = some (apM c c.1.toNat p) := by rw [← boxQ_in hc l1]; exact m14_eq c p
    have B2 : m14 ((c.1, c.2.1, c.2.2), (q : Int)) = some (apM c c.1.toNat q) := by rw [← boxQ_in hc l2]; exact m14_eq c q
    cases ho : okN c with
    | false =>
      rw [apM_no ho, apM_no ho, apM_no ho, apM_no ho, B1, B2]
      rfl
    | true =>
      have ci : ∀ i j, i ≤ c.1.toNat → j ≤ c.1.toNat → (cnB c i j = true ↔ Cn c i j) := fun i j hi hj => cnB_iff hc ho hi hj
      cases hA : cnB c p q with
      | false =>
        have hA' : cnB c q p = false := by
          rw [Bool.eq_false_iff] at hA ⊢
          intro hh
          exact hA ((ci p q (by omega) (by omega)).2 ((ci q p (by omega) (by omega)).1 hh).symm)
        rw [apM_far hA, apM_far hA', B1, B2]
        rfl
      | true =>
        have cA := (ci p q (by omega) (by omega)).1 hA
        have hA' := (ci q p (by omega) (by omega)).2 cA.symm
        have bA := box_bd hc ho (i := p) (j := q) (by omega) (by omega) cA
        rw [apM_yes ho hA, apM_yes ho hA']
        have aX := axisX hc ho
        have aY := axisY hc ho
        have e1 : IntKind.wrap IntKind.i64 (negM (boxR c p q).2.1) = (boxR c q p).1 := by
          unfold SB boxR at bA
          unfold boxR PE.negM
          dsimp only at bA ⊢
          rw [wrap_in (by omega) (by omega)]
        have e2 : IntKind.wrap IntKind.i64 (negM (boxR c p q).1) = (boxR c q p).2.1 := by
          unfold SB boxR at bA
          unfold boxR PE.negM
          dsimp only at bA ⊢
          rw [Int.neg_neg, wrap_in (by omega) (by omega)]
        have e3 : IntKind.wrap IntKind.i64 (negM (boxR c p q).2.2.2) = (boxR c q p).2.2.1 := by
          unfold SB boxR at bA
          unfold boxR PE.negM
          dsimp only at bA ⊢
          rw [wrap_in (by omega) (by omega)]
        have e4 : IntKind.wrap IntKind.i64 (negM (boxR c p q).2.2.1) = (boxR c q p).2.2.2 := by
          unfold SB boxR at bA
          unfold boxR PE.negM
          dsimp only at bA ⊢
          rw [Int.neg_neg, wrap_in (by omega) (by omega)]
        dsimp only
        rw [e1, e2, e3, e4, eqI (a := (0 : Int)) rfl, eqI (a := (boxR c q p).1) rfl, eqI (a := (boxR c q p).2.1) rfl, eqI (a := (boxR c q p).2.2.1) rfl, eqI (a := (boxR c q p).2.2.2) rfl]
        have z : PE.andM (PE.andM true (eqM (p : Int) (q : Int))) (PE.notM (PE.andM (eqM (boxR c p q).1 0) (PE.andM (eqM (boxR c p q).2.1 0) (PE.andM (eqM (boxR c p q).2.2.1 0) (eqM (boxR c p q).2.2.2 0))))) = false := by
          by_cases hpq : p = q
          · subst hpq
            have s1 := aX.self p (by omega)
            have s2 := aY.self p (by omega)
            have q1 : (boxR c p p).1 = 0 := by unfold boxR; dsimp only; rw [s1]; rfl
            have q2 : (boxR c p p).2.1 = 0 := by unfold boxR; dsimp only; rw [s1]
            have q3 : (boxR c p p).2.2.1 = 0 := by unfold boxR; dsimp only; rw [s2]; rfl
            have q4 : (boxR c p p).2.2.2 = 0 := by unfold boxR; dsimp only; rw [s2]
            rw [eqI q1, eqI q2, eqI q3, eqI q4]
            cases eqM (p : Int) (p : Int) <;> rfl
          · rw [neI (a := (p : Int)) (b := (q : Int)) (by omega)]
            rfl
        rw [z]
        have y : PE.orM (PE.orM (PE.notM true) (PE.andM true (PE.notM (PE.andM true (PE.andM true (PE.andM true true)))))) false = false := rfl
        rw [y, cond_false]
        -- the third point
        have part : (Option.bind
                              (bif
                                  PE.andM (PE.andM true (eqM (apM c q r).2 (0 : Int)))
                                    (PE.notM (PE.notM (eqM (apM c p r).2 (0 : Int)))) then
                                m27
                                  (((apM c p r).1.1, (apM c p r).1.2.1, (apM c p r).1.2.2.1, (apM c p r).1.2.2.2),
                                    ((boxR c p q).1, (boxR c p q).2.1, (boxR c p q).2.2.1, (boxR c p q).2.2.2), (apM c q r).1.1, (apM c q r).1.2.1, (apM c q r).1.2.2.1,
                                    (apM c q r).1.2.2.2)
                              else some false)
                              fun (r_9 : Bool) => some (PE.andM (PE.andM true (eqM (apM c q r).2 (0 : Int)))
                                    (PE.orM (PE.notM (eqM (apM c p r).2 (0 : Int))) (PE.notM r_9)))) = some false := by
          cases hB : cnB c q r with
          | false =>
            rw [apM_far hB]
            rfl
          | true =>
            have cB := (ci q r (by omega) (by omega)).1 hB
            have hC := (ci p r (by omega) (by omega)).2 (cA.trans cB)
            rw [apM_yes ho hB, apM_yes ho hC]
            dsimp only
            rw [eqI (a := (0 : Int)) rfl]
            have := box_tri hc ho (i := p) (k := q) (j := r) (by omega) (by omega) (by omega) cA cB
            exact bind_of this rfl
        obtain ⟨r9, g1, g2⟩ := Option.bind_eq_some_iff.1 part
        refine bind_of g1 ?_
        rw [Option.some.inj g2, cond_false]
        refine bind_of B1 (bind_of B2 ?_)
        rw [notT, cond_false]
        cases hD : cnB c c.1.toNat p with
        | false =>
          have hE : cnB c c.1.toNat q = false := by
            rw [Bool.eq_false_iff] at hD ⊢
            intro hh
            exact hD ((ci _ _ (Nat.le_refl _) (by omega)).2 (((ci _ _ (Nat.le_refl _) (by omega)).1 hh).trans cA.symm))
          rw [apM_far hD, apM_far hE]
          rfl
        | true =>
          have cD := (ci _ _ (Nat.le_refl _) (by omega)).1 hD
          have hE := (ci c.1.toNat q (Nat.le_refl _) (by omega)).2 (cD.trans cA)
          rw [apM_yes ho hD, apM_yes ho hE]
          dsimp only
          rw [eqI (a := (0 : Int)) rfl]
          have := box_tri hc ho (i := c.1.toNat) (k := p) (j := q) (Nat.le_refl _) (by omega) (by omega) cD cA
          exact bind_of this rfl
end Go.Proofs.Ytklddmmnggcffaa
/-
  Network: Blame, and what is allowed.
  No conditions.
-/
namespace Go.Proofs.Ytklddmmnggcffaa
open Go Go.Abs Go.PE
set_option linter.unusedVariables false
/-! ### Blame -/
def best (c : Net) : List Int := if ovS (axY c) = true ∧ (ovS (axX c) = false ∨ (cycL (axY c).2).length < (cycL (axX c).2).length) then cycL (axY c).2 else if ovS (axX c) = true then cycL (axX c).2 else []
def half (v : Int) : Int := IntKind.wrap IntKind.i64 (v.tdiv 2)
def blL (c : Net) : List Int := Lib.compact (isortI ((best c).map half))
theorem cyc_len16 {x : Sys} (hs : sys x = true) (ho : ovS x = true) : (cycL x.2).length ≤ 16 := by
  obtain ⟨_, v, S, _, h2, _⟩ := cyc_st hs ho
  have := (sys_all hs).1
  omega
theorem best_len {c : Net} (h : NOK c) : (best c).length ≤ 16 := by
  unfold best
  split
  · rename_i h1; exact cyc_len16 (sysY h) h1.1
  · split
    · rename_i h1; exact cyc_len16 (sysX h) h1
    · exact Nat.zero_le _
theorem m10_eq {c : Net} (h : NOK c) : m10 c = some (blL c, !okN c) := by
  unfold m10
  refine bind_of (m18_eq c) ?_
  rw [nval_iff.2 h, notT, cond_false]
  refine bind_of (m32_eq h) ?_
  dsimp only
  refine bind_of (x := (if ovS (axX c) = true then cycL (axX c).2 else [], ovS (axX c))) ?_ ?_
  · refine bind_of (m33_eq (axX c)) ?_
    unfold cycR
    rw [sysX h]
    cases ovS (axX c) <;> rfl
  refine bind_of (x := (best c, !okN c)) ?_ ?_
  · refine bind_of (m33_eq (axY c)) ?_
    unfold cycR best okN
    rw [sysY h]
    have key : ∀ (bx bY : Bool) (l1 l2 : List Int), (bif PE.andM (bif true && bY then (l2, true) else (([] : List Int), false)).2 (PE.orM (PE.notM (if bx = true then l1 else [], bx).2) (ltM (lenM (bif true && bY then (l2, true) else (([] : List Int), false)).1) (lenM (if bx = true then l1 else [], bx).1))) then some ((bif true && bY then (l2, true) else (([] : List Int), false)).1, true) else some ((if bx = true then l1 else [], bx).1, (if bx = true then l1 else [], bx).2)) = some (if bY = true ∧ (bx = false ∨ l2.length < l1.length) then l2 else if bx = true then l1 else [], !(!bx && !bY)) := by
      intro bx bY l1 l2
      cases bx <;> cases bY
      · rfl
      · rfl
      · rfl
      · by_cases hl : l2.length < l1.length
        · have e : ltM (lenM l2) (lenM l1) = true := ltI (by show (l2.length : Int) < (l1.length : Int); omega)
          have e2 : (if true = true ∧ (true = false ∨ l2.length < l1.length) then l2 else if true = true then l1 else []) = l2 := if_pos ⟨rfl, .inr hl⟩
          rw [e2]
          show (bif PE.andM true (PE.orM (PE.notM true) (ltM (lenM l2) (lenM l1))) then some (l2, true) else some (l1, true)) = some (l2, true)
          rw [e]
          rfl
        · have e : ltM (lenM l2) (lenM l1) = false := geI (by show (l1.length : Int) ≤ (l2.length : Int); omega)
          have e2 : (if true = true ∧ (true = false ∨ l2.length < l1.length) then l2 else if true = true then l1 else []) = l1 := by
            rw [if_neg (by rintro ⟨_, h | h⟩ <;> first | cases h | exact hl h)]
            rfl
          rw [e2]
          show (bif PE.andM true (PE.orM (PE.notM true) (ltM (lenM l2) (lenM l1))) then some (l2, true) else some (l1, true)) = some (l1, true)
          rw [e]
          rfl
    exact key _ _ _ _
  dsimp only
  have hb := best_len h
  refine bind_of (x := (best c).map half) ?_ ?_
  · have L := count_loop (body := fun (s : Int × List Int) =>
                    bif ltM s.1 (lenM (best c)) then
                      Option.bind (idxM (best c) s.1) fun (r_2 : Int) =>
                        Option.bind (divM IntKind.i64 r_2 (2 : Int)) fun (r_3 : Int) =>
                          Option.bind (appM (nat_lit 8) s.2 [r_3]) fun (r : List Int) =>
                            some (Sum.inl (IntKind.wrap IntKind.i64 (s.1 + (1 : Int)), r))
                    else some (Sum.inr s.2)) (fun k => ((best c).take k).map half) (best c).length (r := ((best c).take (best c).length).map half) (fun k hk => by
      dsimp only
      rw [ltI (by show (k : Int) < ((best c).length : Int); omega), cond_true, idxM_lt hk, Option.bind_some, divM_pos (by omega), Option.bind_some]
      refine bind_of (appM_of (by simp; omega)) ?_
      rw [wrap_in (by omega) (by omega), List.take_succ_eq_append_getElem hk, List.map_append]
      rfl) (by
      dsimp only
      rw [geI (by show ((best c).length : Int) ≤ ((best c).length : Int); omega), cond_false])
    rw [List.take_length] at L
    exact L
  have hl : ((best c).map half).length ≤ 16 := by rw [List.length_map]; exact hb
  have e1 : sortI ((best c).map half) = some (isortI ((best c).map half)) := by
    unfold sortI
    rw [decide_eq_true (by omega)]
  refine bind_of e1 ?_
  have hp := (isortI_perm ((best c).map half)).length_eq
  have e2 : compI (isortI ((best c).map half)) = some (blL c) := by
    unfold compI
    rw [decide_eq_true (by omega)]
    rfl
  exact bind_of e2 rfl
/-! ### allowed places -/
def kpF (g : Nat → Int × Int) (f : Fix) : Bool := inB ((g f.1.toNat).1 - f.2.1) (-f.2.2.2) f.2.2.2 && inB ((g f.1.toNat).2 - f.2.2.1) (-f.2.2.2) f.2.2.2
def kpS (g : Nat → Int × Int) (s : Sgt) : Bool := inB ((g s.2.1.toNat).1 - (g s.1.toNat).1 - s.2.2.1) (-s.2.2.2.2) s.2.2.2.2 && inB ((g s.2.1.toNat).2 - (g s.1.toNat).2 - s.2.2.2.1) (-s.2.2.2.2) s.2.2.2.2
theorem m42_tol {x y t : Int} (h0 : 0 ≤ t) (h1 : t ≤ 1000) : m42 (x, y, t) = some (inB x (-t) t && inB y (-t) t) := m42_eq (by omega) (by omega)
theorem m17_row {c : Net} (h : NOK c) {g : Nat → Int × Int} (hg : ∀ i, i < c.1.toNat → (-1000000 ≤ (g i).1 ∧ (g i).1 ≤ 1000000) ∧ -1000000 ≤ (g i).2 ∧ (g i).2 ≤ 1000000) : m17 (c, row c.1.toNat g) = some (c.2.1.all (kpF g) && c.2.2.all (kpS g)) := by
  have h0 := h.n0
  have h8 := h.n8
  have hN : ((c.1.toNat : Nat) : Int) = c.1 := by omega
  have hl : lenM (row c.1.toNat g) = c.1 := by rw [lenR]; exact hN
  have hfl := h.fl
  have hsl := h.sl
  unfold m17
  dsimp only
  refine bind_of (m18_eq c) ?_
  rw [nval_iff.2 h, hl, eqI rfl, notT, orF, notF, cond_true]
  have hx : (row c.1.toNat g).any (fun p => !nearB p.1 p.2 1000000) = false := by
    rw [List.any_eq_false]
    intro p hp
    obtain ⟨i, hi, rfl⟩ := row_mem hp
    have := hg i hi
    have : nearB (g i).1 (g i).2 1000000 = true := by
      unfold nearB
      rw [Bool.and_eq_true, inB_iff, inB_iff]
      exact this
    rw [this]
    decide
  have L1 := any_loop (xs := row c.1.toNat g) (fun p => !nearB p.1 p.2 1000000) (body := fun (s : Int) =>
                  bif ltM s c.1 then
                    Option.bind (idxM (row c.1.toNat g) s) fun (r_1 : Int × Int) =>
                      Option.bind (m41 (r_1.1, r_1.2)) fun (r : Bool) =>
                        bif r then some (Sum.inr (Sum.inr s))
                        else some (Sum.inl (IntKind.wrap IntKind.i64 (s + (1 : Int))))
                  else some (Sum.inr (Sum.inl ()))) (fun k hk => by
    rw [row_length] at hk
    have e : (row c.1.toNat g)[k]'(by rw [row_length]; exact hk) = g k := by
      have := row_get (g := g) hk
      rw [List.getElem?_eq_getElem (by rw [row_length]; exact hk)] at this
      exact Option.some.inj this
    rw [ltI (by omega), cond_true, row_idx hk, Option.bind_some, e]
    unfold m41
    dsimp only
    rw [m42_eq (by omega) (by omega), wrap_in (by omega) (by omega)]
    cases nearB (g k).1 (g k).2 1000000 <;> rfl) (by rw [row_length, hN, geI (Int.le_refl _), cond_false])
  rw [hx] at L1
  obtain ⟨ov, g1, g2⟩ := Option.bind_eq_some_iff.1 L1
  refine bind_of (x := false) (bind_of g1 g2) ?_
  rw [orF, cond_false]
  have hnil : nilM (row c.1.toNat g) (some []) (Option.bind (appM (nat_lit 16) [] (row c.1.toNat g)) fun (r : List (Int × Int)) => some r) = some (row c.1.toNat g) := by
    have ea : (Option.bind (appM (nat_lit 16) [] (row c.1.toNat g)) fun (r : List (Int × Int)) => some r) = some (row c.1.toNat g) := by
      refine bind_of (appM_of (by rw [row_length]; simp; omega)) rfl
    rw [ea]
    cases hr : row c.1.toNat g with
    | nil =>
      show bothM (some []) (some []) = some []
      unfold bothM
      split
      · rfl
      · rename_i hh _; exact absurd rfl hh
    | cons a l => rfl
  refine bind_of hnil ?_
  refine bind_of (appM_of (by rw [row_length]; simp; omega)) ?_
  -- the places, and the origin
  have hall : ∃ l : List (Int × Int), l = row c.1.toNat g ++ [((0 : Int), (0 : Int))] := ⟨_, rfl⟩
  obtain ⟨l, hl0⟩ := hall
  rw [← hl0]
  have hll : l.length = c.1.toNat + 1 := by rw [hl0, List.length_append, row_length]; rfl
  have hlI : lenM l = c.1 + 1 := by show (l.length : Int) = _; rw [hll]; omega
  have hget : ∀ i : Int, 0 ≤ i → i < c.1 → chkM i (lenM l) = some () ∧ idxM l i = some (g i.toNat) := fun i hi0 hi1 => by
    refine ⟨chkM_of hi0 (by omega), ?_⟩
    obtain ⟨k, rfl⟩ := Int.eq_ofNat_of_zero_le hi0
    rw [Int.toNat_natCast, hl0, idxM_nat, List.getElem?_append_left (by rw [row_length]; omega), row_get (by omega)]
  have horg : chkM c.1 (lenM l) = some () ∧ idxM l c.1 = some ((0 : Int), (0 : Int)) := by
    refine ⟨chkM_of h0 (by omega), ?_⟩
    have : idxM l ((c.1.toNat : Nat) : Int) = some ((0 : Int), (0 : Int)) := by
      rw [hl0, idxM_nat, List.getElem?_append_right (by rw [row_length]; omega), row_length]
      simp
    rw [hN] at this
    exact this
  obtain ⟨b1, q1, q2⟩ := all_loop (n := c.2.1.length) (fun k => kpF g (c.2.1.getD k (0, 0, 0, 0))) (body := fun (s : Int) =>
                    bif ltM s (lenM c.2.1) then
                      Option.bind (idxM c.2.1 s) fun (r_2 : Int × Int × Int × Int) =>
                        Option.bind (chkM r_2.1 (lenM l)) fun (r_3 : Unit) =>
                          Option.bind (Option.bind (idxM l r_2.1) fun (x : Int × Int) => some x.1) fun (r_4 : Int) =>
                            Option.bind (chkM c.1 (lenM l)) fun (r_5 : Unit) =>
                              Option.bind (Option.bind (idxM l c.1) fun (x : Int × Int) => some x.1)
                                fun (r_6 : Int) =>
                                Option.bind (chkM r_2.1 (lenM l)) fun (r_7 : Unit) =>
                                  Option.bind (Option.bind (idxM l r_2.1) fun (x : Int × Int) => some x.2)
                                    fun (r_8 : Int) =>
                                    Option.bind (chkM c.1 (lenM l)) fun (r_9 : Unit) =>
                                      Option.bind (Option.bind (idxM l c.1) fun (x : Int × Int) => some x.2)
                                        fun (r_10 : Int) =>
                                        Option.bind
                                          (m42
                                            (IntKind.wrap IntKind.i64 (IntKind.wrap IntKind.i64 (r_4 - r_6) - r_2.2.1),
                                              IntKind.wrap IntKind.i64
                                                (IntKind.wrap IntKind.i64 (r_8 - r_10) - r_2.2.2.1),
                                              r_2.2.2.2))
                                          fun (r : Bool) =>
                                          bif PE.notM r then some (Sum.inr (Sum.inr false))
                                          else some (Sum.inl (IntKind.wrap IntKind.i64 (s + (1 : Int))))
                    else some (Sum.inr (Sum.inl ()))) (fun k hk => by
    have hm := h.fx _ (memD hk (0, 0, 0, 0))
    rw [ltI (by show (k : Int) < (c.2.1.length : Int); omega), cond_true, idxD hk (0, 0, 0, 0), Option.bind_some]
    generalize c.2.1.getD k (0, 0, 0, 0) = f at *
    obtain ⟨e1, e2⟩ := hget f.1 (by omega) (by omega)
    have hgb := hg f.1.toNat (by omega)
    rw [e1, Option.bind_some, e2, Option.bind_some, Option.bind_some, horg.1, Option.bind_some, horg.2, Option.bind_some, Option.bind_some, Option.bind_some, Option.bind_some, Option.bind_some, Option.bind_some, Option.bind_some, Option.bind_some]
    rw [wrap_in (n := (g f.1.toNat).1 - 0) (by omega) (by omega), wrap_in (n := (g f.1.toNat).2 - 0) (by omega) (by omega), Int.sub_zero, Int.sub_zero, wrap_in (n := (g f.1.toNat).1 - f.2.1) (by omega) (by omega), wrap_in (n := (g f.1.toNat).2 - f.2.2.1) (by omega) (by omega), m42_tol (by omega) (by omega), Option.bind_some, wrap_in (by omega) (by omega)]
    unfold kpF
    cases (inB ((g f.1.toNat).1 - f.2.1) (-f.2.2.2) f.2.2.2 && inB ((g f.1.toNat).2 - f.2.2.1) (-f.2.2.2) f.2.2.2) <;> rfl) (by rw [geI (by show (c.2.1.length : Int) ≤ (c.2.1.length : Int); omega), cond_false])
  obtain ⟨b2, r1, r2⟩ := all_loop (n := c.2.2.length) (fun k => kpS g (c.2.2.getD k (0, 0, 0, 0, 0))) (body := fun (s : Int) =>
                          bif ltM s (lenM c.2.2) then
                            Option.bind (idxM c.2.2 s) fun (r_2 : Int × Int × Int × Int × Int) =>
                              Option.bind (chkM r_2.2.1 (lenM l)) fun (r_3 : Unit) =>
                                Option.bind (Option.bind (idxM l r_2.2.1) fun (x : Int × Int) => some x.1)
                                  fun (r_4 : Int) =>
                                  Option.bind (chkM r_2.1 (lenM l)) fun (r_5 : Unit) =>
                                    Option.bind (Option.bind (idxM l r_2.1) fun (x : Int × Int) => some x.1)
                                      fun (r_6 : Int) =>
                                      Option.bind (chkM r_2.2.1 (lenM l)) fun (r_7 : Unit) =>
                                        Option.bind (Option.bind (idxM l r_2.2.1) fun (x : Int × Int) => some x.2)
                                          fun (r_8 : Int) =>
                                          Option.bind (chkM r_2.1 (lenM l)) fun (r_9 : Unit) =>
                                            Option.bind (Option.bind (idxM l r_2.1) fun (x : Int × Int) => some x.2)
                                              fun (r_10 : Int) =>
                                              Option.bind
                                                (m42
                                                  (IntKind.wrap IntKind.i64
                                                      (IntKind.wrap IntKind.i64 (r_4 - r_6) - r_2.2.2.1),
                                                    IntKind.wrap IntKind.i64
                                                      (IntKind.wrap IntKind.i64 (r_8 - r_10) - r_2.2.2.2.1),
                                                    r_2.2.2.2.2))
                                                fun (r : Bool) =>
                                                bif PE.notM r then some (Sum.inr (Sum.inr false))
                                                else some (Sum.inl (IntKind.wrap IntKind.i64 (s + (1 : Int))))
                          else some (Sum.inr (Sum.inl ()))) (fun k hk => by
    have hm := h.sg _ (memD hk (0, 0, 0, 0, 0))
    rw [ltI (by show (k : Int) < (c.2.2.length : Int); omega), cond_true, idxD hk (0, 0, 0, 0, 0), Option.bind_some]
    generalize c.2.2.getD k (0, 0, 0, 0, 0) = f at *
    obtain ⟨e1, e2⟩ := hget f.1 (by omega) (by omega)
    obtain ⟨e3, e4⟩ := hget f.2.1 (by omega) (by omega)
    have hgb := hg f.1.toNat (by omega)
    have hgb2 := hg f.2.1.toNat (by omega)
    rw [e3, Option.bind_some, e4, Option.bind_some, Option.bind_some, e1, Option.bind_some, e2, Option.bind_some, Option.bind_some, Option.bind_some, Option.bind_some, Option.bind_some, Option.bind_some, Option.bind_some, Option.bind_some]
    rw [wrap_in (n := (g f.2.1.toNat).1 - (g f.1.toNat).1) (by omega) (by omega), wrap_in (n := (g f.2.1.toNat).2 - (g f.1.toNat).2) (by omega) (by omega), wrap_in (n := (g f.2.1.toNat).1 - (g f.1.toNat).1 - f.2.2.1) (by omega) (by omega), wrap_in (n := (g f.2.1.toNat).2 - (g f.1.toNat).2 - f.2.2.2.1) (by omega) (by omega), m42_tol (by omega) (by omega), Option.bind_some, wrap_in (by omega) (by omega)]
    unfold kpS
    cases (inB ((g f.2.1.toNat).1 - (g f.1.toNat).1 - f.2.2.1) (-f.2.2.2.2) f.2.2.2.2 && inB ((g f.2.1.toNat).2 - (g f.1.toNat).2 - f.2.2.2.1) (-f.2.2.2.2) f.2.2.2.2) <;> rfl) (by rw [geI (by show (c.2.2.length : Int) ≤ (c.2.2.length : Int); omega), cond_false])
  have hb1 : b1 = c.2.1.all (kpF g) := by
    rw [Bool.eq_iff_iff, q2, List.all_eq_true]
    constructor
    · intro hh f hf
      obtain ⟨i, hi, rfl⟩ := List.mem_iff_getElem.1 hf
      have := hh i hi
      simpa [List.getD, hi] using this
    · intro hh k hk
      exact hh _ (memD hk _)
  have hb2 : b2 = c.2.2.all (kpS g) := by
    rw [Bool.eq_iff_iff, r2, List.all_eq_true]
    constructor
    · intro hh f hf
      obtain ⟨i, hi, rfl⟩ := List.mem_iff_getElem.1 hf
      have := hh i hi
      simpa [List.getD, hi] using this
    · intro hh k hk
      exact hh _ (memD hk _)
  refine bind_of q1 ?_
  cases b1 with
  | false => rw [← hb1]; rfl
  | true =>
    rw [← hb1, ← hb2]
    refine bind_of r1 ?_
    cases b2 <;> rfl
end Go.Proofs.Ytklddmmnggcffaa
/-
  Network: the observations that a list names; what Compact keeps of a sorted list.
  No conditions.
-/
namespace Go.Proofs.Ytklddmmnggcffaa
open Go Go.Abs Go.PE
set_option linter.unusedVariables false
/-! ### Compact of a sorted list -/
theorem comp_lt {zs : List Int} (h : List.Pairwise (· ≤ ·) zs) : List.Pairwise (· < ·) (Lib.compact zs) := by
  unfold Lib.compact Lib.compactUpTo
  rw [List.pairwise_map]
  refine List.Pairwise.imp_of_mem (fun {a b} ha hb hab => ?_) ((List.pairwise_lt_range (n := zs.length)).filter _)
  have hal : a < zs.length := List.mem_range.1 (List.mem_filter.1 ha).1
  have hbl : b < zs.length := List.mem_range.1 (List.mem_filter.1 hb).1
  have hk := (List.mem_filter.1 hb).2
  unfold Lib.keeps at hk
  have hk := of_decide_eq_true hk
  rw [getB (by simpa using hbl), getB (by simp; omega)] at hk
  rw [getB (by simpa using hal), getB (by simpa using hbl)]
  simp only [List.getElem_toArray] at hk ⊢
  have hs := List.pairwise_iff_getElem.1 h
  have h1 : zs[b - 1] ≤ zs[b] := hs (b - 1) b (by omega) hbl (by omega)
  have h2 : zs[a] ≤ zs[b - 1] := by
    by_cases e : a = b - 1
    · subst e; exact Int.le_refl _
    · exact hs a (b - 1) hal (by omega) (by omega)
  rcases hk with h0 | hne
  · omega
  · omega
theorem mem_comp {zs : List Int} : ∀ (j : Nat) (hj : j < zs.length), zs[j] ∈ Lib.compact zs
  | j, hj => by
    by_cases hk : Lib.keeps zs.toArray j = true
    · unfold Lib.compact Lib.compactUpTo
      refine List.mem_map.2 ⟨j, List.mem_filter.2 ⟨List.mem_range.2 hj, hk⟩, ?_⟩
      rw [getB (by simpa using hj)]
      simp
    · have hk : ¬ (j = 0 ∨ zs.toArray[j]! ≠ zs.toArray[j - 1]!) := fun h => hk (decide_eq_true h)
      have h0 : j ≠ 0 := fun h => hk (.inl h)
      have he : zs.toArray[j]! = zs.toArray[j - 1]! := Classical.byContradiction fun h => hk (.inr h)
      rw [getB (by simpa using hj), getB (by simp; omega)] at he
      simp only [List.getElem_toArray] at he
      rw [he]
      exact mem_comp (j - 1) (by omega)
  termination_by j => j
theorem blL_lt (c : Net) : List.Pairwise (· < ·) (blL c) := comp_lt (isortI_sorted _)
theorem blL_of {c : Net} {e : Int} (h : e ∈ best c) : half e ∈ blL c := by
  have h1 : half e ∈ isortI ((best c).map half) := (isortI_perm _).mem_iff.2 (List.mem_map.2 ⟨e, h, rfl⟩)
  obtain ⟨j, hj, e1⟩ := List.mem_iff_getElem.1 h1
  rw [← e1]
  exact mem_comp j hj
theorem of_blL {c : Net} {i : Int} (h : i ∈ blL c) : ∃ e ∈ best c, half e = i := by
  have h1 := (isortI_perm _).mem_iff.1 (compact_mem h)
  obtain ⟨e, h1, h2⟩ := List.mem_map.1 h1
  exact ⟨e, h1, h2⟩
theorem blL_len (c : Net) : (blL c).length ≤ (best c).length := by
  refine Nat.le_trans (compact_len _) ?_
  rw [(isortI_perm _).length_eq, List.length_map]
  exact Nat.le_refl _
/-- A rising list of numbers from a to b is not longer than there are. -/
theorem rise_len : ∀ (l : List Int) (a b : Int), List.Pairwise (· < ·) l → (∀ i ∈ l, a ≤ i ∧ i < b) → (l.length : Int) ≤ max (b - a) 0
  | [], a, b, _, _ => by simp; omega
  | x :: r, a, b, h, hm => by
    have h2 := List.pairwise_cons.1 h
    have hx := hm x (List.mem_cons_self ..)
    have ih := rise_len r (x + 1) b h2.2 fun i hi => ⟨by have := h2.1 i hi; omega, (hm i (List.mem_cons_of_mem _ hi)).2⟩
    rw [List.length_cons]
    omega
theorem nodup_len : ∀ (a b : List Int), a.Nodup → (∀ x ∈ a, x ∈ b) → a.length ≤ b.length
  | [], b, _, _ => Nat.zero_le _
  | x :: r, b, h, hm => by
    have h2 := List.nodup_cons.1 h
    have hx := hm x (List.mem_cons_self ..)
    have ih := nodup_len r (b.erase x) h2.2 fun y hy => by
      refine (List.mem_erase_of_ne ?_).2 (hm y (List.mem_cons_of_mem _ hy))
      rintro rfl
      exact h2.1 hy
    have := List.length_erase_of_mem hx
    have := List.length_pos_of_mem hx
    rw [List.length_cons]
    omega
/-! ### only -/
def pickF (c : Net) (i : Int) : Fix := c.2.1.getD i.toNat (0, 0, 0, 0)
def pickS (c : Net) (i : Int) : Sgt := c.2.2.getD (i - (c.2.1.length : Int)).toNat (0, 0, 0, 0, 0)
def isF (c : Net) (i : Int) : Bool := decide (i < (c.2.1.length : Int))
def onF (c : Net) (l : List Int) : List Fix := (l.filter (isF c)).map (pickF c)
def onS (c : Net) (l : List Int) : List Sgt := (l.filter fun i => !isF c i).map (pickS c)
def onl (c : Net) (l : List Int) : Net := (c.1, onF c l, onS c l)
def inl (c : Net) (l : List Int) : Prop := ∀ i ∈ l, 0 ≤ i ∧ i < (c.2.1.length : Int) + c.2.2.length
theorem onF_len (c : Net) (l : List Int) : (onF c l).length ≤ l.length := by unfold onF; rw [List.length_map]; exact List.length_filter_le _ _
theorem onS_len (c : Net) (l : List Int) : (onS c l).length ≤ l.length := by unfold onS; rw [List.length_map]; exact List.length_filter_le _ _
theorem onF_app (c : Net) (a b : List Int) : onF c (a ++ b) = onF c a ++ onF c b := by unfold onF; rw [List.filter_append, List.map_append]
theorem onS_app (c : Net) (a b : List Int) : onS c (a ++ b) = onS c a ++ onS c b := by unfold onS; rw [List.filter_append, List.map_append]
theorem onF_1 {c : Net} {i : Int} (h : isF c i = true) : onF c [i] = [pickF c i] ∧ onS c [i] = [] := by
  unfold onF onS
  simp [h]
theorem onS_1 {c : Net} {i : Int} (h : isF c i = false) : onF c [i] = [] ∧ onS c [i] = [pickS c i] := by
  unfold onF onS
  simp [h]
theorem m29_eq {c : Net} {l : List Int} (hf : c.2.1.length ≤ 8) (hs : c.2.2.length ≤ 20) (h : inl c l) (hl : l.length ≤ 1000) : m29 (c, l) = some (onl c l) := by
  unfold m29
  dsimp only
  refine bind_of (x := onl c l) ?_ rfl
  refine count_loop (fun k => (c.1, onF c (l.take k), onS c (l.take k))) l.length (fun k hk => ?_) ?_
  · have hr := h _ (List.getElem_mem hk)
    have l1 := onF_len c (l.take k)
    have l2 := onS_len c (l.take k)
    rw [List.length_take] at l1 l2
    dsimp only
    rw [ltI (by show (k : Int) < (l.length : Int); omega), cond_true, idxM_lt hk, Option.bind_some]
    rw [List.take_succ_eq_append_getElem hk, onF_app, onS_app]
    generalize l[k] = i at *
    refine bind_of (x := (c.1, onF c (l.take k) ++ onF c [i], onS c (l.take k) ++ onS c [i])) ?_ ?_
    · obtain ⟨j, rfl⟩ := Int.eq_ofNat_of_zero_le hr.1
      by_cases hi : j < c.2.1.length
      · obtain ⟨e1, e2⟩ := onF_1 (c := c) (i := (j : Int)) (decide_eq_true (by omega))
        rw [ltI (by show (j : Int) < (c.2.1.length : Int); omega), cond_true, e1, e2, Option.bind_some, idxD hi (0, 0, 0, 0), Option.bind_some, List.append_nil]
        refine bind_of (appM_of ?_) rfl
        show ((onF c (l.take k)).length + 1) * 32 ≤ 140737488355328
        omega
      · obtain ⟨e1, e2⟩ := onS_1 (c := c) (i := (j : Int)) (decide_eq_false (by omega))
        have hw : IntKind.wrap IntKind.i64 ((j : Int) - lenM c.2.1) = (((j : Int) - (c.2.1.length : Int)).toNat : Nat) := by
          have : IntKind.wrap IntKind.i64 ((j : Int) - (c.2.1.length : Int)) = (j : Int) - (c.2.1.length : Int) := wrap_in (by omega) (by omega)
          show IntKind.wrap IntKind.i64 ((j : Int) - (c.2.1.length : Int)) = _
          omega
        rw [geI (by show (c.2.1.length : Int) ≤ (j : Int); omega), cond_false, e1, e2, Option.bind_some, hw, idxD (by omega) (0, 0, 0, 0, 0), Option.bind_some, List.append_nil]
        refine bind_of (appM_of ?_) rfl
        show ((onS c (l.take k)).length + 1) * 40 ≤ 140737488355328
        omega
    · dsimp only
      rw [wrap_in (by omega) (by omega)]
  · dsimp only
    rw [geI (by show (l.length : Int) ≤ (l.length : Int); omega), cond_false, List.take_length]
    rfl
/-! ### its observations -/
def obAt (d1 : Fix → Int) (d2 : Sgt → Int) (c : Net) (i : Int) : Obs := if isF c i = true then fOb d1 c.1 (pickF c i) else sOb d2 (pickS c i)
theorem obs_onl {d1 : Fix → Int} {d2 : Sgt → Int} {c : Net} {l : List Int} {o : Obs} : o ∈ obs d1 d2 (onl c l) ↔ ∃ i ∈ l, o = obAt d1 d2 c i := by
  unfold obs onl onF onS
  dsimp only
  constructor
  · intro h
    rcases List.mem_append.1 h with h | h
    · obtain ⟨f, hf, rfl⟩ := List.mem_map.1 h
      obtain ⟨i, hi, rfl⟩ := List.mem_map.1 hf
      obtain ⟨h1, h2⟩ := List.mem_filter.1 hi
      exact ⟨i, h1, by unfold obAt; rw [if_pos h2]⟩
    · obtain ⟨s, hs, rfl⟩ := List.mem_map.1 h
      obtain ⟨i, hi, rfl⟩ := List.mem_map.1 hs
      obtain ⟨h1, h2⟩ := List.mem_filter.1 hi
      have h2 : isF c i = false := by simpa using h2
      exact ⟨i, h1, by unfold obAt; rw [h2, if_neg (by decide)]⟩
  · rintro ⟨i, hi, rfl⟩
    unfold obAt
    cases hb : isF c i with
    | true =>
      rw [if_pos rfl]
      exact List.mem_append.2 (.inl (List.mem_map.2 ⟨_, List.mem_map.2 ⟨i, List.mem_filter.2 ⟨hi, hb⟩, rfl⟩, rfl⟩))
    | false =>
      rw [if_neg (by decide)]
      exact List.mem_append.2 (.inr (List.mem_map.2 ⟨_, List.mem_map.2 ⟨i, List.mem_filter.2 ⟨hi, by rw [hb]; rfl⟩, rfl⟩, rfl⟩))
theorem pickF_mem {c : Net} {i : Int} (h0 : 0 ≤ i) (h : isF c i = true) : pickF c i ∈ c.2.1 := memD (by have := of_decide_eq_true h; omega) _
theorem pickS_mem {c : Net} {i : Int} (h0 : i < (c.2.1.length : Int) + c.2.2.length) (h : isF c i = false) : pickS c i ∈ c.2.2 := memD (by have := of_decide_eq_false h; omega) _
theorem obAt_getD {d1 : Fix → Int} {d2 : Sgt → Int} {c : Net} {j : Nat} (hj : j < c.2.1.length + c.2.2.length) (z : Obs) : (obs d1 d2 c).getD j z = obAt d1 d2 c j := by
  unfold obs obAt pickF pickS isF
  by_cases h : j < c.2.1.length
  · rw [if_pos (decide_eq_true (by omega))]
    simp [List.getD, List.getElem?_append, h]
  · rw [if_neg (by rw [decide_eq_false (by omega)]; decide)]
    have e : ((j : Int) - (c.2.1.length : Int)).toNat = j - c.2.1.length := by omega
    rw [e]
    have h2 : j - c.2.1.length < c.2.2.length := by omega
    simp [List.getD, List.getElem?_append, h, h2]
theorem obAt_mem {d1 : Fix → Int} {d2 : Sgt → Int} {c : Net} {i : Int} (h0 : 0 ≤ i) (h : i < (c.2.1.length : Int) + c.2.2.length) : obAt d1 d2 c i ∈ obs d1 d2 c := by
  obtain ⟨j, rfl⟩ := Int.eq_ofNat_of_zero_le h0
  rw [← obAt_getD (by omega) (0, 0, 0, 0)]
  exact memD (by rw [obs_len]; omega) _
theorem bds_getD : ∀ (os : List Obs) (k : Nat), k < 2 * os.length → ∀ (z : Int × Int × Int) (y : Obs), (bds os).getD k z ∈ two (os.getD (k / 2) y)
  | [], k, h, _, _ => by simp at h
  | o :: r, 0, _, z, y => List.mem_cons_self ..
  | o :: r, 1, _, z, y => List.mem_cons_of_mem _ (List.mem_cons_self ..)
  | o :: r, k + 2, h, z, y => by
    have ih := bds_getD r k (by rw [List.length_cons] at h; omega) z y
    have e : (k + 2) / 2 = k / 2 + 1 := by omega
    rw [e]
    exact ih
theorem half_nat {k : Nat} (h : k < 1000) : half (k : Int) = ((k / 2 : Nat) : Int) := by
  unfold half
  have e : (k : Int).tdiv 2 = ((k / 2 : Nat) : Int) := by
    rw [Int.tdiv_eq_ediv_of_nonneg (by omega)]
    omega
  rw [e]
  exact wrap_in (by omega) (by omega)
/-- A list in range: what it names is in the net. -/
theorem onl_sub {d1 : Fix → Int} {d2 : Sgt → Int} {c : Net} {l : List Int} (h : inl c l) {b : Int × Int × Int} (hb : b ∈ bds (obs d1 d2 (onl c l))) : b ∈ bds (obs d1 d2 c) := by
  obtain ⟨a, b', m⟩ := b
  obtain ⟨o, ho, hh⟩ := mem_bds.1 hb
  obtain ⟨i, hi, rfl⟩ := obs_onl.1 ho
  exact mem_bds.2 ⟨_, obAt_mem (h i hi).1 (h i hi).2, hh⟩
theorem onl_nok {c : Net} (hc : NOK c) {l : List Int} (h : inl c l) (h1 : (onF c l).length ≤ 8) (h2 : (onS c l).length ≤ 20) : NOK (onl c l) :=
  ⟨hc.n0, hc.n8, h1, h2, fun f hf => by
    obtain ⟨i, hi, rfl⟩ := List.mem_map.1 hf
    obtain ⟨h3, h4⟩ := List.mem_filter.1 hi
    exact hc.fx _ (pickF_mem (h i h3).1 h4), fun s hs => by
    obtain ⟨i, hi, rfl⟩ := List.mem_map.1 hs
    obtain ⟨h3, h4⟩ := List.mem_filter.1 hi
    exact hc.sg _ (pickS_mem (h i h3).2 (by simpa using h4))⟩
theorem onl_d {d1 : Fix → Int} {d2 : Sgt → Int} {c : Net} {l : List Int} (h : inl c l) (hd : dOk d1 d2 c) : dOk d1 d2 (onl c l) :=
  ⟨fun f hf => by
    obtain ⟨i, hi, rfl⟩ := List.mem_map.1 hf
    obtain ⟨h3, h4⟩ := List.mem_filter.1 hi
    exact hd.1 _ (pickF_mem (h i h3).1 h4), fun s hs => by
    obtain ⟨i, hi, rfl⟩ := List.mem_map.1 hs
    obtain ⟨h3, h4⟩ := List.mem_filter.1 hi
    exact hd.2 _ (pickS_mem (h i h3).2 (by simpa using h4))⟩
theorem m10_bad {c : Net} (h : ¬ NOK c) : m10 c = some ([], false) := by
  unfold m10
  refine bind_of (m18_eq c) ?_
  have : nval c = false := by
    cases hv : nval c with
    | false => rfl
    | true => exact absurd (nval_iff.1 hv) h
  rw [this, notF, cond_true]
end Go.Proofs.Ytklddmmnggcffaa
/-
  Network: contradictions of few observations.
  No conditions.
-/
namespace Go.Proofs.Ytklddmmnggcffaa
open Go Go.Abs Go.PE
set_option linter.unusedVariables false
/-- A contradiction among few observations: one of as many bounds at most is in the whole net. -/
theorem cyc_few {c : Net} {few : List Int} (h : NOK c) (hi : inl c few) (h2 : NOK (onl c few)) {d1 : Fix → Int} {d2 : Sgt → Int} (hd : dOk d1 d2 c)
    (hov : ovS (c.1 + 1, bds (obs d1 d2 (onl c few))) = true) : ovS (c.1 + 1, bds (obs d1 d2 c)) = true ∧ (cycL (bds (obs d1 d2 c))).length ≤ few.length := by
  have hd2 := onl_d hi hd
  have hs2 : sys (c.1 + 1, bds (obs d1 d2 (onl c few))) = true := ax_sys h2 hd2
  have hs1 : sys (c.1 + 1, bds (obs d1 d2 c)) = true := ax_sys h hd
  obtain ⟨_, v, S, p1, p2, p3, p4, p5, p6, p7, p8⟩ := cyc_st hs2 hov
  dsimp only at p1 p2 p3 p4 p6 p7 p8
  have hst : ∀ k, k < (cycL (bds (obs d1 d2 (onl c few)))).length → ((v k : Int), (v (k + 1) : Int), S (k + 1) - S k) ∈ bds (obs d1 d2 (onl c few)) := fun k hk => by
    obtain ⟨g1, g2, g3⟩ := p7 k hk
    rw [← g3]
    exact memD (by omega) _
  clear p7
  generalize hm : (cycL (bds (obs d1 d2 (onl c few)))).length = m at *
  have inj : ∀ a b, a < b → b < m → v a ≠ v b := fun a b hab hb => cyc_inj hs2 (x := (c.1 + 1, bds (obs d1 d2 (onl c few)))) p3 p4 p5 p6 hst p8 hab hb
  have hobs : ∀ k, ∃ i : Int, k < m → i ∈ few ∧ (((v k : Int) = (obAt d1 d2 c i).1 ∧ (v (k + 1) : Int) = (obAt d1 d2 c i).2.1 ∧ S (k + 1) - S k = (obAt d1 d2 c i).2.2.1 + (obAt d1 d2 c i).2.2.2) ∨ ((v k : Int) = (obAt d1 d2 c i).2.1 ∧ (v (k + 1) : Int) = (obAt d1 d2 c i).1 ∧ S (k + 1) - S k = (obAt d1 d2 c i).2.2.2 - (obAt d1 d2 c i).2.2.1)) := fun k => by
    by_cases hk : k < m
    · obtain ⟨o, ho, hh⟩ := mem_bds.1 (hst k hk)
      obtain ⟨i, hi', rfl⟩ := obs_onl.1 ho
      exact ⟨i, fun _ => ⟨hi', hh⟩⟩
    · exact ⟨0, fun h => absurd h hk⟩
  obtain ⟨I, hI⟩ := Classical.axiomOfChoice hobs
  have hinj : ∀ a b, a < b → b < m → I a ≠ I b := fun a b hab hb e => by
    obtain ⟨m1, q1⟩ := hI a (by omega)
    obtain ⟨_, q2⟩ := hI b hb
    rw [← e] at q2
    have hr := hi _ m1
    have ht := obs_mem h hd (obAt_mem (d1 := d1) (d2 := d2) hr.1 hr.2)
    generalize obAt d1 d2 c (I a) = o at *
    have n1 := inj a b hab hb
    have cross : v a = v (b + 1) → v (a + 1) = v b → False := fun x1 x2 => by
      have e1 : a + 1 = b := Classical.byContradiction fun hne => inj (a + 1) b (by omega) hb x2
      have e2 : b + 1 = m := Classical.byContradiction fun hne => inj a (b + 1) (by omega) (by omega) x1
      rw [e2, p4] at x1
      have e3 : a = 0 := Classical.byContradiction fun hne => inj 0 a (by omega) (by omega) x1.symm
      subst e3
      have e4 : b = 1 := by omega
      subst e4
      have e5 : m = 2 := by omega
      subst e5
      have r1 : S (0 + 1) = S 1 := rfl
      have r2 : S (1 + 1) = S 2 := rfl
      have r3 : v (0 + 1) = v 1 := rfl
      have r4 : v (1 + 1) = v 2 := rfl
      rw [r1, r3] at q1
      rw [r2, r4] at q2
      rcases q1 with ⟨y1, y2, w1⟩ | ⟨y1, y2, w1⟩ <;> rcases q2 with ⟨y3, y4, w2⟩ | ⟨y3, y4, w2⟩ <;> omega
    rcases q1 with ⟨x1, x2, _⟩ | ⟨x1, x2, _⟩ <;> rcases q2 with ⟨y1, y2, _⟩ | ⟨y1, y2, _⟩
    · omega
    · exact cross (by omega) (by omega)
    · exact cross (by omega) (by omega)
    · omega
  have hle : m ≤ few.length := by
    have hn : ((List.range m).map I).Nodup := by
      unfold List.Nodup
      rw [List.pairwise_map]
      refine List.Pairwise.imp_of_mem (fun {a b} ha hb hab => ?_) (List.pairwise_lt_range (n := m))
      exact hinj a b hab (List.mem_range.1 hb)
    have := nodup_len _ few hn fun x hx => by
      obtain ⟨k, hk, rfl⟩ := List.mem_map.1 hx
      exact (hI k (List.mem_range.1 hk)).1
    rwa [List.length_map, List.length_range] at this
  have hst' : ∀ k, k < m → ((v k : Int), (v (k + 1) : Int), S (k + 1) - S k) ∈ bds (obs d1 d2 c) := fun k hk => onl_sub hi (hst k hk)
  have w := seg hst' 0 m (by omega)
  rw [Nat.zero_add, p4, p5, Int.sub_zero] at w
  have hov1 : ovS (c.1 + 1, bds (obs d1 d2 c)) = true := ov_of_walk hs1 (i := v 0) p3 p6 w.wk
  refine ⟨hov1, ?_⟩
  obtain ⟨_, v', S', _, _, _, _, _, _, _, r8⟩ := cyc_st hs1 hov1
  dsimp only at r8
  refine Nat.le_trans (Nat.not_lt.1 fun hlt => ?_) hle
  have := r8 (v 0) m (S m) p3 hlt w
  omega
theorem best_leX {c : Net} (h : ovS (axX c) = true) : (best c).length ≤ (cycL (axX c).2).length := by
  unfold best
  split
  · rename_i h1
    rcases h1.2 with h2 | h2
    · rw [h] at h2; cases h2
    · omega
  · first
    | exact Nat.le_refl _
    | (rw [if_pos h]; exact Nat.le_refl _)
theorem best_leY {c : Net} (h : ovS (axY c) = true) : (best c).length ≤ (cycL (axY c).2).length := by
  unfold best
  split
  · exact Nat.le_refl _
  · rename_i h1
    cases hx : ovS (axX c) with
    | false => exact absurd ⟨h, .inl hx⟩ h1
    | true =>
      rw [if_pos rfl]
      exact Nat.not_lt.1 fun hlt => h1 ⟨h, .inr hlt⟩
/-- Fewer observations than Blame names do not contradict each other. -/
theorem few_ok {c : Net} (h : NOK c) {few : List Int} (hi : inl c few) (hl : few.length < (blL c).length) : ∃ b, m10 (onl c few) = some (b, false) := by
  by_cases h2 : NOK (onl c few)
  · refine ⟨blL (onl c few), (m10_eq h2).trans ?_⟩
    have : okN (onl c few) = true := by
      rw [okN_iff]
      have hb := blL_len c
      constructor
      · cases ho : ovS (axX (onl c few)) with
        | false => rfl
        | true =>
          exfalso
          obtain ⟨g1, g2⟩ := cyc_few h hi h2 h.dx ho
          have g3 := best_leX (c := c) g1
          have g2 : (cycL (axX c).2).length ≤ few.length := g2
          omega
      · cases ho : ovS (axY (onl c few)) with
        | false => rfl
        | true =>
          exfalso
          obtain ⟨g1, g2⟩ := cyc_few h hi h2 h.dy ho
          have g3 := best_leY (c := c) g1
          have g2 : (cycL (axY c).2).length ≤ few.length := g2
          omega
    rw [this]
    rfl
  · exact ⟨_, m10_bad h2⟩
/-- One axis: where its contradiction lies. -/
theorem cyc_at {c : Net} (h : NOK c) {d1 : Fix → Int} {d2 : Sgt → Int} (hd : dOk d1 d2 c) (hov : ovS (c.1 + 1, bds (obs d1 d2 c)) = true) :
    1 ≤ (cycL (bds (obs d1 d2 c))).length ∧ (∀ e ∈ cycL (bds (obs d1 d2 c)), 0 ≤ half e ∧ half e < (c.2.1.length : Int) + c.2.2.length) ∧
    ∀ l : List Int, inl c l → NOK (onl c l) → (∀ e ∈ cycL (bds (obs d1 d2 c)), half e ∈ l) → ovS (c.1 + 1, bds (obs d1 d2 (onl c l))) = true := by
  have hs1 : sys (c.1 + 1, bds (obs d1 d2 c)) = true := ax_sys h hd
  have hfl := h.fl
  have hsl := h.sl
  have hbl := bds_len (obs d1 d2 c)
  rw [obs_len] at hbl
  obtain ⟨_, v, S, p1, p2, p3, p4, p5, p6, p7, p8⟩ := cyc_st hs1 hov
  dsimp only at p1 p2 p3 p4 p6 p7 p8
  have rng : ∀ e ∈ cycL (bds (obs d1 d2 c)), 0 ≤ e ∧ e < ((bds (obs d1 d2 c)).length : Int) := fun e he => by
    obtain ⟨k, hk, rfl⟩ := List.mem_iff_getElem.1 he
    obtain ⟨g1, g2, _⟩ := p7 k hk
    exact ⟨g1, g2⟩
  refine ⟨p1, fun e he => ?_, fun l hl hn hall => ?_⟩
  · obtain ⟨g1, g2⟩ := rng e he
    obtain ⟨j, rfl⟩ := Int.eq_ofNat_of_zero_le g1
    rw [half_nat (by omega)]
    omega
  · have hs2 : sys (c.1 + 1, bds (obs d1 d2 (onl c l))) = true := ax_sys hn (onl_d hl hd)
    have hst : ∀ k, k < (cycL (bds (obs d1 d2 c))).length → ((v k : Int), (v (k + 1) : Int), S (k + 1) - S k) ∈ bds (obs d1 d2 (onl c l)) := fun k hk => by
      obtain ⟨g1, g2, g3⟩ := p7 k hk
      have hm := hall _ (List.getElem_mem hk)
      generalize (cycL (bds (obs d1 d2 c)))[k] = e at *
      obtain ⟨j, rfl⟩ := Int.eq_ofNat_of_zero_le g1
      rw [half_nat (by omega)] at hm
      rw [Int.toNat_natCast] at g3
      rw [← g3]
      have ht := bds_getD (obs d1 d2 c) j (by rw [obs_len]; omega) (0, 0, 0) (0, 0, 0, 0)
      rw [obAt_getD (by omega)] at ht
      exact List.mem_flatMap.2 ⟨_, obs_onl.2 ⟨_, hm, rfl⟩, ht⟩
    have w := seg hst 0 (cycL (bds (obs d1 d2 c))).length (by omega)
    rw [Nat.zero_add, p4, p5, Int.sub_zero] at w
    exact ov_of_walk hs2 (i := v 0) p3 p6 w.wk
theorem best_is {c : Net} (h : okN c = false) : (ovS (axX c) = true ∧ best c = cycL (axX c).2) ∨ (ovS (axY c) = true ∧ best c = cycL (axY c).2) := by
  unfold best
  split
  · rename_i h1; exact .inr ⟨h1.1, rfl⟩
  · rename_i h1
    cases hx : ovS (axX c) with
    | true => rw [if_pos rfl]; exact .inl ⟨rfl, rfl⟩
    | false =>
      cases hy : ovS (axY c) with
      | true => exact absurd ⟨hy, .inl hx⟩ h1
      | false => exact absurd (okN_iff.2 ⟨hx, hy⟩) (by rw [h]; decide)
/-- What Blame names: in range, and not empty; alone it is not consistent. -/
theorem bl_is {c : Net} (h : NOK c) (ho : okN c = false) (h6 : c.2.1.length ≤ 8) : inl c (blL c) ∧ 1 ≤ (blL c).length ∧ NOK (onl c (blL c)) ∧ okN (onl c (blL c)) = false := by
  have key : ∀ {d1 : Fix → Int} {d2 : Sgt → Int}, dOk d1 d2 c → ovS (c.1 + 1, bds (obs d1 d2 c)) = true → best c = cycL (bds (obs d1 d2 c)) → inl c (blL c) ∧ 1 ≤ (blL c).length ∧ NOK (onl c (blL c)) ∧ ovS (c.1 + 1, bds (obs d1 d2 (onl c (blL c)))) = true := by
    intro d1 d2 hd hov hb
    obtain ⟨g1, g2, g3⟩ := cyc_at h hd hov
    rw [← hb] at g1 g2 g3
    have hin : inl c (blL c) := fun i hi => by
      obtain ⟨e, he, rfl⟩ := of_blL hi
      exact g2 e he
    have hpos : 1 ≤ (blL c).length := by
      have := blL_of (c := c) (List.getElem_mem (l := best c) (n := 0) (by omega))
      exact List.length_pos_of_mem this
    have hF : (onF c (blL c)).length ≤ 8 := by
      unfold onF
      rw [List.length_map]
      have := rise_len ((blL c).filter (isF c)) 0 (c.2.1.length : Int) ((blL_lt c).filter _) fun i hi => by
        obtain ⟨m1, m2⟩ := List.mem_filter.1 hi
        exact ⟨(hin i m1).1, of_decide_eq_true m2⟩
      omega
    have hS : (onS c (blL c)).length ≤ 20 := by
      have a1 := onS_len c (blL c)
      have a2 := blL_len c
      have a3 := best_len h
      omega
    have hn := onl_nok h hin hF hS
    exact ⟨hin, hpos, hn, g3 _ hin hn fun e he => blL_of he⟩
  rcases best_is ho with ⟨h1, h2⟩ | ⟨h1, h2⟩
  · obtain ⟨a, b, d, e⟩ := key h.dx h1 h2
    refine ⟨a, b, d, ?_⟩
    unfold okN
    have e : ovS (axX (onl c (blL c))) = true := e
    rw [e]; rfl
  · obtain ⟨a, b, d, e⟩ := key h.dy h1 h2
    refine ⟨a, b, d, ?_⟩
    unfold okN
    have e : ovS (axY (onl c (blL c))) = true := e
    rw [e, Bool.not_true, Bool.and_false]
end Go.Proofs.Ytklddmmnggcffaa
/-
  Network: the law NetworkBlames.
  No conditions.
-/
namespace Go.Proofs.Ytklddmmnggcffaa
open Go Go.Abs Go.PE
set_option linter.unusedVariables false
theorem pass_loop {n : Nat} {body : Int → Option (Int ⊕ (Unit ⊕ Bool))} (hb : ∀ k, k < n → body (k : Int) = some (.inl ((k : Int) + 1))) (he : body (n : Int) = some (.inr (.inl ()))) : loopM body 0 = some (.inl ()) := by
  obtain ⟨b, q1, q2⟩ := all_loop (n := n) (fun _ => true) (body := body) hb he
  have : b = true := q2.2 fun _ _ => rfl
  subst this
  exact q1
theorem m28_any {x : Sys} (hs : sys x = true) : ∃ l, m28 x = some (l, if ovS x = true then 90 else 0) := by
  cases ho : ovS x with
  | true => exact ⟨_, m28_bad hs ho⟩
  | false => exact ⟨_, m28_good hs ho⟩
theorem law7_ok (x : NNum × List Int) (h : NN x.1) (hset : ∀ v ∈ x.2, i64 v) : m7 x = some true := by
  obtain ⟨x, set⟩ := x
  have hc := made_ok x
  unfold m7
  refine bind_of sane_ok ?_
  rw [notT, cond_false]
  refine bind_of (m9_eq h) ?_
  dsimp only at hset
  dsimp only
  generalize madeN x = c at *
  obtain ⟨l1, e1⟩ := m28_any (sysX hc)
  obtain ⟨l2, e2⟩ := m28_any (sysY hc)
  refine bind_of (m10_eq hc) (bind_of (m13_X hc) (bind_of e1 (bind_of (m13_Y hc) (bind_of e2 ?_))))
  dsimp only
  have e0 : eqbM (!okN c) (PE.andM (eqM (if ovS (axX c) = true then (90 : Int) else 0) 0) (eqM (if ovS (axY c) = true then (90 : Int) else 0) 0)) = false := by
    unfold okN
    cases ovS (axX c) <;> cases ovS (axY c) <;> rfl
  rw [e0, cond_false]
  cases ho : okN c with
  | true =>
    rw [Bool.not_true, notF, cond_true]
    obtain ⟨o1, o2⟩ := okN_iff.1 ho
    have hb : best c = [] := by
      unfold best
      rw [o1, o2, if_neg (by rintro ⟨h, _⟩; cases h), if_neg (by decide)]
    have := blL_len c
    rw [hb] at this
    have hl : (blL c).length = 0 := Nat.le_zero.1 this
    congr 1
    exact eqI (by show ((blL c).length : Int) = 0; omega)
  | false =>
    rw [Bool.not_false, notT, cond_false]
    have hfl := hc.fl
    have hsl := hc.sl
    obtain ⟨hin, hpos, hn, hbad⟩ := bl_is hc ho hfl
    have hlt := List.pairwise_iff_getElem.1 (blL_lt c)
    have h16 : (blL c).length ≤ 16 := Nat.le_trans (blL_len c) (best_len hc)
    have hfew : ∀ few, inl c few → few.length < (blL c).length → ∃ b, m10 (onl c few) = some (b, false) := fun few => few_ok hc
    have hbl : m10 (onl c (blL c)) = some (blL (onl c (blL c)), true) := by rw [m10_eq hn, hbad]; rfl
    generalize blL (onl c (blL c)) = l' at hbl
    generalize blL c = l at *
    have hN : IntKind.wrap IntKind.i64 (lenM c.2.1 + lenM c.2.2) = (c.2.1.length : Int) + c.2.2.length := by
      show IntKind.wrap IntKind.i64 ((c.2.1.length : Int) + (c.2.2.length : Int)) = _
      exact wrap_in (by omega) (by omega)
    have hLl : lenM l = (l.length : Int) := rfl
    refine bind_of (x := Sum.inl ()) (pass_loop (n := l.length) (fun k hk => ?_) ?_) ?_
    · have hr := hin _ (List.getElem_mem hk)
      have a1 : ltM l[k] 0 = false := geI hr.1
      have a2 : leM (IntKind.wrap IntKind.i64 (lenM c.2.1 + lenM c.2.2)) l[k] = false := by rw [hN]; exact gtI hr.2
      have a0 : ltM (k : Int) (lenM l) = true := ltI (by rw [hLl]; omega)
      have w : IntKind.wrap IntKind.i64 ((k : Int) + 1) = (k : Int) + 1 := wrap_in (by omega) (by omega)
      rw [a0, cond_true, idxM_lt hk, Option.bind_some, a1, notF, cond_true, Option.bind_some, a2, w]
      by_cases hk0 : k = 0
      · have a3 : ltM 0 (k : Int) = false := geI (by omega)
        rw [a3]
        rfl
      · have a3 : ltM 0 (k : Int) = true := ltI (by omega)
        have a4 : max (IntKind.wrap IntKind.i64 ((k : Int) - 1)) 0 = ((k - 1 : Nat) : Int) := by
          rw [wrap_in (by omega) (by omega)]; omega
        have a5 : leM l[k] (l[k - 1]'(by omega)) = false := gtI (hlt (k - 1) k (by omega) hk (by omega))
        rw [a3, a4, idxM_lt (by omega : k - 1 < l.length)]
        simp only [orF, notF, andT, cond_true, cond_false, Option.bind_some, a5]
    · rw [geI (by rw [hLl]; omega), cond_false]
    · dsimp only [Sum.elim_inl]
      refine bind_of (m29_eq hfl hsl hin (by omega)) (bind_of hbl ?_)
      dsimp only
      rw [notT, orF, neI (by rw [hLl]; omega), cond_false]
      have goodL : ∀ few : List Int, inl c few → few.length < l.length → ∃ b, m29 (c, few) = some (onl c few) ∧ m10 (onl c few) = some (b, false) := fun few hi hl => by
        obtain ⟨b, hb⟩ := hfew few hi hl
        exact ⟨b, m29_eq hfl hsl hi (by omega), hb⟩
      refine bind_of (x := Sum.inl ()) (pass_loop (n := l.length) (fun k hk => ?_) ?_) ?_
      · have a0 : ltM (k : Int) (lenM l) = true := ltI (by rw [hLl]; omega)
        have w : IntKind.wrap IntKind.i64 ((k : Int) + 1) = (k : Int) + 1 := wrap_in (by omega) (by omega)
        have s1 : sliceM l 0 (k : Int) = some (l.take k) := by
          rw [sliceM_of (Int.le_refl _) (by omega) (by omega)]
          simp
        have s2 : sliceM l ((k : Int) + 1) (lenM l) = some (l.drop (k + 1)) := by
          rw [hLl, sliceM_of (by omega) (by omega) (by omega)]
          have : ((k : Int) + 1).toNat = k + 1 := by omega
          rw [this]
          simp
        have p1 : appM (nat_lit 8) [] (l.take k) = some (l.take k) := by
          rw [appM_of]
          · rfl
          · rw [List.length_take]
            show (0 + min k l.length) * 8 ≤ 140737488355328
            omega
        have p2 : appM (nat_lit 8) (l.take k) (l.drop (k + 1)) = some (l.take k ++ l.drop (k + 1)) := appM_of (by
          rw [List.length_take, List.length_drop]
          show (min k l.length + (l.length - (k + 1))) * 8 ≤ 140737488355328
          omega)
        rw [a0, cond_true, w]
        refine bind_of s1 (bind_of p1 (bind_of s2 (bind_of p2 ?_)))
        obtain ⟨b, g1, g2⟩ := goodL (l.take k ++ l.drop (k + 1)) (fun i hi => by
          rcases List.mem_append.1 hi with hi | hi
          · exact hin i (List.mem_of_mem_take hi)
          · exact hin i (List.mem_of_mem_drop hi)) (by rw [List.length_append, List.length_take, List.length_drop]; omega)
        exact bind_of g1 (bind_of g2 rfl)
      · rw [geI (by rw [hLl]; omega), cond_false]
      · dsimp only [Sum.elim_inl]
        have hNpos : 0 < (c.2.1.length : Int) + c.2.2.length := by
          have := hin _ (List.getElem_mem (l := l) (n := 0) (by omega))
          omega
        have wl : IntKind.wrap IntKind.i64 (lenM l - 1) = (l.length : Int) - 1 := wrap_in (n := (l.length : Int) - 1) (by omega) (by omega)
        rw [hN, wl]
        have hM : ∃ M : Int, M = (c.2.1.length : Int) + c.2.2.length := ⟨_, rfl⟩
        obtain ⟨M, hM⟩ := hM
        rw [← hM]
        rw [← hM] at hNpos
        refine bind_of (x := (set.take (min set.length (l.length - 1))).map fun v => pk v M) ?_ ?_
        · refine count_loop (fun k => (set.take k).map fun v => pk v M) (min set.length (l.length - 1)) (fun k hk => ?_) ?_
          · have hks : k < set.length := by omega
            have hlk : ((set.take k).map fun v => pk v M).length = k := by rw [List.length_map, List.length_take]; omega
            have a1 : ltM (k : Int) (lenM set) = true := ltI (by show (k : Int) < (set.length : Int); omega)
            have a2 : ltM (lenM ((set.take k).map fun v => pk v M)) ((l.length : Int) - 1) = true := ltI (by show ((((set.take k).map fun v => pk v M).length : Nat) : Int) < _; omega)
            dsimp only
            rw [a1, a2, andT, cond_true, idxM_lt hks, Option.bind_some, m15_eq (hset _ (List.getElem_mem hks)) hNpos, Option.bind_some, wrap_in (by omega) (by omega), List.take_succ_eq_append_getElem hks, List.map_append]
            refine bind_of (appM_of ?_) rfl
            rw [hlk]
            show (k + 1) * 8 ≤ 140737488355328
            omega
          · have hlk : ((set.take (min set.length (l.length - 1))).map fun v => pk v M).length = min set.length (l.length - 1) := by rw [List.length_map, List.length_take]; omega
            dsimp only
            by_cases hms : set.length ≤ l.length - 1
            · have a1 : ltM ((min set.length (l.length - 1) : Nat) : Int) (lenM set) = false := geI (by show (set.length : Int) ≤ _; omega)
              rw [a1]
              rfl
            · have a2 : ltM (lenM ((set.take (min set.length (l.length - 1))).map fun v => pk v M)) ((l.length : Int) - 1) = false := geI (by show (l.length : Int) - 1 ≤ ((((set.take (min set.length (l.length - 1))).map fun v => pk v M).length : Nat) : Int); omega)
              rw [a2]
              cases ltM ((min set.length (l.length - 1) : Nat) : Int) (lenM set) <;> rfl
        · obtain ⟨b, g1, g2⟩ := goodL ((set.take (min set.length (l.length - 1))).map fun v => pk v M) (fun i hi => by
            obtain ⟨v, _, rfl⟩ := List.mem_map.1 hi
            have := pk_lo (c := v) (n := M) (by omega)
            have := pk_hi (c := v) (n := M) (by omega)
            omega) (by rw [List.length_map, List.length_take]; omega)
          exact bind_of g1 (bind_of g2 rfl)
end Go.Proofs.Ytklddmmnggcffaa
/-
  Network: what is known of the integers that determine a network.
  No conditions.
-/
namespace Go.Proofs.Ytklddmmnggcffaa
open Go Go.Abs Go.PE
theorem nn_ok {x : NNum} (h : InR (.pair (.list (.pair tI tI)) (.pair (.list tI) (.pair (.list (.pair tI (.pair tI (.pair tI tI)))) (.pair (.list (.pair tI (.pair tI (.pair tI (.pair tI tI))))) (.pair tI (.pair tI tI)))))) x) : NN x := by
  obtain ⟨⟨_, h1⟩, ⟨_, h2⟩, ⟨_, h3⟩, ⟨_, h4⟩, h5, h6, h7⟩ := h
  refine ⟨fun p hp => ?_, fun v hv => ?_, fun f hf => ?_, fun s hs => ?_, h5, h6, h7⟩
  · obtain ⟨i, hi, rfl⟩ := List.mem_iff_getElem.1 hp
    exact h1 i _ (List.getElem?_eq_getElem hi)
  · obtain ⟨i, hi, rfl⟩ := List.mem_iff_getElem.1 hv
    exact h2 i _ (List.getElem?_eq_getElem hi)
  · obtain ⟨i, hi, rfl⟩ := List.mem_iff_getElem.1 hf
    exact h3 i _ (List.getElem?_eq_getElem hi)
  · obtain ⟨i, hi, rfl⟩ := List.mem_iff_getElem.1 hs
    exact h4 i _ (List.getElem?_eq_getElem hi)
end Go.Proofs.Ytklddmmnggcffaa
