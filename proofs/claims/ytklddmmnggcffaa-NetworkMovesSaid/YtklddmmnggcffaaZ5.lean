/-
  Texts of this proof, put together: M2, M3, PA, PB, PC, PD, Ba, Bb, Bc, Bd, Be, Bf, Bg, Bh, Bi, Bj, Bk, Bl, Bm, Bn, Bo, Bp, Bq, Br, Bt, Bu, Bv, Bw, Bx, By, Bz, BA, BB, BC, BD, BE, F, Bs, Ca.
  No conditions.
-/
import Derived.Test.YtklddmmnggcffaaZ4
import Derived.Test.YtklddmmnggcffaaZ3
import Derived.IntWalk
set_option linter.all false
/-
  Models of the functions of this seat, and that the functions compute them (printed by gen_models.py). No conditions.
-/
namespace Go.Proofs.Ytklddmmnggcffaa
open Go Go.Abs Go.PE Go.Proofs
set_option linter.unusedVariables false
set_option maxRecDepth 100000

/-! putlog/putlogref10.Made -/
def as9 : List Ty := [(.pair (.list (.pair tI tI)) (.pair (.list tI) (.pair (.list (.pair tI (.pair tI (.pair tI tI)))) (.pair (.list (.pair tI (.pair tI (.pair tI (.pair tI tI))))) (.pair tI (.pair tI tI))))))]
def rs9 : List Ty := [(.pair tI (.pair (.list (.pair tI (.pair tI (.pair tI tI)))) (.list (.pair tI (.pair tI (.pair tI (.pair tI tI)))))))]
noncomputable def an9 : Ann := .seq (.a) (.seq (.a) (.seq (.a) (.seq (.seq (.a) (.block (.loop ⟨[(5,.r (.c (.d (.d tI))))],[6,17,18,19,20,21,22,23,24,25,26,27,28,29,30,31,32,33,34,35,36,37,38,39,40,41,42,43,44,45,46,47,48,49,50,51,52,53,54,55,56,57,58,59,60,61,62,63,64,65,66,67,68,69,70,71,72,73,74,75,76,77,78,79,80,81,82,83,84,85,86,87,88,89,90,91,92,93,94,95,96,97,98,99],[(2,.box [.d (.d tI),.h 3,.l .nilS])],[.arr (.pair tI (.pair tI (.pair tI tI)))]⟩ [(.exit 0,⟨[],[5,6,17,18,19,20,21,22,23,24,25,26,27,28,29,30,31,32,33,34,35,36,37,38,39,40,41,42,43,44,45,46,47,48,49,50,51,52,53,54,55,56,57,58,59,60,61,62,63,64,65,66,67,68,69,70,71,72,73,74,75,76,77,78,79,80,81,82,83,84,85,86,87,88,89,90,91,92,93,94,95,96,97,98,99],[(2,.box [.d (.d tI),.h 3,.l .nilS])],[.arr (.pair tI (.pair tI (.pair tI tI)))]⟩)] (.seq (.a) (.seq (.block (.seq (.reg [0,1,0,7,15,31,0,64,255,0,512,0,3584,7680,15872,32767,65535,0,262143] [0,1,2,3,4,5,6,7,8,9,10,11,12,13,14,15,16,17,18] [.s [] [],.s [0] [],.s [] [],.s [] [],.s [] [],.s [] [],.s [] [],.s [] [],.s [] [],.s [] [],.s [0] [],.s [] [],.s [] [],.s [] [],.s [] [],.s [] [],.s [] [],.s [] [4],.s [4] [4]] (.a)) (.seq (.reg [0,0,2,7,15,31,0,64,0,448,960,1984,0,4096,12288,28672,65472,131071,0,262144,1048575,2097151,4194303] [0,1,2,3,4,5,6,7,8,9,10,11,12,13,14,15,16,17,18,19,20,21,22] [.s [] [],.s [] [],.s [4] [],.s [] [],.s [] [],.s [] [],.s [] [],.s [0] [],.s [] [],.s [] [],.s [] [],.s [] [],.s [] [],.s [4] [],.s [] [],.s [] [],.s [] [],.s [] [],.s [] [],.s [4] [],.s [] [],.s [] [],.s [4] [4]] (.a)) (.seq (.reg [0,0,2,7,15,31,0,64,0,448,960,1984,0,4096,12288,28672,65472,131071,0,262144,1048575,2097151,4194303] [0,1,2,3,4,5,6,7,8,9,10,11,12,13,14,15,16,17,18,19,20,21,22] [.s [] [],.s [] [],.s [4] [],.s [] [],.s [] [],.s [] [],.s [] [],.s [0] [],.s [] [],.s [] [],.s [] [],.s [] [],.s [] [],.s [4] [],.s [] [],.s [] [],.s [] [],.s [] [],.s [] [],.s [4] [],.s [] [],.s [] [],.s [4] [4]] (.a)) (.a))))) (.a)))))) (.seq (.seq (.a) (.block (.loop ⟨[(7,.r (.c (.d (.d tI))))],[8,100,101,102,103,104,105,106,107,108,109,110,111,112,113,114,115,116,117,118,119,120,121,122,123,124,125,126,127,128,129,130,131,132,133,134,135,136,137,138,139,140,141,142,143,144,145,146,147,148,149,150,151,152,153,154,155,156,157,158,159,160,161],[(2,.box [.d (.d tI),.h 3,.h 4])],[.arr (.pair tI (.pair tI (.pair tI (.pair tI tI))))]⟩ [(.exit 2,⟨[],[7,8,100,101,102,103,104,105,106,107,108,109,110,111,112,113,114,115,116,117,118,119,120,121,122,123,124,125,126,127,128,129,130,131,132,133,134,135,136,137,138,139,140,141,142,143,144,145,146,147,148,149,150,151,152,153,154,155,156,157,158,159,160,161],[(2,.box [.d (.d tI),.h 3,.h 4])],[.arr (.pair tI (.pair tI (.pair tI (.pair tI tI))))]⟩)] (.seq (.a) (.seq (.block (.seq (.a) (.reg [0,1,0,0,8,0,0,64,224,480,992,0,0,6144,14336,30720,65504,0,0,262144,917504,1966080,4063232,0,0,25165824,58720256,125829120,268304384,0,536870912,0,3758096384,8053063680,16642998272,33822867456,68719476732,137438953468,274877906943,549755813887,1099511627775] [0,1,2,3,4,5,6,7,8,9,10,11,12,13,14,15,16,17,18,19,20,21,22,23,24,25,26,27,28,29,30,31,32,33,34,35,36,37,38,39,40] [.s [] [],.s [2] [],.s [] [],.s [] [],.s [] [],.s [] [],.s [] [],.s [] [],.s [] [],.s [] [],.s [] [],.s [] [],.s [] [],.s [] [],.s [] [],.s [] [],.s [] [],.s [] [],.s [] [],.s [] [],.s [] [],.s [] [],.s [] [],.s [] [],.s [] [],.s [] [],.s [] [],.s [] [],.s [] [],.s [] [],.s [0] [],.s [] [],.s [] [],.s [] [],.s [] [],.s [] [],.s [] [],.s [] [],.s [4] [5,4],.s [] [],.s [2,5] [2]] (.a)))) (.a)))))) (.seq (.seq (.a) (.block (.loop ⟨[(9,.r (.c (.d (.d tI))))],[162,163,164,165,166,167,168,169,170,171,172,173,174,175,176,177,178,179,180,181,182,183,184,185,186,187,188,189],[(2,.box [.d (.d tI),.h 3,.h 5]),(4,.gone)],[.arr (.pair tI (.pair tI (.pair tI (.pair tI tI))))]⟩ [(.exit 4,⟨[],[9,162,163,164,165,166,167,168,169,170,171,172,173,174,175,176,177,178,179,180,181,182,183,184,185,186,187,188,189],[(2,.box [.d (.d tI),.h 3,.h 5]),(4,.gone)],[.arr (.pair tI (.pair tI (.pair tI (.pair tI tI))))]⟩)] (.seq (.a) (.seq (.block (.reg [0,1,0,0,8,0,56,120,252,508,1023,2047,4095] [0,1,2,3,4,5,6,7,8,9,10,11,12] [.s [] [],.s [2] [],.s [] [],.s [] [],.s [0] [],.s [] [],.s [] [],.s [] [],.s [] [],.s [] [],.s [5] [6,5],.s [] [],.s [2,6] [2]] (.a))) (.a)))))) (.seq (.join [(.norm,⟨[],[10,11,190,191,192,193,194,195,196,197,198,199,200,201,202,203,204,205,206,207,208,209,210,211,212,213,214,215,216,217,218,219,220,221,222,223,224,225,226,227,228,229,230,231,232,233,234,235,236,237,238,239,240,241],[(5,.arr (.pair tI (.pair tI (.pair tI (.pair tI tI)))))],[]⟩)] (.seq (.a) (.cond (.seq (.a) (.seq (.a) (.seq (.a) (.cond (.reg [0,1,0,0,8,0,56,120,248,0,1016,2047,4095,8191] [0,1,2,3,4,5,6,7,8,9,10,11,12,13] [.s [] [],.s [2] [],.s [] [],.s [] [],.s [2] [],.s [] [],.s [5] [],.s [] [],.s [5] [],.s [] [],.s [] [],.s [5] [],.s [] [],.s [5] [5]] (.a)) (.reg [0,1,0,0,8,0,56,120,248,0,1016,2047,4095,8191] [0,1,2,3,4,5,6,7,8,9,10,11,12,13] [.s [] [],.s [2] [],.s [] [],.s [] [],.s [2] [],.s [] [],.s [5] [],.s [] [],.s [5] [],.s [] [],.s [] [],.s [5] [],.s [] [],.s [5] [5]] (.a)))))) (.a)))) (.a)))))))
noncomputable def m9 : ((List (Int × Int)) × List Int × (List (Int × Int × Int × Int)) × (List (Int × Int × Int × Int × Int)) × Int × Int × Int) → Option (Int × (List (Int × Int × Int × Int)) × List (Int × Int × Int × Int × Int)) :=
  fun (x : List (Int × Int) × List Int × List (Int × Int × Int × Int) × List (Int × Int × Int × Int × Int) × Int × Int × Int) => Option.bind (m20 (x.1, x.2.1,
  x.2.2.1, x.2.2.2.1, x.2.2.2.2.1, x.2.2.2.2.2.1, x.2.2.2.2.2.2)) fun (r : List (Int × Int)) => Option.bind (loopM (fun (s : Int × Int × List (Int × Int × Int ×
  Int)) => bif PE.andM (PE.andM (ltM s.1 (lenM x.2.2.1)) (ltM s.1 (6 : Int))) (ltM (0 : Int) (lenM r)) then Option.bind (idxM x.2.2.1 s.1) fun (r_1 : Int × Int
  × Int × Int) => Option.bind (m30 (r_1.1, lenM r)) fun (r_2 : Int) => Option.bind (idxM x.2.2.1 s.1) fun (r_3 : Int × Int × Int × Int) => Option.bind (m30
  (r_3.2.1, (12 : Int))) fun (r_4 : Int) => Option.bind (idxM r r_2) fun (r_5 : Int × Int) => Option.bind (idxM x.2.2.1 s.1) fun (r_6 : Int × Int × Int × Int)
  => Option.bind (m30 (r_6.2.2.1, IntKind.wrap IntKind.i64 (IntKind.wrap IntKind.i64 ((2 : Int) * r_4) + (1 : Int)))) fun (r_7 : Int) => Option.bind (idxM r
  r_2) fun (r_8 : Int × Int) => Option.bind (idxM x.2.2.1 s.1) fun (r_9 : Int × Int × Int × Int) => Option.bind (m30 (r_9.2.2.2, IntKind.wrap IntKind.i64
  (IntKind.wrap IntKind.i64 ((2 : Int) * r_4) + (1 : Int)))) fun (r_10 : Int) => Option.bind (appM (nat_lit 32) s.2.2 [(r_2, IntKind.wrap IntKind.i64
  (IntKind.wrap IntKind.i64 (r_5.1 + r_7) - r_4), IntKind.wrap IntKind.i64 (IntKind.wrap IntKind.i64 (r_8.2 + r_10) - r_4), r_4)]) fun (r : List (Int × Int ×
  Int × Int)) => some (Sum.inl (IntKind.wrap IntKind.i64 (s.1 + (1 : Int)), s.2.1, r)) else some (Sum.inr (s.2.1, s.2.2))) ((0 : Int), lenM r, [])) fun (o : Int
  × List (Int × Int × Int × Int)) => Option.bind (loopM (fun (s : Int × Int × List (Int × Int × Int × Int × Int)) => bif PE.andM (ltM s.1 (lenM x.2.1)) (ltM
  (IntKind.wrap IntKind.i64 (s.1 + (1 : Int))) (lenM r)) then Option.bind (idxM x.2.1 s.1) fun (r_1 : Int) => Option.bind (m30 (r_1, IntKind.wrap IntKind.i64
  (s.1 + (1 : Int)))) fun (r_2 : Int) => Option.bind (idxM r (IntKind.wrap IntKind.i64 (s.1 + (1 : Int)))) fun (r_3 : Int × Int) => Option.bind (idxM r r_2) fun
  (r_4 : Int × Int) => Option.bind (idxM r (IntKind.wrap IntKind.i64 (s.1 + (1 : Int)))) fun (r_5 : Int × Int) => Option.bind (idxM r r_2) fun (r_6 : Int × Int)
  => Option.bind (idxM x.2.1 s.1) fun (r_7 : Int) => Option.bind (divM IntKind.i64 r_7 (8 : Int)) fun (r_8 : Int) => Option.bind (m30 (r_8, (10 : Int))) fun
  (r_9 : Int) => Option.bind (appM (nat_lit 40) s.2.2 [(r_2, IntKind.wrap IntKind.i64 (s.1 + (1 : Int)), IntKind.wrap IntKind.i64 (r_3.1 - r_4.1), IntKind.wrap
  IntKind.i64 (r_5.2 - r_6.2), r_9)]) fun (r : List (Int × Int × Int × Int × Int)) => some (Sum.inl (IntKind.wrap IntKind.i64 (s.1 + (1 : Int)), s.2.1, r)) else
  some (Sum.inr (s.2.1, s.2.2))) ((0 : Int), o.1, [])) fun (o_1 : Int × List (Int × Int × Int × Int × Int)) => Option.bind (loopM (fun (s : Int × Int × List
  (Int × Int × Int × Int × Int)) => bif PE.andM (PE.andM (ltM s.1 (lenM x.2.2.2.1)) (ltM s.1 (10 : Int))) (ltM (1 : Int) (lenM r)) then Option.bind (idxM
  x.2.2.2.1 s.1) fun (r_1 : Int × Int × Int × Int × Int) => Option.bind (m21 (r, r_1.1, r_1.2.1, r_1.2.2.1, r_1.2.2.2.1, r_1.2.2.2.2)) fun (r_2 : Int × Int ×
  Int × Int × Int) => Option.bind (appM (nat_lit 40) s.2.2 [(r_2.1, r_2.2.1, r_2.2.2.1, r_2.2.2.2.1, r_2.2.2.2.2)]) fun (r : List (Int × Int × Int × Int × Int))
  => some (Sum.inl (IntKind.wrap IntKind.i64 (s.1 + (1 : Int)), s.2.1, r)) else some (Sum.inr (s.2.1, s.2.2))) ((0 : Int), o_1.1, o_1.2)) fun (o_2 : Int × List
  (Int × Int × Int × Int × Int)) => Option.bind (Option.bind (m31 (x.1, x.2.1, x.2.2.1, x.2.2.2.1, x.2.2.2.2.1, x.2.2.2.2.2.1, x.2.2.2.2.2.2)) fun (r_1 : Bool)
  => bif PE.andM r_1 (ltM (0 : Int) (lenM o_2.2)) then Option.bind (m30 (x.2.2.2.2.2.1, lenM o_2.2)) fun (r_2 : Int) => Option.bind (divM IntKind.i64
  x.2.2.2.2.2.2 (2 : Int)) fun (r_3 : Int) => Option.bind (m30 (r_3, (60 : Int))) fun (r_4 : Int) => Option.bind (m30 (x.2.2.2.2.2.2, (2 : Int))) fun (r_5 :
  Int) => bif eqM r_5 (0 : Int) then Option.bind (chkM r_2 (lenM o_2.2)) fun (r_6 : Unit) => Option.bind (Option.bind (idxM o_2.2 r_2) fun (x : Int × Int × Int
  × Int × Int) => some x.2.2.1) fun (r_7 : Int) => Option.bind (chkM r_2 (lenM o_2.2)) fun (r_8 : Unit) => Option.bind (setM o_2.2 r_2 fun (x : Int × Int × Int
  × Int × Int) => some (x.1, x.2.1, IntKind.wrap IntKind.i64 (r_7 + IntKind.wrap IntKind.i64 (r_4 + (1 : Int))), x.2.2.2)) fun (r : List (Int × Int × Int × Int
  × Int)) => some r else Option.bind (chkM r_2 (lenM o_2.2)) fun (r_6 : Unit) => Option.bind (Option.bind (idxM o_2.2 r_2) fun (x : Int × Int × Int × Int × Int)
  => some x.2.2.2.1) fun (r_7 : Int) => Option.bind (chkM r_2 (lenM o_2.2)) fun (r_8 : Unit) => Option.bind (setM o_2.2 r_2 fun (x : Int × Int × Int × Int ×
  Int) => some (x.1, x.2.1, x.2.2.1, IntKind.wrap IntKind.i64 (r_7 - IntKind.wrap IntKind.i64 (r_4 + (1 : Int))), x.2.2.2.2)) fun (r : List (Int × Int × Int ×
  Int × Int)) => some r else some o_2.2) fun (o_3 : List (Int × Int × Int × Int × Int)) => some (o_2.1, o.2, o_3)
theorem c9 : SpecOK Try.prog 9 ⟨as9, rs9, m9⟩ :=
  fnM_ok (own := []) (an := an9) (n := 400) tabs31OK (F := OPS) OPS_sound OPS_nice (f := 9) (fn := Try.f9) (code := Try.f9.body.getD .skip) (by kernel_rfl) (by kernel_rfl) (by kernel_rfl) fun x => by kernel_rfl
noncomputable def tabs9 : Tabs := Tabs.add tabs31 9 ⟨as9, rs9, m9⟩
theorem tabs9OK : TabOK Try.prog tabs9 := TabOK.add tabs31OK c9 Try.call9

/-! putlog/putlogref10.Tied -/
def as11 : List Ty := [(.pair tI (.pair (.list (.pair tI (.pair tI (.pair tI tI)))) (.list (.pair tI (.pair tI (.pair tI (.pair tI tI)))))))]
def rs11 : List Ty := [(.list .bool)]
noncomputable def an11 : Ann := .seq (.a) (.seq (.a) (.seq (.seq (.a) (.block (.loop ⟨[(4,.r (.c (.d (.d tI))))],[10,11,12,13,14,15,16,17,18,19,20,21,22,23,24],[(1,.arr .bool)],[]⟩ [(.exit 0,⟨[],[4,10,11,12,13,14,15,16,17,18,19,20,21,22,23,24],[(1,.arr .bool)],[]⟩)] (.a)))) (.seq (.seq (.a) (.block (.loop ⟨[(5,.r (.c (.d (.d tI))))],[6,25,26,27,28,29,30,31,32,33,34,35,36,37,38,39,40,41,42,43,44,45,46,47,48,49,50,51,52,53,54,55,56,57,58,59,60,61,62,63,64,65,66,67,68,69,70,71,72,73],[(1,.arr .bool)],[]⟩ [(.exit 2,⟨[],[5,6,25,26,27,28,29,30,31,32,33,34,35,36,37,38,39,40,41,42,43,44,45,46,47,48,49,50,51,52,53,54,55,56,57,58,59,60,61,62,63,64,65,66,67,68,69,70,71,72,73],[(1,.arr .bool)],[]⟩)] (.seq (.a) (.seq (.block (.seq (.a) (.block (.loop ⟨[(6,.r (.c (.d (.d tI))))],[31,32,33,34,35,36,37,38,39,40,41,42,43,44,45,46,47,48,49,50,51,52,53,54,55,56,57,58,59,60,61,62,63,64,65,66,67,68,69,70,71,72,73],[(1,.arr .bool)],[]⟩ [(.exit 4,⟨[],[6,31,32,33,34,35,36,37,38,39,40,41,42,43,44,45,46,47,48,49,50,51,52,53,54,55,56,57,58,59,60,61,62,63,64,65,66,67,68,69,70,71,72,73],[(1,.arr .bool)],[]⟩)] (.seq (.a) (.seq (.join [(.norm,⟨[],[38,39,40,41,42,43,44,45,46,47,48,49,50,51,52,53,54,55,56,57,58,59,60,61,62,63,64,65,66,67,68,69,70,71,72,73],[(1,.arr .bool)],[]⟩)] (.a)) (.a))))))) (.a)))))) (.a))))
noncomputable def m11 : (Int × (List (Int × Int × Int × Int)) × List (Int × Int × Int × Int × Int)) → Option (List Bool) :=
  fun (x : Int × List (Int × Int × Int × Int) × List (Int × Int × Int × Int × Int)) => Option.bind (mkM x.1 x.1 (nat_lit 1) false) fun (r : List Bool) =>
  Option.bind (loopM (fun (s : Int × List Bool) => bif ltM s.1 (lenM x.2.1) then Option.bind (idxM x.2.1 s.1) fun (r_1 : Int × Int × Int × Int) => Option.bind
  (chkM r_1.1 (lenM s.2)) fun (r_2 : Unit) => Option.bind (setM s.2 r_1.1 fun (x : Bool) => some true) fun (r : List Bool) => some (Sum.inl (IntKind.wrap
  IntKind.i64 (s.1 + (1 : Int)), r)) else some (Sum.inr s.2)) ((0 : Int), r)) fun (o : List Bool) => Option.bind (loopM (fun (s : Int × List Bool) => bif ltM
  s.1 x.1 then Option.bind (loopM (fun (s_1 : Int × List Bool) => bif ltM s_1.1 (lenM x.2.2) then Option.bind (Option.bind (idxM x.2.2 s_1.1) fun (r_1 : Int ×
  Int × Int × Int × Int) => Option.bind (chkM r_1.1 (lenM s_1.2)) fun (r_2 : Unit) => Option.bind (idxM s_1.2 r_1.1) fun (r_3 : Bool) => Option.bind (bif
  PE.notM r_3 then idxM x.2.2 s_1.1 else some ((0 : Int), (0 : Int), (0 : Int), (0 : Int), (0 : Int))) fun (r_4 : Int × Int × Int × Int × Int) => Option.bind
  (bif PE.notM r_3 then chkM r_4.2.1 (lenM s_1.2) else some ()) fun (r_5 : Unit) => Option.bind (bif PE.notM r_3 then idxM s_1.2 r_4.2.1 else some false) fun
  (r_6 : Bool) => bif PE.orM r_3 r_6 then Option.bind (idxM x.2.2 s_1.1) fun (r_7 : Int × Int × Int × Int × Int) => Option.bind (chkM r_7.1 (lenM s_1.2)) fun
  (r_8 : Unit) => Option.bind (setM s_1.2 r_7.1 fun (x : Bool) => some true) fun (r_9 : List Bool) => Option.bind (idxM x.2.2 s_1.1) fun (r_10 : Int × Int × Int
  × Int × Int) => Option.bind (chkM r_10.2.1 (lenM r_9)) fun (r_11 : Unit) => Option.bind (setM r_9 r_10.2.1 fun (x : Bool) => some true) fun (r : List Bool) =>
  some r else some s_1.2) fun (o : List Bool) => some (Sum.inl (IntKind.wrap IntKind.i64 (s_1.1 + (1 : Int)), o)) else some (Sum.inr s_1.2)) ((0 : Int), s.2))
  fun (o : List Bool) => some (Sum.inl (IntKind.wrap IntKind.i64 (s.1 + (1 : Int)), o)) else some (Sum.inr s.2)) ((0 : Int), o)) fun (o : List Bool) => some o
theorem c11 : SpecOK Try.prog 11 ⟨as11, rs11, m11⟩ :=
  fnM_ok (own := []) (an := an11) (n := 400) tabs9OK (F := OPS) OPS_sound OPS_nice (f := 11) (fn := Try.f11) (code := Try.f11.body.getD .skip) (by kernel_rfl) (by kernel_rfl) (by kernel_rfl) fun x => by kernel_rfl
noncomputable def tabs11 : Tabs := Tabs.add tabs9 11 ⟨as11, rs11, m11⟩
theorem tabs11OK : TabOK Try.prog tabs11 := TabOK.add tabs9OK c11 Try.call11

/-! putlog/putlogref10.Bounds -/
def as13 : List Ty := [(.pair tI (.pair (.list (.pair tI (.pair tI (.pair tI tI)))) (.list (.pair tI (.pair tI (.pair tI (.pair tI tI))))))), tI]
def rs13 : List Ty := [(.pair tI (.list (.pair tI (.pair tI tI))))]
noncomputable def an13 : Ann := .seq (.a) (.seq (.a) (.seq (.seq (.a) (.block (.loop ⟨[(6,.r (.c (.d (.d tI))))],[7,8,16,17,18,19,20,21,22,23,24,25,26,27,28,29,30,31,32,33,34,35,36,37,38,39,40,41,42,43,44,45,46,47,48,49,50,51,52,53,54,55,56,57,58],[(2,.box [.d (.d tI),.h 3])],[.arr (.pair tI (.pair tI tI))]⟩ [(.exit 0,⟨[],[6,7,8,16,17,18,19,20,21,22,23,24,25,26,27,28,29,30,31,32,33,34,35,36,37,38,39,40,41,42,43,44,45,46,47,48,49,50,51,52,53,54,55,56,57,58],[(2,.box [.d (.d tI),.h 3])],[.arr (.pair tI (.pair tI tI))]⟩)] (.a)))) (.seq (.seq (.a) (.block (.loop ⟨[(9,.r (.c (.d (.d tI))))],[10,11,59,60,61,62,63,64,65,66,67,68,69,70,71,72,73,74,75,76,77,78,79,80,81,82,83,84,85,86,87,88,89,90,91,92,93,94,95,96,97,98,99,100,101],[(2,.box [.d (.d tI),.h 4]),(3,.gone)],[.arr (.pair tI (.pair tI tI))]⟩ [(.exit 2,⟨[],[9,10,11,59,60,61,62,63,64,65,66,67,68,69,70,71,72,73,74,75,76,77,78,79,80,81,82,83,84,85,86,87,88,89,90,91,92,93,94,95,96,97,98,99,100,101],[(2,.box [.d (.d tI),.h 4]),(3,.gone)],[.arr (.pair tI (.pair tI tI))]⟩)] (.a)))) (.a))))
noncomputable def m13 : ((Int × (List (Int × Int × Int × Int)) × List (Int × Int × Int × Int × Int)) × Int) → Option (Int × List (Int × Int × Int)) :=
  fun (x : (Int × List (Int × Int × Int × Int) × List (Int × Int × Int × Int × Int)) × Int) => Option.bind (loopM (fun (s : Int × Int × List (Int × Int × Int)) =>
  bif ltM s.1 (lenM x.1.2.1) then Option.bind (idxM x.1.2.1 s.1) fun (r : Int × Int × Int × Int) => Option.bind (idxM [r.2.1, r.2.2.1] x.2) fun (r_1 : Int) =>
  Option.bind (appM (nat_lit 24) s.2.2 [(x.1.1, r.1, IntKind.wrap IntKind.i64 (r_1 + r.2.2.2)), (r.1, x.1.1, IntKind.wrap IntKind.i64 (r.2.2.2 - r_1))]) fun (r
  : List (Int × Int × Int)) => some (Sum.inl (IntKind.wrap IntKind.i64 (s.1 + (1 : Int)), s.2.1, r)) else some (Sum.inr (s.2.1, s.2.2))) ((0 : Int),
  IntKind.wrap IntKind.i64 (x.1.1 + (1 : Int)), [])) fun (o : Int × List (Int × Int × Int)) => Option.bind (loopM (fun (s : Int × Int × List (Int × Int × Int))
  => bif ltM s.1 (lenM x.1.2.2) then Option.bind (idxM x.1.2.2 s.1) fun (r : Int × Int × Int × Int × Int) => Option.bind (idxM [r.2.2.1, r.2.2.2.1] x.2) fun
  (r_1 : Int) => Option.bind (appM (nat_lit 24) s.2.2 [(r.1, r.2.1, IntKind.wrap IntKind.i64 (r_1 + r.2.2.2.2)), (r.2.1, r.1, IntKind.wrap IntKind.i64
  (r.2.2.2.2 - r_1))]) fun (r : List (Int × Int × Int)) => some (Sum.inl (IntKind.wrap IntKind.i64 (s.1 + (1 : Int)), s.2.1, r)) else some (Sum.inr (s.2.1,
  s.2.2))) ((0 : Int), o.1, o.2)) fun (o : Int × List (Int × Int × Int)) => some (o.1, o.2)
theorem c13 : SpecOK Try.prog 13 ⟨as13, rs13, m13⟩ :=
  fnM_ok (own := []) (an := an13) (n := 400) tabs11OK (F := OPS) OPS_sound OPS_nice (f := 13) (fn := Try.f13) (code := Try.f13.body.getD .skip) (by kernel_rfl) (by kernel_rfl) (by kernel_rfl) fun x => by kernel_rfl
noncomputable def tabs13 : Tabs := Tabs.add tabs11 13 ⟨as13, rs13, m13⟩
theorem tabs13OK : TabOK Try.prog tabs13 := TabOK.add tabs11OK c13 Try.call13

/-! putlog/putloglaw10.pick -/
def as15 : List Ty := [tI, tI]
def rs15 : List Ty := [tI]
noncomputable def an15 : Ann := .seq (.a) (.seq (.join [(.norm,⟨[(0,.r (.c (.d (.d tI))))],[5,6,7,8,9],[],[]⟩)] (.a)) (.a))
noncomputable def m15 : (Int × Int) → Option (Int) :=
  fun (x : Int × Int) => Option.bind (bif ltM x.1 (0 : Int) then some (IntKind.wrap IntKind.i64 (negM (IntKind.wrap IntKind.i64 (x.1 + (1 : Int))))) else some
  x.1) fun (o : Int) => Option.bind (remM o x.2) fun (r : Int) => some r
theorem c15 : SpecOK Try.prog 15 ⟨as15, rs15, m15⟩ :=
  fnM_ok (own := []) (an := an15) (n := 400) tabs13OK (F := OPS) OPS_sound OPS_nice (f := 15) (fn := Try.f15) (code := Try.f15.body.getD .skip) (by kernel_rfl) (by kernel_rfl) (by kernel_rfl) fun x => by kernel_rfl
noncomputable def tabs15 : Tabs := Tabs.add tabs13 15 ⟨as15, rs15, m15⟩
theorem tabs15OK : TabOK Try.prog tabs15 := TabOK.add tabs13OK c15 Try.call15

/-! putlog/putloglaw10.all -/
def as16 : List Ty := [(.pair tI (.pair (.list (.pair tI (.pair tI (.pair tI tI)))) (.list (.pair tI (.pair tI (.pair tI (.pair tI tI)))))))]
def rs16 : List Ty := [.bool]
noncomputable def an16 : Ann := .seq (.a) (.seq (.a) (.seq (.seq (.a) (.block (.loop ⟨[(4,.r (.c (.d (.d tI))))],[7,8,9,10,11,12,13,14,15,16,17],[],[]⟩ [(.exit 0,⟨[],[4,7,8,9,10,11,12,13,14,15,16,17],[],[]⟩),(.ret,⟨[(2,.r (.c (.d (.d .bool))))],[4,7,8,9,10,11,12,13,14,15,16,17],[],[]⟩)] (.a)))) (.a)))
noncomputable def m16 : (Int × (List (Int × Int × Int × Int)) × List (Int × Int × Int × Int × Int)) → Option (Bool) :=
  fun (x : Int × List (Int × Int × Int × Int) × List (Int × Int × Int × Int × Int)) => Option.bind (m11 (x.1, x.2.1, x.2.2)) fun (r : List Bool) => Option.bind
  (loopM (fun (s : Int) => bif ltM s (lenM r) then Option.bind (idxM r s) fun (r : Bool) => bif PE.notM r then some (Sum.inr (Sum.inr false)) else some (Sum.inl
  (IntKind.wrap IntKind.i64 (s + (1 : Int)))) else some (Sum.inr (Sum.inl ()))) (0 : Int)) fun (o : Unit ⊕ Bool) => Sum.elim (fun (t : Unit) => some true) (fun
  (t : Bool) => some t) o
theorem c16 : SpecOK Try.prog 16 ⟨as16, rs16, m16⟩ :=
  fnM_ok (own := []) (an := an16) (n := 400) tabs15OK (F := OPS) OPS_sound OPS_nice (f := 16) (fn := Try.f16) (code := Try.f16.body.getD .skip) (by kernel_rfl) (by kernel_rfl) (by kernel_rfl) fun x => by kernel_rfl
noncomputable def tabs16 : Tabs := Tabs.add tabs15 16 ⟨as16, rs16, m16⟩
theorem tabs16OK : TabOK Try.prog tabs16 := TabOK.add tabs15OK c16 Try.call16

/-! putlog/putloglaw10.in -/
def as19 : List Ty := [(.pair tI (.pair tI (.pair tI tI))), tI, tI]
def rs19 : List Ty := [.bool]
noncomputable def an19 : Ann := .a
noncomputable def m19 : ((Int × Int × Int × Int) × Int × Int) → Option (Bool) :=
  fun (x : (Int × Int × Int × Int) × Int × Int) => some (PE.andM (PE.andM (PE.andM (leM x.1.1 x.2.1) (leM x.2.1 x.1.2.1)) (leM x.1.2.2.1 x.2.2)) (leM x.2.2
  x.1.2.2.2))
theorem c19 : SpecOK Try.prog 19 ⟨as19, rs19, m19⟩ :=
  fnM_ok (own := []) (an := an19) (n := 400) tabs16OK (F := OPS) OPS_sound OPS_nice (f := 19) (fn := Try.f19) (code := Try.f19.body.getD .skip) (by kernel_rfl) (by kernel_rfl) (by kernel_rfl) fun x => by kernel_rfl
noncomputable def tabs19 : Tabs := Tabs.add tabs16 19 ⟨as19, rs19, m19⟩
theorem tabs19OK : TabOK Try.prog tabs19 := TabOK.add tabs16OK c19 Try.call19

/-! putlog/putloglaw10.NetworkExact -/
def as3 : List Ty := [(.pair (.list (.pair tI tI)) (.pair (.list tI) (.pair (.list (.pair tI (.pair tI (.pair tI tI)))) (.pair (.list (.pair tI (.pair tI (.pair tI (.pair tI tI))))) (.pair tI (.pair tI tI)))))), tI, tI, tI, tI]
def rs3 : List Ty := [.bool]
noncomputable def an3 : Ann := .seq (.a) (.seq (.a) (.seq (.a) (.seq (.a) (.seq (.a) (.seq (.a) (.seq (.a) (.seq (.a) (.seq (.a) (.seq (.a) (.seq (.seq (.a) (.block (.loop ⟨[(20,.r (.c (.h 2))),(21,.r (.c (.d (.d tI))))],[22,23,62,63,64,65,66,67,68,69,70,71,72,73,74,75,76,77,78,79,80,81,82,83,84,85,86,87,88,89,90,91,92,93,94,95,96,97,98,99,100,101,102,103,104,105,106,107,108,109,110,111,112,113,114,115,116,117,118,119,120,121,122,123,124,125,126,127,128,129,130,131,132,133,134,135,136,137,138,139,140,141,142,143,144,145,146,147,148,149,150,151,152,153,154,155,156,157,158,159,160,161,162,163,164,165,166,167,168,169,170,171,172,173,174,175,176,177,178,179,180,181,182,183,184,185],[],[.arr (.pair tI tI)]⟩ [(.exit 0,⟨[(20,.r (.c (.h 2)))],[21,22,23,62,63,64,65,66,67,68,69,70,71,72,73,74,75,76,77,78,79,80,81,82,83,84,85,86,87,88,89,90,91,92,93,94,95,96,97,98,99,100,101,102,103,104,105,106,107,108,109,110,111,112,113,114,115,116,117,118,119,120,121,122,123,124,125,126,127,128,129,130,131,132,133,134,135,136,137,138,139,140,141,142,143,144,145,146,147,148,149,150,151,152,153,154,155,156,157,158,159,160,161,162,163,164,165,166,167,168,169,170,171,172,173,174,175,176,177,178,179,180,181,182,183,184,185],[],[.arr (.pair tI tI)]⟩),(.ret,⟨[(10,.r (.c (.d (.d .bool))))],[20,21,22,23,62,63,64,65,66,67,68,69,70,71,72,73,74,75,76,77,78,79,80,81,82,83,84,85,86,87,88,89,90,91,92,93,94,95,96,97,98,99,100,101,102,103,104,105,106,107,108,109,110,111,112,113,114,115,116,117,118,119,120,121,122,123,124,125,126,127,128,129,130,131,132,133,134,135,136,137,138,139,140,141,142,143,144,145,146,147,148,149,150,151,152,153,154,155,156,157,158,159,160,161,162,163,164,165,166,167,168,169,170,171,172,173,174,175,176,177,178,179,180,181,182,183,184,185],[],[]⟩)] (.seq (.a) (.seq (.block (.seq (.a) (.seq (.a) (.seq (.seq (.reg [0,1,3,7,15,7,7,71,231,487,7,2023,4071,8191,16383,32767,65535,32767,32767,425983,950271,32767,2129919,8290303,16678911,33456127,67108863,134217727,268435455,536870911,1073741823,536870911,536870911,4831838207,15569256447,32749125631,536870911,135828340735,273267294207,549755813887,1099511627775,2199023255551,4398046511103,8796093022207,4398046511103,4398046511103,57174604644351,127543348822015,4398046511103,285873023221759,1112705767309311,2238605674151935,4490405487837183,9007199254740991,18014398509481983,36028797018963967,72057594037927935,144115188075855871,72057594037927935,360287970189639679,1152921504606846975,2305843009213693951,4611686018427387903,9223372036854775807,18446744073709551615,9223372036854775807,46116860184273879039,147573952589676412927,295147905179352825855,590295810358705651711] [0,1,2,3,4,5,6,7,8,9,10,11,12,13,14,15,16,17,18,19,20,21,22,23,24,25,26,27,28,29,30,31,32,33,34,35,36,37,38,39,40,41,42,43,44,45,46,47,48,49,50,51,52,53,54,55,56,57,58,59,60,61,62,63,64,65,66,67,68,69] [.s [] [],.s [] [],.s [] [],.s [] [],.s [3] [],.s [] [],.s [] [],.s [1] [],.s [] [],.s [] [],.s [] [],.s [] [],.s [] [],.s [] [],.s [] [],.s [] [],.s [3] [],.s [] [],.s [] [],.s [] [],.s [] [],.s [] [],.s [1] [],.s [] [],.s [] [],.s [] [],.s [] [],.s [] [],.s [] [],.s [] [],.s [3] [],.s [] [],.s [] [],.s [1] [],.s [] [],.s [] [],.s [] [],.s [] [],.s [] [],.s [] [],.s [] [],.s [] [],.s [] [],.s [3] [],.s [] [],.s [] [],.s [] [],.s [] [],.s [] [],.s [1] [],.s [] [],.s [] [],.s [] [],.s [] [],.s [] [],.s [] [],.s [] [],.s [3] [],.s [] [],.s [3] [],.s [] [],.s [] [],.s [] [],.s [] [],.s [3] [],.s [] [],.s [3] [],.s [] [],.s [] [],.s [] []] (.a)) (.a)) (.reg [0,0,2,0,8,30,0,64,254,510,0,1024,0,4096,15360,0,32768,98496,261312,523456,1048574,2097150,4194303,8388607] [0,1,2,3,4,5,6,7,8,9,10,11,12,13,14,15,16,17,18,19,20,21,22,23] [.s [] [],.s [] [],.s [3] [],.s [] [],.s [3] [],.s [] [],.s [] [],.s [] [],.s [] [],.s [] [],.s [] [],.s [3] [],.s [] [],.s [3] [],.s [] [],.s [] [],.s [] [],.s [] [],.s [] [],.s [] [],.s [] [],.s [] [],.s [2] [4,2],.s [] []] (.a)))))) (.a)))))) (.seq (.a) (.seq (.a) (.seq (.a) (.seq (.a) (.seq (.a) (.seq (.reg [0,1,0,0,8,0,32,120,248,508,1023,2047,0,4096,0,0,32768,0,131072,491520,1015808,2081788,4191228,8385532,16777215,0,67108863] [0,1,2,3,4,5,6,7,8,9,10,11,12,13,14,15,16,17,18,19,20,21,22,23,24,25,26] [.s [] [],.s [3] [],.s [] [],.s [] [],.s [3] [],.s [] [],.s [3] [],.s [] [],.s [] [],.s [] [],.s [] [],.s [] [],.s [] [],.s [3] [],.s [] [],.s [] [],.s [3] [],.s [] [],.s [3] [],.s [] [],.s [] [],.s [] [],.s [] [],.s [] [],.s [] [],.s [] [4],.s [4] [4]] (.a)) (.seq (.a) (.seq (.reg [0,0,2,7,0,0,32,0,128,496,1008,2047,4095,8191] [0,1,2,3,4,5,6,7,8,9,10,11,12,13] [.s [] [],.s [] [],.s [1] [],.s [] [6],.s [] [],.s [] [],.s [4] [],.s [] [],.s [4] [],.s [] [],.s [] [],.s [6] [7,6],.s [] [],.s [5,7] [5]] (.a)) (.a)))))))))))))))))))
noncomputable def m3 : (((List (Int × Int)) × List Int × (List (Int × Int × Int × Int)) × (List (Int × Int × Int × Int × Int)) × Int × Int × Int) × Int × Int × Int × Int) → Option (Bool) :=
  fun (x : (List (Int × Int) × List Int × List (Int × Int × Int × Int) × List (Int × Int × Int × Int × Int) × Int × Int × Int) × Int × Int × Int × Int) =>
  Option.bind (m8 ()) fun (r : Bool) => bif PE.notM r then some false else Option.bind (m9 (x.1.1, x.1.2.1, x.1.2.2.1, x.1.2.2.2.1, x.1.2.2.2.2.1,
  x.1.2.2.2.2.2.1, x.1.2.2.2.2.2.2)) fun (r_1 : Int × List (Int × Int × Int × Int) × List (Int × Int × Int × Int × Int)) => Option.bind (m10 (r_1.1, r_1.2.1,
  r_1.2.2)) fun (r_2 : List Int × Bool) => Option.bind (m11 (r_1.1, r_1.2.1, r_1.2.2)) fun (r_3 : List Bool) => Option.bind (m13 ((r_1.1, r_1.2.1, r_1.2.2), (0
  : Int))) fun (r_4 : Int × List (Int × Int × Int)) => Option.bind (m12 (r_4.1, r_4.2)) fun (r_5 : List (List Int) × Int) => Option.bind (m13 ((r_1.1, r_1.2.1,
  r_1.2.2), (1 : Int))) fun (r_6 : Int × List (Int × Int × Int)) => Option.bind (m12 (r_6.1, r_6.2)) fun (r_7 : List (List Int) × Int) => bif eqbM r_2.2
  (PE.andM (eqM r_5.2 (0 : Int)) (eqM r_7.2 (0 : Int))) then some false else Option.bind (loopM (fun (s : Int × List (Int × Int)) => bif ltM s.1 r_1.1 then
  Option.bind (m14 ((r_1.1, r_1.2.1, r_1.2.2), s.1)) fun (r_8 : (Int × Int × Int × Int) × Int) => Option.bind (bif PE.notM r_2.2 then idxM r_3 s.1 else some
  false) fun (r_9 : Bool) => bif PE.orM (PE.notM (eqbM (eqM r_8.2 (0 : Int)) (PE.andM (PE.notM r_2.2) r_9))) (PE.andM (PE.notM (eqM r_8.2 (0 : Int))) (PE.notM
  (eqM r_8.2 (100 : Int)))) then some (Sum.inr (Sum.inr false)) else Option.bind (bif eqM r_8.2 (0 : Int) then idxM r_5.1 r_1.1 else some []) fun (r_10 : List
  Int) => Option.bind (bif eqM r_8.2 (0 : Int) then idxM r_10 s.1 else some (0 : Int)) fun (r_11 : Int) => Option.bind (bif PE.andM (eqM r_8.2 (0 : Int))
  (PE.notM (PE.notM (eqM r_8.1.2.1 r_11))) then idxM r_5.1 s.1 else some []) fun (r_12 : List Int) => Option.bind (bif PE.andM (eqM r_8.2 (0 : Int)) (PE.notM
  (PE.notM (eqM r_8.1.2.1 r_11))) then idxM r_12 r_1.1 else some (0 : Int)) fun (r_13 : Int) => Option.bind (bif PE.andM (eqM r_8.2 (0 : Int)) (PE.notM (PE.orM
  (PE.notM (eqM r_8.1.2.1 r_11)) (PE.notM (eqM r_8.1.1 (IntKind.wrap IntKind.i64 (negM r_13)))))) then idxM r_7.1 r_1.1 else some []) fun (r_14 : List Int) =>
  Option.bind (bif PE.andM (eqM r_8.2 (0 : Int)) (PE.notM (PE.orM (PE.notM (eqM r_8.1.2.1 r_11)) (PE.notM (eqM r_8.1.1 (IntKind.wrap IntKind.i64 (negM
  r_13)))))) then idxM r_14 s.1 else some (0 : Int)) fun (r_15 : Int) => Option.bind (bif PE.andM (eqM r_8.2 (0 : Int)) (PE.notM (PE.orM (PE.orM (PE.notM (eqM
  r_8.1.2.1 r_11)) (PE.notM (eqM r_8.1.1 (IntKind.wrap IntKind.i64 (negM r_13))))) (PE.notM (eqM r_8.1.2.2.2 r_15)))) then idxM r_7.1 s.1 else some []) fun
  (r_16 : List Int) => Option.bind (bif PE.andM (eqM r_8.2 (0 : Int)) (PE.notM (PE.orM (PE.orM (PE.notM (eqM r_8.1.2.1 r_11)) (PE.notM (eqM r_8.1.1
  (IntKind.wrap IntKind.i64 (negM r_13))))) (PE.notM (eqM r_8.1.2.2.2 r_15)))) then idxM r_16 r_1.1 else some (0 : Int)) fun (r_17 : Int) => bif PE.andM (eqM
  r_8.2 (0 : Int)) (PE.orM (PE.orM (PE.orM (PE.orM (PE.orM (PE.notM (eqM r_8.1.2.1 r_11)) (PE.notM (eqM r_8.1.1 (IntKind.wrap IntKind.i64 (negM r_13)))))
  (PE.notM (eqM r_8.1.2.2.2 r_15))) (PE.notM (eqM r_8.1.2.2.1 (IntKind.wrap IntKind.i64 (negM r_17))))) (ltM r_8.1.2.1 r_8.1.1)) (ltM r_8.1.2.2.2 r_8.1.2.2.1))
  then some (Sum.inr (Sum.inr false)) else Option.bind (m15 (x.2.2.2.2, (2 : Int))) fun (r_18 : Int) => Option.bind (idxM [r_8.1.1, r_8.1.2.1] r_18) fun (r_19 :
  Int) => Option.bind (divM IntKind.i64 x.2.2.2.2 (2 : Int)) fun (r_20 : Int) => Option.bind (m15 (r_20, (2 : Int))) fun (r_21 : Int) => Option.bind (idxM
  [r_8.1.2.2.1, r_8.1.2.2.2] r_21) fun (r_22 : Int) => Option.bind (appM (nat_lit 16) s.2 [(r_19, r_22)]) fun (r : List (Int × Int)) => some (Sum.inl
  (IntKind.wrap IntKind.i64 (s.1 + (1 : Int)), r)) else some (Sum.inr (Sum.inl s.2))) ((0 : Int), [])) fun (o : List (Int × Int) ⊕ Bool) => Sum.elim (fun (t :
  List (Int × Int)) => bif PE.orM r_2.2 (eqM r_1.1 (0 : Int)) then some r else Option.bind (m16 (r_1.1, r_1.2.1, r_1.2.2)) fun (r_8 : Bool) => Option.bind (bif
  r_8 then m17 ((r_1.1, r_1.2.1, r_1.2.2), t) else some false) fun (r_9 : Bool) => bif PE.andM r_8 (PE.notM r_9) then some false else Option.bind (m15 (x.2.1,
  r_1.1)) fun (r_10 : Int) => Option.bind (idxM r_3 r_10) fun (r_11 : Bool) => bif PE.notM r_11 then some r else Option.bind (m14 ((r_1.1, r_1.2.1, r_1.2.2),
  r_10)) fun (r_12 : (Int × Int × Int × Int) × Int) => Option.bind (m15 (x.2.2.1, IntKind.wrap IntKind.i64 (IntKind.wrap IntKind.i64 (r_12.1.2.1 - r_12.1.1) +
  (5 : Int)))) fun (r_13 : Int) => Option.bind (m15 (x.2.2.2.1, IntKind.wrap IntKind.i64 (IntKind.wrap IntKind.i64 (r_12.1.2.2.2 - r_12.1.2.2.1) + (5 : Int))))
  fun (r_14 : Int) => Option.bind (appM (nat_lit 32) [] r_1.2.1) fun (r_15 : List (Int × Int × Int × Int)) => Option.bind (appM (nat_lit 32) r_15 [(r_10,
  IntKind.wrap IntKind.i64 (IntKind.wrap IntKind.i64 (r_12.1.1 + r_13) - (2 : Int)), IntKind.wrap IntKind.i64 (IntKind.wrap IntKind.i64 (r_12.1.2.2.1 + r_14) -
  (2 : Int)), (0 : Int))]) fun (r_16 : List (Int × Int × Int × Int)) => Option.bind (m10 (r_1.1, r_16, r_1.2.2)) fun (r_17 : List Int × Bool) => Option.bind
  (bif eqM r_12.2 (0 : Int) then m18 (r_1.1, r_16, r_1.2.2) else some false) fun (r_18 : Bool) => Option.bind (bif PE.andM (eqM r_12.2 (0 : Int)) r_18 then m19
  ((r_12.1.1, r_12.1.2.1, r_12.1.2.2.1, r_12.1.2.2.2), IntKind.wrap IntKind.i64 (IntKind.wrap IntKind.i64 (r_12.1.1 + r_13) - (2 : Int)), IntKind.wrap
  IntKind.i64 (IntKind.wrap IntKind.i64 (r_12.1.2.2.1 + r_14) - (2 : Int))) else some false) fun (r : Bool) => some (PE.andM (PE.andM (eqM r_12.2 (0 : Int))
  r_18) (eqbM r_17.2 (PE.notM r)))) (fun (t : Bool) => some t) o
theorem c3 : SpecOK Try.prog 3 ⟨as3, rs3, m3⟩ :=
  fnM_ok (own := []) (an := an3) (n := 400) tabs19OK (F := OPS) OPS_sound OPS_nice (f := 3) (fn := Try.f3) (code := Try.f3.body.getD .skip) (by kernel_rfl) (by kernel_rfl) (by kernel_rfl) fun x => by kernel_rfl
noncomputable def tabs3 : Tabs := Tabs.add tabs19 3 ⟨as3, rs3, m3⟩
theorem tabs3OK : TabOK Try.prog tabs3 := TabOK.add tabs19OK c3 Try.call3

/-! putlog/putloglaw10.NetworkSound -/
def as4 : List Ty := [(.pair (.list (.pair tI tI)) (.pair (.list tI) (.pair (.list (.pair tI (.pair tI (.pair tI tI)))) (.pair (.list (.pair tI (.pair tI (.pair tI (.pair tI tI))))) (.pair tI (.pair tI tI)))))), tI, tI, (.pair tI (.pair tI (.pair tI (.pair tI tI))))]
def rs4 : List Ty := [.bool]
noncomputable def an4 : Ann := .seq (.a) (.seq (.a) (.seq (.a) (.seq (.a) (.seq (.a) (.seq (.a) (.seq (.a) (.seq (.a) (.seq (.a) (.seq (.a) (.seq (.a) (.seq (.a) (.seq (.reg [0,0,2,7,0,0,63,127,255,511,1023] [0,1,2,3,4,5,6,7,8,9,10] [.s [] [],.s [] [],.s [2] [],.s [] [4],.s [] [],.s [1] [],.s [] [],.s [] [],.s [4] [5,4],.s [] [],.s [3,5] [3]] (.a)) (.seq (.a) (.seq (.a) (.seq (.a) (.seq (.a) (.seq (.a) (.seq (.a) (.seq (.a) (.seq (.reg [0,1,3,7,7,7,55,119,247,7,7,1543,3591,7687,16383,32767,65535,131071,262143,524287,1048575,1048575,1048575,7340031,15728639,32505855,1048575,1048575,202375167,470810623,1007681535,2146435071,1048575,1048575,12885950463,30065819647,64425558015,1048575,1048575,412317908991,962073722879,2061585350655,4393752592383,8796093022207,17592186044415,35184372088831,70368744177663] [0,1,2,3,4,5,6,7,8,9,10,11,12,13,14,15,16,17,18,19,20,21,22,23,24,25,26,27,28,29,30,31,32,33,34,35,36,37,38,39,40,41,42,43,44,45,46] [.s [] [],.s [] [],.s [] [],.s [7] [],.s [] [],.s [] [],.s [] [],.s [] [],.s [] [],.s [] [],.s [] [],.s [] [],.s [] [],.s [] [],.s [] [],.s [] [],.s [] [],.s [] [],.s [] [],.s [] [],.s [9] [],.s [] [],.s [] [],.s [] [],.s [] [],.s [] [],.s [] [],.s [] [],.s [] [],.s [] [],.s [] [],.s [] [],.s [] [],.s [] [],.s [] [],.s [] [],.s [] [],.s [] [],.s [] [],.s [] [],.s [] [],.s [] [],.s [] [],.s [] [],.s [] [],.s [] [],.s [] []] (.a)) (.a)))))))))))))))))))))
noncomputable def m4 : (((List (Int × Int)) × List Int × (List (Int × Int × Int × Int)) × (List (Int × Int × Int × Int × Int)) × Int × Int × Int) × Int × Int × Int × Int × Int × Int × Int) → Option (Bool) :=
  fun (x : (List (Int × Int) × List Int × List (Int × Int × Int × Int) × List (Int × Int × Int × Int × Int) × Int × Int × Int) × Int × Int × Int × Int × Int × Int
  × Int) => Option.bind (m8 ()) fun (r : Bool) => bif PE.notM r then some false else Option.bind (m9 (x.1.1, x.1.2.1, x.1.2.2.1, x.1.2.2.2.1, (0 : Int),
  x.1.2.2.2.2.2.1, x.1.2.2.2.2.2.2)) fun (r_1 : Int × List (Int × Int × Int × Int) × List (Int × Int × Int × Int × Int)) => Option.bind (m20 (x.1.1, x.1.2.1,
  x.1.2.2.1, x.1.2.2.2.1, (0 : Int), x.1.2.2.2.2.2.1, x.1.2.2.2.2.2.2)) fun (r_2 : List (Int × Int)) => Option.bind (m10 (r_1.1, r_1.2.1, r_1.2.2)) fun (r_3 :
  List Int × Bool) => Option.bind (bif PE.notM r_3.2 then m18 (r_1.1, r_1.2.1, r_1.2.2) else some false) fun (r_4 : Bool) => Option.bind (bif PE.notM (PE.orM
  r_3.2 (PE.notM r_4)) then m17 ((r_1.1, r_1.2.1, r_1.2.2), r_2) else some false) fun (r_5 : Bool) => bif PE.orM (PE.orM r_3.2 (PE.notM r_4)) (PE.notM r_5) then
  some false else bif ltM r_1.1 (2 : Int) then some r else Option.bind (m15 (x.2.1, r_1.1)) fun (r_6 : Int) => Option.bind (m15 (x.2.2.1, r_1.1)) fun (r_7 :
  Int) => Option.bind (appM (nat_lit 40) [] r_1.2.2) fun (r_8 : List (Int × Int × Int × Int × Int)) => Option.bind (m21 (r_2, x.2.2.2.1, x.2.2.2.2.1,
  x.2.2.2.2.2.1, x.2.2.2.2.2.2.1, x.2.2.2.2.2.2.2)) fun (r_9 : Int × Int × Int × Int × Int) => Option.bind (appM (nat_lit 40) r_8 [(r_9.1, r_9.2.1, r_9.2.2.1,
  r_9.2.2.2.1, r_9.2.2.2.2)]) fun (r_10 : List (Int × Int × Int × Int × Int)) => Option.bind (m14 ((r_1.1, r_1.2.1, r_1.2.2), r_6)) fun (r_11 : (Int × Int × Int
  × Int) × Int) => Option.bind (m14 ((r_1.1, r_1.2.1, r_10), r_6)) fun (r_12 : (Int × Int × Int × Int) × Int) => Option.bind (m22 ((r_1.1, r_1.2.1, r_1.2.2),
  r_6, r_7)) fun (r_13 : (Int × Int × Int × Int) × Int) => Option.bind (m22 ((r_1.1, r_1.2.1, r_10), r_6, r_7)) fun (r_14 : (Int × Int × Int × Int) × Int) =>
  Option.bind (m17 ((r_1.1, r_1.2.1, r_10), r_2)) fun (r_15 : Bool) => bif PE.orM (PE.orM (PE.notM r_15) (PE.andM (eqM r_11.2 (0 : Int)) (PE.orM (PE.orM (PE.orM
  (PE.orM (PE.notM (eqM r_12.2 (0 : Int))) (ltM r_12.1.1 r_11.1.1)) (ltM r_11.1.2.1 r_12.1.2.1)) (ltM r_12.1.2.2.1 r_11.1.2.2.1)) (ltM r_11.1.2.2.2
  r_12.1.2.2.2)))) (PE.andM (eqM r_13.2 (0 : Int)) (PE.orM (PE.orM (PE.orM (PE.orM (PE.notM (eqM r_14.2 (0 : Int))) (ltM r_14.1.1 r_13.1.1)) (ltM r_13.1.2.1
  r_14.1.2.1)) (ltM r_14.1.2.2.1 r_13.1.2.2.1)) (ltM r_13.1.2.2.2 r_14.1.2.2.2))) then some false else Option.bind (m11 (r_1.1, r_1.2.1, r_1.2.2)) fun (r_16 :
  List Bool) => Option.bind (idxM r_16 r_6) fun (r_17 : Bool) => Option.bind (bif PE.andM (PE.notM (PE.notM (eqbM r_17 (eqM r_11.2 (0 : Int))))) (PE.notM (eqM
  r_6 r_7)) then idxM r_16 r_6 else some false) fun (r_18 : Bool) => Option.bind (bif PE.andM (PE.andM (PE.notM (PE.notM (eqbM r_17 (eqM r_11.2 (0 : Int)))))
  (PE.notM (eqM r_6 r_7))) r_18 then idxM r_16 r_7 else some false) fun (r_19 : Bool) => bif PE.orM (PE.notM (eqbM r_17 (eqM r_11.2 (0 : Int)))) (PE.andM
  (PE.orM (eqM r_6 r_7) (PE.andM r_18 r_19)) (PE.notM (eqM r_13.2 (0 : Int)))) then some false else Option.bind (bif PE.notM (PE.notM (eqM r_11.2 (0 : Int)))
  then idxM r_2 r_6 else some ((0 : Int), (0 : Int))) fun (r_20 : Int × Int) => Option.bind (bif PE.notM (PE.notM (eqM r_11.2 (0 : Int))) then idxM r_2 r_6 else
  some ((0 : Int), (0 : Int))) fun (r_21 : Int × Int) => Option.bind (bif PE.notM (PE.notM (eqM r_11.2 (0 : Int))) then m19 ((r_12.1.1, r_12.1.2.1,
  r_12.1.2.2.1, r_12.1.2.2.2), r_20.1, r_21.2) else some false) fun (r_22 : Bool) => Option.bind (bif PE.andM (PE.orM (PE.notM (eqM r_11.2 (0 : Int))) r_22)
  (PE.notM (PE.notM (eqM r_14.2 (0 : Int)))) then idxM r_2 r_7 else some ((0 : Int), (0 : Int))) fun (r_23 : Int × Int) => Option.bind (bif PE.andM (PE.orM
  (PE.notM (eqM r_11.2 (0 : Int))) r_22) (PE.notM (PE.notM (eqM r_14.2 (0 : Int)))) then idxM r_2 r_6 else some ((0 : Int), (0 : Int))) fun (r_24 : Int × Int)
  => Option.bind (bif PE.andM (PE.orM (PE.notM (eqM r_11.2 (0 : Int))) r_22) (PE.notM (PE.notM (eqM r_14.2 (0 : Int)))) then idxM r_2 r_7 else some ((0 : Int),
  (0 : Int))) fun (r_25 : Int × Int) => Option.bind (bif PE.andM (PE.orM (PE.notM (eqM r_11.2 (0 : Int))) r_22) (PE.notM (PE.notM (eqM r_14.2 (0 : Int)))) then
  idxM r_2 r_6 else some ((0 : Int), (0 : Int))) fun (r_26 : Int × Int) => Option.bind (bif PE.andM (PE.orM (PE.notM (eqM r_11.2 (0 : Int))) r_22) (PE.notM
  (PE.notM (eqM r_14.2 (0 : Int)))) then m19 ((r_14.1.1, r_14.1.2.1, r_14.1.2.2.1, r_14.1.2.2.2), IntKind.wrap IntKind.i64 (r_23.1 - r_24.1), IntKind.wrap
  IntKind.i64 (r_25.2 - r_26.2)) else some false) fun (r : Bool) => some (PE.andM (PE.orM (PE.notM (eqM r_11.2 (0 : Int))) r_22) (PE.orM (PE.notM (eqM r_14.2 (0
  : Int))) r))
theorem c4 : SpecOK Try.prog 4 ⟨as4, rs4, m4⟩ :=
  fnM_ok (own := []) (an := an4) (n := 400) tabs3OK (F := OPS) OPS_sound OPS_nice (f := 4) (fn := Try.f4) (code := Try.f4.body.getD .skip) (by kernel_rfl) (by kernel_rfl) (by kernel_rfl) fun x => by kernel_rfl
noncomputable def tabs4 : Tabs := Tabs.add tabs3 4 ⟨as4, rs4, m4⟩
theorem tabs4OK : TabOK Try.prog tabs4 := TabOK.add tabs3OK c4 Try.call4

/-! putlog/putloglaw10.moved -/
def as23 : List Ty := [(.pair tI (.pair tI (.pair tI tI))), tI, tI]
def rs23 : List Ty := [(.pair tI (.pair tI (.pair tI tI)))]
noncomputable def an23 : Ann := .a
noncomputable def m23 : ((Int × Int × Int × Int) × Int × Int) → Option (Int × Int × Int × Int) :=
  fun (x : (Int × Int × Int × Int) × Int × Int) => some (IntKind.wrap IntKind.i64 (x.1.1 + x.2.1), IntKind.wrap IntKind.i64 (x.1.2.1 + x.2.1), IntKind.wrap
  IntKind.i64 (x.1.2.2.1 + x.2.2), IntKind.wrap IntKind.i64 (x.1.2.2.2 + x.2.2))
theorem c23 : SpecOK Try.prog 23 ⟨as23, rs23, m23⟩ :=
  fnM_ok (own := []) (an := an23) (n := 400) tabs4OK (F := OPS) OPS_sound OPS_nice (f := 23) (fn := Try.f23) (code := Try.f23.body.getD .skip) (by kernel_rfl) (by kernel_rfl) (by kernel_rfl) fun x => by kernel_rfl
noncomputable def tabs23 : Tabs := Tabs.add tabs4 23 ⟨as23, rs23, m23⟩
theorem tabs23OK : TabOK Try.prog tabs23 := TabOK.add tabs4OK c23 Try.call23

/-! putlog/putloglaw10.NetworkMoves -/
def as5 : List Ty := [(.pair (.list (.pair tI tI)) (.pair (.list tI) (.pair (.list (.pair tI (.pair tI (.pair tI tI)))) (.pair (.list (.pair tI (.pair tI (.pair tI (.pair tI tI))))) (.pair tI (.pair tI tI)))))), tI, tI, tI, tI, tI]
def rs5 : List Ty := [.bool]
noncomputable def an5 : Ann := .seq (.a) (.seq (.a) (.seq (.a) (.seq (.a) (.seq (.a) (.seq (.a) (.seq (.a) (.seq (.a) (.seq (.seq (.a) (.block (.loop ⟨[(16,.r (.c (.d (.d tI))))],[17,59,60,61,62,63,64,65,66,67,68,69,70,71,72,73,74,75,76,77,78,79,80,81,82,83,84,85,86],[(2,.box [.d (.d tI),.h 3,.d (.d (.list (.pair tI (.pair tI (.pair tI (.pair tI tI))))))])],[.arr (.pair tI (.pair tI (.pair tI tI)))]⟩ [(.exit 0,⟨[],[16,17,59,60,61,62,63,64,65,66,67,68,69,70,71,72,73,74,75,76,77,78,79,80,81,82,83,84,85,86],[(2,.box [.d (.d tI),.h 3,.d (.d (.list (.pair tI (.pair tI (.pair tI (.pair tI tI))))))])],[.arr (.pair tI (.pair tI (.pair tI tI)))]⟩)] (.a)))) (.seq (.a) (.seq (.a) (.seq (.join [(.norm,⟨[],[19,20,93,94,95,96,97,98,99,100,101,102,103,104,105,106,107,108,109,110,111,112,113,114,115,116,117,118,119,120,121,122,123],[(5,.arr (.pair tI (.pair tI (.pair tI (.pair tI tI)))))],[]⟩)] (.a)) (.seq (.a) (.seq (.a) (.seq (.a) (.seq (.a) (.seq (.a) (.seq (.seq (.reg [0,0,3,7,15,15,63,127,255,511,1023,2047,4095,4095,4095,4095,61439,131071,262143,524287,1048575,2097151,2097151,8388607,16777215] [0,1,2,3,4,5,6,7,8,9,10,11,12,13,14,15,16,17,18,19,20,21,22,23,24] [.s [] [],.s [] [],.s [] [],.s [] [],.s [] [],.s [] [],.s [] [],.s [] [],.s [] [],.s [] [],.s [] [],.s [] [],.s [7] [],.s [6] [],.s [] [],.s [] [],.s [] [],.s [] [],.s [] [],.s [] [],.s [] [],.s [6] [],.s [8] [],.s [] [],.s [] []] (.a)) (.a)) (.seq (.a) (.seq (.a) (.seq (.a) (.seq (.a) (.seq (.a) (.seq (.a) (.seq (.a) (.seq (.a) (.seq (.a) (.seq (.a) (.seq (.a) (.seq (.seq (.a) (.block (.loop ⟨[(45,.r (.c (.d (.d tI))))],[304,305,306,307,308,309,310,311,312,313,314,315,316,317,318,319,320,321,322,323,324,325,326,327,328,329,330,331,332,333,334,335,336,337,338,339,340,341,342,343,344],[],[]⟩ [(.exit 2,⟨[],[45,304,305,306,307,308,309,310,311,312,313,314,315,316,317,318,319,320,321,322,323,324,325,326,327,328,329,330,331,332,333,334,335,336,337,338,339,340,341,342,343,344],[],[]⟩),(.ret,⟨[(12,.r (.c (.d (.d .bool))))],[45,304,305,306,307,308,309,310,311,312,313,314,315,316,317,318,319,320,321,322,323,324,325,326,327,328,329,330,331,332,333,334,335,336,337,338,339,340,341,342,343,344],[],[]⟩)] (.seq (.a) (.seq (.block (.seq (.reg [0,1,0,7,15,0,32,0,224,480,0,0,2048,7168,16352,32767,65535,131071,262143,131071,1048575,2097151,131071,4325375,131071,29491199,63045631,131071,131071,268566527,939655167,2143420415,4294967295,8589934591] [0,1,2,3,4,5,6,7,8,9,10,11,12,13,14,15,16,17,18,19,20,21,22,23,24,25,26,27,28,29,30,31,32,33] [.s [] [],.s [13] [],.s [] [],.s [] [],.s [] [],.s [] [],.s [12] [],.s [] [],.s [] [],.s [] [],.s [] [],.s [] [],.s [12] [],.s [] [],.s [] [],.s [] [],.s [] [],.s [] [],.s [13] [],.s [] [],.s [] [],.s [] [],.s [] [],.s [12] [],.s [] [],.s [] [],.s [] [],.s [] [],.s [] [],.s [12] [],.s [] [],.s [] [],.s [] [],.s [] []] (.a)) (.a))) (.a)))))) (.a))))))))))))))))))))))))))))))
noncomputable def m5 : (((List (Int × Int)) × List Int × (List (Int × Int × Int × Int)) × (List (Int × Int × Int × Int × Int)) × Int × Int × Int) × Int × Int × Int × Int × Int) → Option (Bool) :=
  fun (x : (List (Int × Int) × List Int × List (Int × Int × Int × Int) × List (Int × Int × Int × Int × Int) × Int × Int × Int) × Int × Int × Int × Int × Int) =>
  Option.bind (m8 ()) fun (r : Bool) => bif PE.notM r then some false else Option.bind (m9 (x.1.1, x.1.2.1, x.1.2.2.1, x.1.2.2.2.1, x.1.2.2.2.2.1,
  x.1.2.2.2.2.2.1, x.1.2.2.2.2.2.2)) fun (r_1 : Int × List (Int × Int × Int × Int) × List (Int × Int × Int × Int × Int)) => Option.bind (m15 (x.2.1, (2001 :
  Int))) fun (r_2 : Int) => Option.bind (m15 (x.2.2.1, (2001 : Int))) fun (r_3 : Int) => Option.bind (loopM (fun (s : Int × Int × List (Int × Int × Int × Int ×
  Int) × List (Int × Int × Int × Int)) => bif ltM s.1 (lenM r_1.2.1) then Option.bind (idxM r_1.2.1 s.1) fun (r_4 : Int × Int × Int × Int) => Option.bind (appM
  (nat_lit 32) s.2.2.2 [(r_4.1, IntKind.wrap IntKind.i64 (r_4.2.1 + IntKind.wrap IntKind.i64 (r_2 - (1000 : Int))), IntKind.wrap IntKind.i64 (r_4.2.2.1 +
  IntKind.wrap IntKind.i64 (r_3 - (1000 : Int))), r_4.2.2.2)]) fun (r : List (Int × Int × Int × Int)) => some (Sum.inl (IntKind.wrap IntKind.i64 (s.1 + (1 :
  Int)), s.2.1, s.2.2.1, r)) else some (Sum.inr (s.2.1, s.2.2.1, s.2.2.2))) ((0 : Int), r_1.1, r_1.2.2, [])) fun (o : Int × List (Int × Int × Int × Int × Int) ×
  List (Int × Int × Int × Int)) => Option.bind (appM (nat_lit 40) [] r_1.2.2) fun (r_4 : List (Int × Int × Int × Int × Int)) => Option.bind (bif ltM (0 : Int)
  (lenM r_1.2.2) then Option.bind (m15 (x.2.2.2.1, lenM r_1.2.2)) fun (r_5 : Int) => Option.bind (idxM r_1.2.2 r_5) fun (r_6 : Int × Int × Int × Int × Int) =>
  Option.bind (chkM r_5 (lenM r_4)) fun (r_7 : Unit) => Option.bind (setM r_4 r_5 fun (x : Int × Int × Int × Int × Int) => some (r_6.2.1, r_6.1, IntKind.wrap
  IntKind.i64 (negM r_6.2.2.1), IntKind.wrap IntKind.i64 (negM r_6.2.2.2.1), r_6.2.2.2.2)) fun (r : List (Int × Int × Int × Int × Int)) => some r else some r_4)
  fun (o_1 : List (Int × Int × Int × Int × Int)) => Option.bind (m15 (x.2.2.2.2.1, (8 : Int))) fun (r_5 : Int) => Option.bind (m15 (x.2.2.2.2.2, (8 : Int))) fun
  (r_6 : Int) => Option.bind (m14 ((r_1.1, r_1.2.1, r_1.2.2), r_5)) fun (r_7 : (Int × Int × Int × Int) × Int) => Option.bind (m14 ((o.1, o.2.2, o.2.1), r_5))
  fun (r_8 : (Int × Int × Int × Int) × Int) => Option.bind (m14 ((r_1.1, r_1.2.1, o_1), r_5)) fun (r_9 : (Int × Int × Int × Int) × Int) => Option.bind (bif
  PE.andM (PE.notM (PE.orM (PE.notM (eqM r_7.2 r_8.2)) (PE.notM (eqM r_7.2 r_9.2)))) (eqM r_7.2 (0 : Int)) then m23 ((r_7.1.1, r_7.1.2.1, r_7.1.2.2.1,
  r_7.1.2.2.2), IntKind.wrap IntKind.i64 (r_2 - (1000 : Int)), IntKind.wrap IntKind.i64 (r_3 - (1000 : Int))) else some ((0 : Int), (0 : Int), (0 : Int), (0 :
  Int))) fun (r_10 : Int × Int × Int × Int) => bif PE.orM (PE.orM (PE.orM (PE.notM (eqM r_7.2 r_8.2)) (PE.notM (eqM r_7.2 r_9.2))) (PE.andM (eqM r_7.2 (0 :
  Int)) (PE.notM (PE.andM (eqM r_8.1.1 r_10.1) (PE.andM (eqM r_8.1.2.1 r_10.2.1) (PE.andM (eqM r_8.1.2.2.1 r_10.2.2.1) (eqM r_8.1.2.2.2 r_10.2.2.2)))))))
  (PE.notM (PE.andM (eqM r_7.1.1 r_9.1.1) (PE.andM (eqM r_7.1.2.1 r_9.1.2.1) (PE.andM (eqM r_7.1.2.2.1 r_9.1.2.2.1) (eqM r_7.1.2.2.2 r_9.1.2.2.2))))) then some
  false else Option.bind (m22 ((r_1.1, r_1.2.1, r_1.2.2), r_5, r_6)) fun (r_11 : (Int × Int × Int × Int) × Int) => Option.bind (m22 ((o.1, o.2.2, o.2.1), r_5,
  r_6)) fun (r_12 : (Int × Int × Int × Int) × Int) => Option.bind (m22 ((r_1.1, r_1.2.1, o_1), r_5, r_6)) fun (r_13 : (Int × Int × Int × Int) × Int) =>
  Option.bind (m10 (r_1.1, r_1.2.1, r_1.2.2)) fun (r_14 : List Int × Bool) => Option.bind (m10 (o.1, o.2.2, o.2.1)) fun (r_15 : List Int × Bool) => Option.bind
  (m10 (r_1.1, r_1.2.1, o_1)) fun (r_16 : List Int × Bool) => Option.bind (bif PE.notM (PE.orM (PE.orM (PE.orM (PE.orM (PE.orM (PE.notM (eqM r_11.2 r_12.2))
  (PE.notM (eqM r_11.2 r_13.2))) (PE.notM (PE.andM (eqM r_11.1.1 r_12.1.1) (PE.andM (eqM r_11.1.2.1 r_12.1.2.1) (PE.andM (eqM r_11.1.2.2.1 r_12.1.2.2.1) (eqM
  r_11.1.2.2.2 r_12.1.2.2.2)))))) (PE.notM (PE.andM (eqM r_11.1.1 r_13.1.1) (PE.andM (eqM r_11.1.2.1 r_13.1.2.1) (PE.andM (eqM r_11.1.2.2.1 r_13.1.2.2.1) (eqM
  r_11.1.2.2.2 r_13.1.2.2.2)))))) (PE.notM (eqbM r_14.2 r_15.2))) (PE.notM (eqbM r_14.2 r_16.2))) then m24 (r_14.1, r_15.1) else some false) fun (r_17 : Bool)
  => bif PE.orM (PE.orM (PE.orM (PE.orM (PE.orM (PE.orM (PE.notM (eqM r_11.2 r_12.2)) (PE.notM (eqM r_11.2 r_13.2))) (PE.notM (PE.andM (eqM r_11.1.1 r_12.1.1)
  (PE.andM (eqM r_11.1.2.1 r_12.1.2.1) (PE.andM (eqM r_11.1.2.2.1 r_12.1.2.2.1) (eqM r_11.1.2.2.2 r_12.1.2.2.2)))))) (PE.notM (PE.andM (eqM r_11.1.1 r_13.1.1)
  (PE.andM (eqM r_11.1.2.1 r_13.1.2.1) (PE.andM (eqM r_11.1.2.2.1 r_13.1.2.2.1) (eqM r_11.1.2.2.2 r_13.1.2.2.2)))))) (PE.notM (eqbM r_14.2 r_15.2))) (PE.notM
  (eqbM r_14.2 r_16.2))) (PE.notM r_17) then some false else Option.bind (m25 (r_1.1, r_1.2.1, r_1.2.2)) fun (r_18 : (List Int × List Int × Int) × Int) =>
  Option.bind (m25 (o.1, o.2.2, o.2.1)) fun (r_19 : (List Int × List Int × Int) × Int) => Option.bind (m25 (r_1.1, r_1.2.1, o_1)) fun (r_20 : (List Int × List
  Int × Int) × Int) => Option.bind (bif PE.notM (PE.orM (PE.notM (eqM r_18.2 r_19.2)) (PE.notM (eqM r_18.2 r_20.2))) then m26 ((r_18.1.1, r_18.1.2.1,
  r_18.1.2.2), r_20.1.1, r_20.1.2.1, r_20.1.2.2) else some false) fun (r_21 : Bool) => bif PE.orM (PE.orM (PE.orM (PE.orM (PE.orM (PE.orM (PE.notM (eqM r_18.2
  r_19.2)) (PE.notM (eqM r_18.2 r_20.2))) (PE.notM r_21)) (PE.notM (eqM r_18.1.2.2 r_19.1.2.2))) (PE.notM (eqM (lenM r_18.1.1) (lenM r_19.1.1)))) (PE.notM (eqM
  (lenM r_18.1.2.1) (lenM r_19.1.2.1)))) (PE.notM (eqM (lenM r_18.1.1) (lenM r_18.1.2.1))) then some false else Option.bind (loopM (fun (s : Int) => bif ltM s
  (lenM r_18.1.1) then Option.bind (idxM r_19.1.1 s) fun (r_22 : Int) => Option.bind (idxM r_18.1.1 s) fun (r_23 : Int) => Option.bind (bif PE.notM (PE.notM
  (eqM r_22 (IntKind.wrap IntKind.i64 (r_23 + IntKind.wrap IntKind.i64 (IntKind.wrap IntKind.i64 (r_2 - (1000 : Int)) * r_18.1.2.2))))) then idxM r_19.1.2.1 s
  else some (0 : Int)) fun (r_24 : Int) => Option.bind (bif PE.notM (PE.notM (eqM r_22 (IntKind.wrap IntKind.i64 (r_23 + IntKind.wrap IntKind.i64 (IntKind.wrap
  IntKind.i64 (r_2 - (1000 : Int)) * r_18.1.2.2))))) then idxM r_18.1.2.1 s else some (0 : Int)) fun (r : Int) => bif PE.orM (PE.notM (eqM r_22 (IntKind.wrap
  IntKind.i64 (r_23 + IntKind.wrap IntKind.i64 (IntKind.wrap IntKind.i64 (r_2 - (1000 : Int)) * r_18.1.2.2))))) (PE.notM (eqM r_24 (IntKind.wrap IntKind.i64 (r
  + IntKind.wrap IntKind.i64 (IntKind.wrap IntKind.i64 (r_3 - (1000 : Int)) * r_18.1.2.2))))) then some (Sum.inr (Sum.inr false)) else some (Sum.inl
  (IntKind.wrap IntKind.i64 (s + (1 : Int)))) else some (Sum.inr (Sum.inl ()))) (0 : Int)) fun (o : Unit ⊕ Bool) => Sum.elim (fun (t : Unit) => some r) (fun (t
  : Bool) => some t) o
theorem c5 : SpecOK Try.prog 5 ⟨as5, rs5, m5⟩ :=
  fnM_ok (own := []) (an := an5) (n := 400) tabs23OK (F := OPS) OPS_sound OPS_nice (f := 5) (fn := Try.f5) (code := Try.f5.body.getD .skip) (by kernel_rfl) (by kernel_rfl) (by kernel_rfl) fun x => by kernel_rfl
noncomputable def tabs5 : Tabs := Tabs.add tabs23 5 ⟨as5, rs5, m5⟩
theorem tabs5OK : TabOK Try.prog tabs5 := TabOK.add tabs23OK c5 Try.call5

/-! putlog/putloglaw10.within -/
def as27 : List Ty := [(.pair tI (.pair tI (.pair tI tI))), (.pair tI (.pair tI (.pair tI tI))), (.pair tI (.pair tI (.pair tI tI)))]
def rs27 : List Ty := [.bool]
noncomputable def an27 : Ann := .a
noncomputable def m27 : ((Int × Int × Int × Int) × (Int × Int × Int × Int) × Int × Int × Int × Int) → Option (Bool) :=
  fun (x : (Int × Int × Int × Int) × (Int × Int × Int × Int) × Int × Int × Int × Int) => some (PE.andM (PE.andM (PE.andM (leM (IntKind.wrap IntKind.i64 (x.2.1.1 +
  x.2.2.1)) x.1.1) (leM x.1.2.1 (IntKind.wrap IntKind.i64 (x.2.1.2.1 + x.2.2.2.1)))) (leM (IntKind.wrap IntKind.i64 (x.2.1.2.2.1 + x.2.2.2.2.1)) x.1.2.2.1))
  (leM x.1.2.2.2 (IntKind.wrap IntKind.i64 (x.2.1.2.2.2 + x.2.2.2.2.2))))
theorem c27 : SpecOK Try.prog 27 ⟨as27, rs27, m27⟩ :=
  fnM_ok (own := []) (an := an27) (n := 400) tabs5OK (F := OPS) OPS_sound OPS_nice (f := 27) (fn := Try.f27) (code := Try.f27.body.getD .skip) (by kernel_rfl) (by kernel_rfl) (by kernel_rfl) fun x => by kernel_rfl
noncomputable def tabs27 : Tabs := Tabs.add tabs5 27 ⟨as27, rs27, m27⟩
theorem tabs27OK : TabOK Try.prog tabs27 := TabOK.add tabs5OK c27 Try.call27

/-! putlog/putloglaw10.NetworkApart -/
def as6 : List Ty := [(.pair (.list (.pair tI tI)) (.pair (.list tI) (.pair (.list (.pair tI (.pair tI (.pair tI tI)))) (.pair (.list (.pair tI (.pair tI (.pair tI (.pair tI tI))))) (.pair tI (.pair tI tI)))))), tI, tI, tI]
def rs6 : List Ty := [.bool]
noncomputable def an6 : Ann := .a
noncomputable def m6 : (((List (Int × Int)) × List Int × (List (Int × Int × Int × Int)) × (List (Int × Int × Int × Int × Int)) × Int × Int × Int) × Int × Int × Int) → Option (Bool) :=
  fun (x : (List (Int × Int) × List Int × List (Int × Int × Int × Int) × List (Int × Int × Int × Int × Int) × Int × Int × Int) × Int × Int × Int) => Option.bind
  (m8 ()) fun (r : Bool) => bif PE.notM r then some false else Option.bind (m9 (x.1.1, x.1.2.1, x.1.2.2.1, x.1.2.2.2.1, x.1.2.2.2.2.1, x.1.2.2.2.2.2.1,
  x.1.2.2.2.2.2.2)) fun (r_1 : Int × List (Int × Int × Int × Int) × List (Int × Int × Int × Int × Int)) => bif eqM r_1.1 (0 : Int) then Option.bind (m22
  ((r_1.1, r_1.2.1, r_1.2.2), (0 : Int), (0 : Int))) fun (r : (Int × Int × Int × Int) × Int) => some (eqM r.2 (100 : Int)) else Option.bind (m15 (x.2.1, r_1.1))
  fun (r_2 : Int) => Option.bind (m15 (x.2.2.1, r_1.1)) fun (r_3 : Int) => Option.bind (m15 (x.2.2.2, r_1.1)) fun (r_4 : Int) => Option.bind (m22 ((r_1.1,
  r_1.2.1, r_1.2.2), r_2, r_3)) fun (r_5 : (Int × Int × Int × Int) × Int) => Option.bind (m22 ((r_1.1, r_1.2.1, r_1.2.2), r_3, r_2)) fun (r_6 : (Int × Int × Int
  × Int) × Int) => Option.bind (m22 ((r_1.1, r_1.2.1, r_1.2.2), r_3, r_4)) fun (r_7 : (Int × Int × Int × Int) × Int) => Option.bind (m22 ((r_1.1, r_1.2.1,
  r_1.2.2), r_2, r_4)) fun (r_8 : (Int × Int × Int × Int) × Int) => bif PE.orM (PE.orM (PE.notM (eqM r_5.2 r_6.2)) (PE.andM (eqM r_5.2 (0 : Int)) (PE.notM
  (PE.andM (eqM r_6.1.1 (IntKind.wrap IntKind.i64 (negM r_5.1.2.1))) (PE.andM (eqM r_6.1.2.1 (IntKind.wrap IntKind.i64 (negM r_5.1.1))) (PE.andM (eqM
  r_6.1.2.2.1 (IntKind.wrap IntKind.i64 (negM r_5.1.2.2.2))) (eqM r_6.1.2.2.2 (IntKind.wrap IntKind.i64 (negM r_5.1.2.2.1))))))))) (PE.andM (PE.andM (eqM r_5.2
  (0 : Int)) (eqM r_2 r_3)) (PE.notM (PE.andM (eqM r_5.1.1 (0 : Int)) (PE.andM (eqM r_5.1.2.1 (0 : Int)) (PE.andM (eqM r_5.1.2.2.1 (0 : Int)) (eqM r_5.1.2.2.2
  (0 : Int))))))) then some false else Option.bind (bif PE.andM (PE.andM (eqM r_5.2 (0 : Int)) (eqM r_7.2 (0 : Int))) (PE.notM (PE.notM (eqM r_8.2 (0 : Int))))
  then m27 ((r_8.1.1, r_8.1.2.1, r_8.1.2.2.1, r_8.1.2.2.2), (r_5.1.1, r_5.1.2.1, r_5.1.2.2.1, r_5.1.2.2.2), r_7.1.1, r_7.1.2.1, r_7.1.2.2.1, r_7.1.2.2.2) else
  some false) fun (r_9 : Bool) => bif PE.andM (PE.andM (eqM r_5.2 (0 : Int)) (eqM r_7.2 (0 : Int))) (PE.orM (PE.notM (eqM r_8.2 (0 : Int))) (PE.notM r_9)) then
  some false else Option.bind (m14 ((r_1.1, r_1.2.1, r_1.2.2), r_2)) fun (r_10 : (Int × Int × Int × Int) × Int) => Option.bind (m14 ((r_1.1, r_1.2.1, r_1.2.2),
  r_3)) fun (r_11 : (Int × Int × Int × Int) × Int) => bif PE.notM (eqM r_5.2 (0 : Int)) then some r else Option.bind (bif PE.andM (eqbM (eqM r_10.2 (0 : Int))
  (eqM r_11.2 (0 : Int))) (PE.notM (PE.notM (eqM r_10.2 (0 : Int)))) then m27 ((r_11.1.1, r_11.1.2.1, r_11.1.2.2.1, r_11.1.2.2.2), (r_10.1.1, r_10.1.2.1,
  r_10.1.2.2.1, r_10.1.2.2.2), r_5.1.1, r_5.1.2.1, r_5.1.2.2.1, r_5.1.2.2.2) else some false) fun (r : Bool) => some (PE.andM (eqbM (eqM r_10.2 (0 : Int)) (eqM
  r_11.2 (0 : Int))) (PE.orM (PE.notM (eqM r_10.2 (0 : Int))) r))
theorem c6 : SpecOK Try.prog 6 ⟨as6, rs6, m6⟩ :=
  fnM_ok (own := []) (an := an6) (n := 400) tabs27OK (F := OPS) OPS_sound OPS_nice (f := 6) (fn := Try.f6) (code := Try.f6.body.getD .skip) (by kernel_rfl) (by kernel_rfl) (by kernel_rfl) fun x => by kernel_rfl
noncomputable def tabs6 : Tabs := Tabs.add tabs27 6 ⟨as6, rs6, m6⟩
theorem tabs6OK : TabOK Try.prog tabs6 := TabOK.add tabs27OK c6 Try.call6

/-! putlog/between.Solve -/
def as28 : List Ty := [(.pair tI (.list (.pair tI (.pair tI tI))))]
def rs28 : List Ty := [(.list tI), tI]
noncomputable def an28 : Ann := .seq (.a) (.seq (.a) (.seq (.a) (.seq (.a) (.seq (.seq (.a) (.block (.loop ⟨[(24,.r (.c (.d (.d tI))))],[8,9,10,25,26,27,28,29,30,31,32,33,34,35,36,37,38,39,40,41,42,43,44,45],[(1,.arr tI)],[]⟩ [(.exit 0,⟨[],[8,9,10,24,25,26,27,28,29,30,31,32,33,34,35,36,37,38,39,40,41,42,43,44,45],[(1,.arr tI)],[]⟩)] (.seq (.a) (.seq (.a) (.seq (.block (.seq (.a) (.seq (.a) (.block (.loop ⟨[(30,.r (.c (.d (.d tI))))],[9,10,31,32,33,34,35,36,37,38,39,40,41,42,43,44],[(1,.arr tI)],[]⟩ [(.exit 2,⟨[],[9,10,30,31,32,33,34,35,36,37,38,39,40,41,42,43,44],[(1,.arr tI)],[]⟩)] (.a)))))) (.a))))))) (.a)))))
noncomputable def m28 : (Int × List (Int × Int × Int)) → Option (List Int × Int) :=
  fun (x : Int × List (Int × Int × Int)) => Option.bind (m12 (x.1, x.2)) fun (r : List (List Int) × Int) => bif PE.notM (eqM r.2 (0 : Int)) then some ([], r.2)
  else Option.bind (mkM x.1 x.1 (nat_lit 8) (0 : Int)) fun (r_1 : List Int) => Option.bind (loopM (fun (s : Int × List Int) => bif ltM s.1 (lenM r.1) then
  Option.bind (idxM r.1 s.1) fun (r_2 : List Int) => Option.bind (loopM (fun (s_1 : Int × List Int) => bif ltM s_1.1 (lenM r_2) then Option.bind (idxM r_2
  s_1.1) fun (r_3 : Int) => Option.bind (chkM s_1.1 (lenM s_1.2)) fun (r_4 : Unit) => Option.bind (idxM s_1.2 s_1.1) fun (r_5 : Int) => Option.bind (chkM s_1.1
  (lenM s_1.2)) fun (r_6 : Unit) => Option.bind (setM s_1.2 s_1.1 fun (x : Int) => some (min r_5 r_3)) fun (r : List Int) => some (Sum.inl (IntKind.wrap
  IntKind.i64 (s_1.1 + (1 : Int)), r)) else some (Sum.inr s_1.2)) ((0 : Int), s.2)) fun (o : List Int) => some (Sum.inl (IntKind.wrap IntKind.i64 (s.1 + (1 :
  Int)), o)) else some (Sum.inr s.2)) ((0 : Int), r_1)) fun (o : List Int) => some (o, (0 : Int))
theorem c28 : SpecOK Try.prog 28 ⟨as28, rs28, m28⟩ :=
  fnM_ok (own := []) (an := an28) (n := 400) tabs6OK (F := OPS) OPS_sound OPS_nice (f := 28) (fn := Try.f28) (code := Try.f28.body.getD .skip) (by kernel_rfl) (by kernel_rfl) (by kernel_rfl) fun x => by kernel_rfl
noncomputable def tabs28 : Tabs := Tabs.add tabs6 28 ⟨as28, rs28, m28⟩
theorem tabs28OK : TabOK Try.prog tabs28 := TabOK.add tabs6OK c28 Try.call28

/-! putlog/putloglaw10.only -/
def as29 : List Ty := [(.pair tI (.pair (.list (.pair tI (.pair tI (.pair tI tI)))) (.list (.pair tI (.pair tI (.pair tI (.pair tI tI))))))), (.list tI)]
def rs29 : List Ty := [(.pair tI (.pair (.list (.pair tI (.pair tI (.pair tI tI)))) (.list (.pair tI (.pair tI (.pair tI (.pair tI tI)))))))]
noncomputable def an29 : Ann := .seq (.a) (.seq (.a) (.seq (.seq (.a) (.block (.loop ⟨[(6,.r (.c (.d (.d tI))))],[10,11,12,13,14,15,16,17,18,19,20,21,22,23,24,25,26,27,28,29,30,31,32,33,34,35,36,37,38,39,40,41,42,43,44,45,46,47,48,49,50,51,52,53],[(2,.box [.d (.d tI),.h 3,.h 4])],[.arr (.pair tI (.pair tI (.pair tI tI))),.arr (.pair tI (.pair tI (.pair tI (.pair tI tI))))]⟩ [(.exit 0,⟨[],[6,10,11,12,13,14,15,16,17,18,19,20,21,22,23,24,25,26,27,28,29,30,31,32,33,34,35,36,37,38,39,40,41,42,43,44,45,46,47,48,49,50,51,52,53],[(2,.box [.d (.d tI),.h 3,.h 4])],[.arr (.pair tI (.pair tI (.pair tI tI))),.arr (.pair tI (.pair tI (.pair tI (.pair tI tI))))]⟩)] (.seq (.a) (.seq (.join [(.norm,⟨[],[16,17,18,19,20,21,22,23,24,25,26,27,28,29,30,31,32,33,34,35,36,37,38,39,40,41,42,43,44,45,46,47,48,49,50,51,52,53],[(2,.box [.d (.d tI),.h 5,.h 6]),(3,.gone),(4,.gone)],[.arr (.pair tI (.pair tI (.pair tI tI))),.arr (.pair tI (.pair tI (.pair tI (.pair tI tI))))]⟩)] (.block (.seq (.reg [0,0,3,7,0,16,48,127] [0,1,2,3,4,5,6,7] [.s [] [],.s [] [],.s [] [],.s [] [],.s [] [],.s [0] [],.s [] [],.s [] []] (.a)) (.cond (.reg [0,1,0,4,0,0,48,112,252,508,1020,2047,4095,8191] [0,1,2,3,4,5,6,7,8,9,10,11,12,13] [.s [] [],.s [2] [],.s [] [],.s [0] [],.s [] [],.s [] [],.s [] [],.s [] [],.s [] [],.s [] [],.s [] [],.s [3] [5,3],.s [] [],.s [2,5] [2]] (.a)) (.reg [0,1,0,4,0,0,48,112,0,256,768,2032,4092,8188,16380,32767,65535,131071] [0,1,2,3,4,5,6,7,8,9,10,11,12,13,14,15,16,17] [.s [] [],.s [2] [],.s [] [],.s [0] [],.s [] [],.s [] [],.s [] [],.s [] [],.s [] [],.s [0] [],.s [] [],.s [] [],.s [] [],.s [] [],.s [] [],.s [4] [5,4],.s [] [],.s [2,5] [2]] (.a)))))) (.a)))))) (.a)))
noncomputable def m29 : ((Int × (List (Int × Int × Int × Int)) × List (Int × Int × Int × Int × Int)) × List Int) → Option (Int × (List (Int × Int × Int × Int)) × List (Int × Int × Int × Int × Int)) :=
  fun (x : (Int × List (Int × Int × Int × Int) × List (Int × Int × Int × Int × Int)) × List Int) => Option.bind (loopM (fun (s : Int × Int × List (Int × Int × Int
  × Int) × List (Int × Int × Int × Int × Int)) => bif ltM s.1 (lenM x.2) then Option.bind (Option.bind (idxM x.2 s.1) fun (r : Int) => bif ltM r (lenM x.1.2.1)
  then Option.bind (idxM x.2 s.1) fun (r_1 : Int) => Option.bind (idxM x.1.2.1 r_1) fun (r_2 : Int × Int × Int × Int) => Option.bind (appM (nat_lit 32) s.2.2.1
  [(r_2.1, r_2.2.1, r_2.2.2.1, r_2.2.2.2)]) fun (r : List (Int × Int × Int × Int)) => some (s.2.1, r, s.2.2.2) else Option.bind (idxM x.2 s.1) fun (r_1 : Int)
  => Option.bind (idxM x.1.2.2 (IntKind.wrap IntKind.i64 (r_1 - lenM x.1.2.1))) fun (r_2 : Int × Int × Int × Int × Int) => Option.bind (appM (nat_lit 40)
  s.2.2.2 [(r_2.1, r_2.2.1, r_2.2.2.1, r_2.2.2.2.1, r_2.2.2.2.2)]) fun (r : List (Int × Int × Int × Int × Int)) => some (s.2.1, s.2.2.1, r)) fun (o : Int × List
  (Int × Int × Int × Int) × List (Int × Int × Int × Int × Int)) => some (Sum.inl (IntKind.wrap IntKind.i64 (s.1 + (1 : Int)), o.1, o.2.1, o.2.2)) else some
  (Sum.inr (s.2.1, s.2.2.1, s.2.2.2))) ((0 : Int), x.1.1, [], [])) fun (o : Int × List (Int × Int × Int × Int) × List (Int × Int × Int × Int × Int)) => some
  (o.1, o.2.1, o.2.2)
theorem c29 : SpecOK Try.prog 29 ⟨as29, rs29, m29⟩ :=
  fnM_ok (own := []) (an := an29) (n := 400) tabs28OK (F := OPS) OPS_sound OPS_nice (f := 29) (fn := Try.f29) (code := Try.f29.body.getD .skip) (by kernel_rfl) (by kernel_rfl) (by kernel_rfl) fun x => by kernel_rfl
noncomputable def tabs29 : Tabs := Tabs.add tabs28 29 ⟨as29, rs29, m29⟩
theorem tabs29OK : TabOK Try.prog tabs29 := TabOK.add tabs28OK c29 Try.call29
end Go.Proofs.Ytklddmmnggcffaa
/-
  Models of the functions of this seat, and that the functions compute them (printed by gen_models.py). No conditions.
-/
namespace Go.Proofs.Ytklddmmnggcffaa
open Go Go.Abs Go.PE Go.Proofs
set_option linter.unusedVariables false
set_option maxRecDepth 100000

/-! putlog/putloglaw10.NetworkBlames -/
def as7 : List Ty := [(.pair (.list (.pair tI tI)) (.pair (.list tI) (.pair (.list (.pair tI (.pair tI (.pair tI tI)))) (.pair (.list (.pair tI (.pair tI (.pair tI (.pair tI tI))))) (.pair tI (.pair tI tI)))))), (.list tI)]
def rs7 : List Ty := [.bool]
noncomputable def an7 : Ann := .seq (.a) (.seq (.a) (.seq (.a) (.seq (.a) (.seq (.a) (.seq (.a) (.seq (.a) (.seq (.a) (.seq (.a) (.seq (.a) (.seq (.seq (.a) (.block (.loop ⟨[(14,.r (.c (.d (.d tI))))],[66,67,68,69,70,71,72,73,74,75,76,77,78,79,80,81,82,83,84,85,86,87,88,89,90,91,92,93,94,95,96,97,98,99,100,101],[],[]⟩ [(.exit 0,⟨[],[14,66,67,68,69,70,71,72,73,74,75,76,77,78,79,80,81,82,83,84,85,86,87,88,89,90,91,92,93,94,95,96,97,98,99,100,101],[],[]⟩),(.ret,⟨[(4,.r (.c (.d (.d .bool))))],[14,66,67,68,69,70,71,72,73,74,75,76,77,78,79,80,81,82,83,84,85,86,87,88,89,90,91,92,93,94,95,96,97,98,99,100,101],[],[]⟩)] (.seq (.a) (.seq (.block (.seq (.reg [0,0,3,7,15,31,63,63,255,511,63,2047,4095,8191,16383,32767,65535,131071,131071,524287,1048575,131071,131071,4325375,12713983,31588351,65142783,134217727,268435455,536870911] [0,1,2,3,4,5,6,7,8,9,10,11,12,13,14,15,16,17,18,19,20,21,22,23,24,25,26,27,28,29] [.s [] [],.s [] [],.s [] [],.s [] [],.s [] [],.s [] [],.s [] [],.s [] [],.s [] [],.s [] [],.s [] [],.s [] [],.s [] [],.s [] [],.s [] [],.s [] [],.s [] [],.s [] [],.s [] [],.s [] [],.s [] [],.s [] [],.s [] [],.s [] [],.s [] [],.s [] [],.s [] [],.s [] [],.s [] [],.s [] []] (.a)) (.a))) (.a)))))) (.seq (.a) (.seq (.a) (.seq (.seq (.a) (.block (.loop ⟨[(17,.r (.c (.d (.d tI))))],[18,19,116,117,118,119,120,121,122,123,124,125,126,127,128,129,130,131,132,133,134,135,136,137,138],[],[]⟩ [(.exit 2,⟨[],[17,18,19,116,117,118,119,120,121,122,123,124,125,126,127,128,129,130,131,132,133,134,135,136,137,138],[],[]⟩),(.ret,⟨[(4,.r (.c (.d (.d .bool))))],[17,18,19,116,117,118,119,120,121,122,123,124,125,126,127,128,129,130,131,132,133,134,135,136,137,138],[],[]⟩)] (.seq (.a) (.seq (.block (.seq (.reg [0,0,0,0,12,30,0,0,128,448,1022,2047,4095,8191,16383,16383,32767,131071] [0,1,2,3,4,5,6,7,8,9,10,11,12,13,14,15,16,17] [.s [1] [],.s [] [],.s [] [],.s [] [],.s [] [],.s [] [2],.s [] [],.s [] [],.s [] [],.s [] [],.s [2] [3,2],.s [3] [3],.s [] [],.s [] [],.s [] [],.s [] [],.s [] [],.s [] []] (.a)) (.a))) (.a)))))) (.seq (.a) (.seq (.seq (.a) (.block (.loop ⟨[(20,.r (.c (.h 2))),(21,.r (.c (.d (.d tI))))],[139,140,141,142,143,144,145,146,147,148,149,150,151,152,153,154,155,156,157,158,159,160,161],[],[.arr tI]⟩ [(.exit 4,⟨[(20,.r (.c (.h 2)))],[21,139,140,141,142,143,144,145,146,147,148,149,150,151,152,153,154,155,156,157,158,159,160,161],[],[.arr tI]⟩)] (.a)))) (.a))))))))))))))))
noncomputable def m7 : (((List (Int × Int)) × List Int × (List (Int × Int × Int × Int)) × (List (Int × Int × Int × Int × Int)) × Int × Int × Int) × List Int) → Option (Bool) :=
  fun (x : (List (Int × Int) × List Int × List (Int × Int × Int × Int) × List (Int × Int × Int × Int × Int) × Int × Int × Int) × List Int) => Option.bind (m8 ())
  fun (r : Bool) => bif PE.notM r then some false else Option.bind (m9 (x.1.1, x.1.2.1, x.1.2.2.1, x.1.2.2.2.1, x.1.2.2.2.2.1, x.1.2.2.2.2.2.1,
  x.1.2.2.2.2.2.2)) fun (r_1 : Int × List (Int × Int × Int × Int) × List (Int × Int × Int × Int × Int)) => Option.bind (m10 (r_1.1, r_1.2.1, r_1.2.2)) fun (r_2
  : List Int × Bool) => Option.bind (m13 ((r_1.1, r_1.2.1, r_1.2.2), (0 : Int))) fun (r_3 : Int × List (Int × Int × Int)) => Option.bind (m28 (r_3.1, r_3.2))
  fun (r_4 : List Int × Int) => Option.bind (m13 ((r_1.1, r_1.2.1, r_1.2.2), (1 : Int))) fun (r_5 : Int × List (Int × Int × Int)) => Option.bind (m28 (r_5.1,
  r_5.2)) fun (r_6 : List Int × Int) => bif eqbM r_2.2 (PE.andM (eqM r_4.2 (0 : Int)) (eqM r_6.2 (0 : Int))) then some false else bif PE.notM r_2.2 then some
  (eqM (lenM r_2.1) (0 : Int)) else Option.bind (loopM (fun (s : Int) => bif ltM s (lenM r_2.1) then Option.bind (idxM r_2.1 s) fun (r_7 : Int) => Option.bind
  (bif PE.notM (ltM r_7 (0 : Int)) then idxM r_2.1 s else some (0 : Int)) fun (r_8 : Int) => Option.bind (bif PE.andM (PE.notM (PE.orM (ltM r_7 (0 : Int)) (leM
  (IntKind.wrap IntKind.i64 (lenM r_1.2.1 + lenM r_1.2.2)) r_8))) (ltM (0 : Int) s) then idxM r_2.1 s else some (0 : Int)) fun (r_9 : Int) => Option.bind (bif
  PE.andM (PE.notM (PE.orM (ltM r_7 (0 : Int)) (leM (IntKind.wrap IntKind.i64 (lenM r_1.2.1 + lenM r_1.2.2)) r_8))) (ltM (0 : Int) s) then idxM r_2.1 (max
  (IntKind.wrap IntKind.i64 (s - (1 : Int))) (0 : Int)) else some (0 : Int)) fun (r : Int) => bif PE.orM (PE.orM (ltM r_7 (0 : Int)) (leM (IntKind.wrap
  IntKind.i64 (lenM r_1.2.1 + lenM r_1.2.2)) r_8)) (PE.andM (ltM (0 : Int) s) (leM r_9 r)) then some (Sum.inr (Sum.inr false)) else some (Sum.inl (IntKind.wrap
  IntKind.i64 (s + (1 : Int)))) else some (Sum.inr (Sum.inl ()))) (0 : Int)) fun (o : Unit ⊕ Bool) => Sum.elim (fun (t : Unit) => Option.bind (m29 ((r_1.1,
  r_1.2.1, r_1.2.2), r_2.1)) fun (r_7 : Int × List (Int × Int × Int × Int) × List (Int × Int × Int × Int × Int)) => Option.bind (m10 (r_7.1, r_7.2.1, r_7.2.2))
  fun (r_8 : List Int × Bool) => bif PE.orM (PE.notM r_8.2) (eqM (lenM r_2.1) (0 : Int)) then some false else Option.bind (loopM (fun (s : Int) => bif ltM s
  (lenM r_2.1) then Option.bind (sliceM r_2.1 (0 : Int) s) fun (r_9 : List Int) => Option.bind (appM (nat_lit 8) [] r_9) fun (r_10 : List Int) => Option.bind
  (sliceM r_2.1 (IntKind.wrap IntKind.i64 (s + (1 : Int))) (lenM r_2.1)) fun (r_11 : List Int) => Option.bind (appM (nat_lit 8) r_10 r_11) fun (r_12 : List Int)
  => Option.bind (m29 ((r_1.1, r_1.2.1, r_1.2.2), r_12)) fun (r_13 : Int × List (Int × Int × Int × Int) × List (Int × Int × Int × Int × Int)) => Option.bind
  (m10 (r_13.1, r_13.2.1, r_13.2.2)) fun (r : List Int × Bool) => bif r.2 then some (Sum.inr (Sum.inr false)) else some (Sum.inl (IntKind.wrap IntKind.i64 (s +
  (1 : Int)))) else some (Sum.inr (Sum.inl ()))) (0 : Int)) fun (o : Unit ⊕ Bool) => Sum.elim (fun (t : Unit) => Option.bind (loopM (fun (s : Int × List Int) =>
  bif PE.andM (ltM s.1 (lenM x.2)) (ltM (lenM s.2) (IntKind.wrap IntKind.i64 (lenM r_2.1 - (1 : Int)))) then Option.bind (idxM x.2 s.1) fun (r_9 : Int) =>
  Option.bind (m15 (r_9, IntKind.wrap IntKind.i64 (lenM r_1.2.1 + lenM r_1.2.2))) fun (r_10 : Int) => Option.bind (appM (nat_lit 8) s.2 [r_10]) fun (r : List
  Int) => some (Sum.inl (IntKind.wrap IntKind.i64 (s.1 + (1 : Int)), r)) else some (Sum.inr s.2)) ((0 : Int), [])) fun (o : List Int) => Option.bind (m29
  ((r_1.1, r_1.2.1, r_1.2.2), o)) fun (r_9 : Int × List (Int × Int × Int × Int) × List (Int × Int × Int × Int × Int)) => Option.bind (m10 (r_9.1, r_9.2.1,
  r_9.2.2)) fun (r : List Int × Bool) => some (PE.notM r.2)) (fun (t : Bool) => some t) o) (fun (t : Bool) => some t) o
theorem c7 : SpecOK Try.prog 7 ⟨as7, rs7, m7⟩ :=
  fnM_ok (own := []) (an := an7) (n := 400) tabs29OK (F := OPS) OPS_sound OPS_nice (f := 7) (fn := Try.f7) (code := Try.f7.body.getD .skip) (by kernel_rfl) (by kernel_rfl) (by kernel_rfl) fun x => by kernel_rfl
noncomputable def tabs7 : Tabs := Tabs.add tabs29 7 ⟨as7, rs7, m7⟩
theorem tabs7OK : TabOK Try.prog tabs7 := TabOK.add tabs29OK c7 Try.call7
end Go.Proofs.Ytklddmmnggcffaa
/-
  Models that can be run: a loop with a bound on its rounds answers less than the loop.
  No conditions.
-/
namespace Go.PE
/-- a answers no more than b. -/
def Le {α : Type} (a b : Option α) : Prop := ∀ r, a = some r → b = some r
theorem Le.refl {α : Type} (a : Option α) : Le a a := fun _ h => h
theorem Le.bind {α β : Type} {a a' : Option α} {f f' : α → Option β} (h : Le a a') (hf : ∀ x, Le (f x) (f' x)) : Le (Option.bind a f) (Option.bind a' f') := by
  intro r hr
  cases a with
  | none => cases hr
  | some x =>
    rw [h x rfl]
    exact hf x r hr
theorem Le.cond {α : Type} {c : Bool} {a a' b b' : Option α} (h : Le a a') (h' : Le b b') : Le (cond c a b) (cond c a' b') := by
  cases c
  · exact h'
  · exact h
theorem Le.elim {α β γ : Type} {f f' : α → Option γ} {g g' : β → Option γ} (hf : ∀ x, Le (f x) (f' x)) (hg : ∀ x, Le (g x) (g' x)) (x : α ⊕ β) : Le (Sum.elim f g x) (Sum.elim f' g' x) := by
  cases x with
  | inl a => exact hf a
  | inr b => exact hg b
theorem Le.iter {σ β : Type} {body body' : σ → Option (σ ⊕ β)} (h : ∀ s, Le (body s) (body' s)) : ∀ (n : Nat) (s : σ), Le (iterM body n s) (iterM body' n s)
  | 0, _ => Le.refl _
  | n + 1, s => by
    unfold iterM
    exact Le.bind (h s) fun x => Le.elim (Le.iter h n) (fun _ => Le.refl _) x
/-- A loop of at most 4096 rounds. -/
def loopF {σ β : Type} (body : σ → Option (σ ⊕ β)) (s : σ) : Option β := iterM body 4096 s
theorem Le.loop {σ β : Type} {body body' : σ → Option (σ ⊕ β)} (h : ∀ s, Le (body s) (body' s)) (s : σ) : Le (loopF body s) (loopM body' s) :=
  fun r hr => loopM_iff.2 ⟨4096, Le.iter h 4096 s r hr⟩
/-- Of a list that is not empty. -/
def nilF {α β : Type} (xs : List α) (a b : Option β) : Option β := match xs with
  | [] => none
  | _ :: _ => b
theorem Le.nil {α β : Type} {xs : List α} {a a' b b' : Option β} (h : Le b b') : Le (nilF xs a b) (nilM xs a' b') := by
  cases xs with
  | nil => intro r hr; cases hr
  | cons x xs => exact h
theorem Le.out {α : Type} {a b : Option α} (h : Le a b) {r : α} (e : a = some r) : b = some r := h r e
attribute [irreducible] Le
end Go.PE
/-
  What is known of a law's arguments (ranges, lengths), and plain laws of the words of models.
  No conditions.
-/
namespace Go.PE
open Go Go.Abs
/-- Integers are in their ranges, lists are not longer than a slice can be. -/
def InR : (t : Ty) → t.den → Prop
  | .int k, x => k.has x
  | .bool, _ => True
  | .str, x => List.length x ≤ maxLen
  | .list t, xs => List.length xs ≤ maxLen ∧ ∀ (i : Nat) (x : t.den), xs[i]? = some x → InR t x
  | .one t, x => InR t x
  | .pair a b, x => InR a x.1 ∧ InR b x.2
def OkT : (l : List Ty) → Tup (l.map .d) → Prop
  | [], _ => True
  | [t], x => InR t x
  | t :: u :: r, x => InR t x.1 ∧ OkT (u :: r) x.2
section
variable {S : Cells} {w : World} {η : Eta}
theorem Rep.ok : ∀ {t : Ty} {x : t.den} {cs : List Value}, Rep S w t x cs → InR t x
  | .int _, _, _, h => h.2
  | .bool, _, _, _ => trivial
  | .str, _, _, h => h.2
  | .list t, xs, _, h => by
    obtain ⟨base, cap, rfl, h1, h2, h3⟩ := h
    refine ⟨Nat.le_trans h1 h2, fun i x hx => ?_⟩
    rcases h3 with h3 | ⟨b, off, _, h3⟩
    · have : xs = [] := List.length_eq_zero_iff.1 h3
      rw [this] at hx
      cases hx
    · obtain ⟨es, h4, _⟩ := h3 i x hx
      exact Rep.ok h4
  | .one t, x, cs, h => by
    have h' : Rep S w t x cs := h
    exact Rep.ok (t := t) h'
  | .pair a b, x, cs, h => by
    obtain ⟨c1, c2, rfl, h1, h2⟩ := h
    exact ⟨Rep.ok h1, Rep.ok h2⟩
theorem cv_ok : ∀ {t : Ty} {x : t.den} {vs : List Value}, All2 (CM S w η) (t.cv x) vs → InR t x
  | .int _, _, _, .cons h .nil => let ⟨_, a, _⟩ := h.2; Rep.ok a
  | .bool, _, _, _ => trivial
  | .str, _, _, .cons h .nil => let ⟨_, a, _⟩ := h.2; Rep.ok a
  | .list _, _, _, .cons h .nil => let ⟨_, a, _⟩ := h.2; Rep.ok a
  | .one t, x, vs, h => by
    have h' : All2 (CM S w η) (t.cv x) vs := h
    exact cv_ok (t := t) h'
  | .pair a b, x, vs, h => by
    have h' : All2 (CM S w η) (a.cv x.1 ++ b.cv x.2) vs := h
    obtain ⟨b1, b2, rfl, h1, h2⟩ := All2.split h'
    exact ⟨cv_ok h1, cv_ok h2⟩
theorem rv_ok {t : Ty} {x : t.den} {v : Value} (h : RM S w η (t.rv x) v) : InR t x := by
  unfold Ty.rv at h
  split at h
  · obtain ⟨vs, _, h2⟩ := h
    exact cv_ok h2
  · obtain ⟨_, cs, h2, _⟩ := h
    exact Rep.ok h2
theorem rvs_ok : ∀ {l : List Ty} {x : Tup (l.map .d)} {vs : List Value}, All2 (RM S w η) (rvs l x) vs → OkT l x
  | [], _, _, _ => trivial
  | [t], x, _, .cons h .nil => rv_ok h
  | t :: u :: r, x, _, h => by
    have h' : All2 (RM S w η) (t.rv x.1 :: rvs (u :: r) x.2) _ := h
    cases h' with
    | cons h1 h2 => exact ⟨rv_ok h1, rvs_ok (l := u :: r) h2⟩
end
/-- A law whose model is true of all data in range. -/
theorem law_of_ok {args : List Ty} {m : Tup (args.map .d) → Option Bool} (h : ∀ x, OkT args x → m x = some true) :
    ∀ (S : Cells) (w : World) (η : Eta) (vs : List Value) x, All2 (RM S w η) (rvs args x) vs → m x = some true := fun _ _ _ _ x hx => h x (rvs_ok hx)

/-! ### words -/
theorem wrap_in {n : Int} (h1 : -9223372036854775808 ≤ n) (h2 : n ≤ 9223372036854775807) : IntKind.wrap IntKind.i64 n = n := Go.IntWalk.i64_in n ⟨h1, h2⟩
theorem idxM_nat {α : Type} (xs : List α) (i : Nat) : idxM xs (i : Int) = xs[i]? := by
  unfold idxM
  rw [decide_eq_true (by omega : (0 : Int) ≤ i)]
  simp
theorem idxM_lt {α : Type} {xs : List α} {i : Nat} (h : i < xs.length) : idxM xs (i : Int) = some xs[i] := by
  rw [idxM_nat, List.getElem?_eq_getElem h]
theorem idxM_of {α : Type} {xs : List α} {i : Int} (h0 : 0 ≤ i) (h : i < xs.length) : idxM xs i = some (xs[i.toNat]'(by omega)) := by
  unfold idxM
  rw [decide_eq_true h0]
  exact List.getElem?_eq_getElem _
theorem chkM_of {i n : Int} (h0 : 0 ≤ i) (h : i < n) : chkM i n = some () := by
  unfold chkM
  rw [decide_eq_true h0, decide_eq_true h]
theorem appM_of {α : Type} {b : Nat} {xs ys : List α} (h : (xs.length + ys.length) * b ≤ 140737488355328) : appM b xs ys = some (xs ++ ys) := by
  unfold appM
  rw [decide_eq_true h]
theorem mkM_of {α : Type} {n c : Int} {b : Nat} {d : α} (h0 : 0 ≤ n) (h : n ≤ c) (hb : c * b ≤ 140737488355328) : mkM n c b d = some (List.replicate n.toNat d) := by
  unfold mkM
  rw [decide_eq_true h0, decide_eq_true h, decide_eq_true hb]
theorem setM_of {α : Type} {xs : List α} {i : Int} {f : α → Option α} {y : α} (h0 : 0 ≤ i) (h : i < xs.length) (hy : f (xs[i.toNat]'(by omega)) = some y) : setM xs i f = some (xs.set i.toNat y) := by
  unfold setM
  rw [idxM_of h0 h]
  simp only [hy]
theorem sliceM_of {α : Type} {xs : List α} {lo hi : Int} (h0 : 0 ≤ lo) (h : lo ≤ hi) (h2 : hi ≤ xs.length) : sliceM xs lo hi = some ((xs.take hi.toNat).drop lo.toNat) := by
  unfold sliceM
  rw [decide_eq_true h0, decide_eq_true h, decide_eq_true h2]
theorem sameM_self (i : Int) : sameM i i = some () := by
  unfold sameM
  rw [decide_eq_true rfl]
theorem set2M_of {α : Type} {xss : List (List α)} {i j : Int} {f : α → Option α} {y : α} (h0 : 0 ≤ i) (h : i < xss.length) (h1 : 0 ≤ j) (h2 : j < (xss[i.toNat]'(by omega)).length)
    (hy : f ((xss[i.toNat]'(by omega))[j.toNat]'(by omega)) = some y) : set2M xss i j f = some (xss.set i.toNat ((xss[i.toNat]'(by omega)).set j.toNat y)) := by
  unfold set2M
  rw [idxM_of h0 h]
  simp only [setM_of h1 h2 hy]
theorem app2M_of {α : Type} {b : Nat} {xss : List (List α)} {i : Int} {ys : List α} (h0 : 0 ≤ i) (h : i < xss.length) (hb : ((xss[i.toNat]'(by omega)).length + ys.length) * b ≤ 140737488355328) :
    app2M b xss i ys = some (xss.set i.toNat ((xss[i.toNat]'(by omega)) ++ ys)) := by
  unfold app2M
  rw [idxM_of h0 h]
  simp only [appM_of hb]
/-- A loop by an invariant on a count of its rounds. -/
theorem loopM_inv {σ β : Type} {body : σ → Option (σ ⊕ β)} (P : Nat → σ → Prop) (Q : β → Prop) (n : Nat)
    (h : ∀ k s, k ≤ n → P k s → (∃ s', k < n ∧ body s = some (.inl s') ∧ P (k + 1) s') ∨ ∃ r, body s = some (.inr r) ∧ Q r) :
    ∀ (m k : Nat) (s : σ), n - k = m → k ≤ n → P k s → ∃ r, loopM body s = some r ∧ Q r := by
  intro m
  induction m with
  | zero =>
    intro k s hm hk hP
    rcases h k s hk hP with ⟨s', hlt, _⟩ | ⟨r, h1, h2⟩
    · omega
    · exact ⟨r, by rw [loopM_eq, h1]; rfl, h2⟩
  | succ m ih =>
    intro k s hm hk hP
    rcases h k s hk hP with ⟨s', hlt, h1, h2⟩ | ⟨r, h1, h2⟩
    · obtain ⟨r, h3, h4⟩ := ih (k + 1) s' (by omega) (by omega) h2
      exact ⟨r, by rw [loopM_eq, h1]; exact h3, h4⟩
    · exact ⟨r, by rw [loopM_eq, h1]; rfl, h2⟩
theorem loopM_from {σ β : Type} {body : σ → Option (σ ⊕ β)} (P : Nat → σ → Prop) (Q : β → Prop) (n : Nat) {s : σ} (h0 : P 0 s)
    (h : ∀ k s, k ≤ n → P k s → (∃ s', k < n ∧ body s = some (.inl s') ∧ P (k + 1) s') ∨ ∃ r, body s = some (.inr r) ∧ Q r) : ∃ r, loopM body s = some r ∧ Q r :=
  loopM_inv P Q n h n 0 s (by omega) (by omega) h0
/-- A loop whose states are known. -/
theorem loopM_fn {σ β : Type} {body : σ → Option (σ ⊕ β)} (g : Nat → σ) (n : Nat) {r : β} (h : ∀ k, k < n → body (g k) = some (.inl (g (k + 1)))) (he : body (g n) = some (.inr r)) : loopM body (g 0) = some r := by
  obtain ⟨r', h1, h2⟩ := loopM_from (body := body) (fun k s => s = g k) (fun x => x = r) n (s := g 0) rfl fun k s hk hs => by
    subst hs
    by_cases hlt : k < n
    · exact .inl ⟨_, hlt, h k hlt, rfl⟩
    · have : k = n := by omega
      subst this
      exact .inr ⟨r, he, rfl⟩
  rw [h1, h2]
/-- A search for the first place. -/
theorem find_loop {α : Type} {xs : List α} (p : α → Bool) {body : Int → Option (Int ⊕ (Unit ⊕ Int))}
    (hb : ∀ k (hk : k < xs.length), body (k : Int) = some (bif p xs[k] then .inr (.inr (k : Int)) else .inl ((k : Int) + 1))) (he : body (xs.length : Int) = some (.inr (.inl ()))) :
    ∃ o, loopM body 0 = some o ∧ ((o = .inl () ∧ ∀ k (hk : k < xs.length), p xs[k] = false) ∨ ∃ k, ∃ hk : k < xs.length, o = .inr (k : Int) ∧ p xs[k] = true ∧ ∀ j (hj : j < k), p (xs[j]'(by omega)) = false) := by
  refine loopM_from (fun k s => s = (k : Int) ∧ ∀ j (hj : j < xs.length), j < k → p xs[j] = false) _ xs.length (s := 0) ⟨rfl, fun j _ hj => by omega⟩ fun k s hk ⟨hs, hP⟩ => ?_
  subst hs
  by_cases hlt : k < xs.length
  · cases hp : p xs[k] with
    | true => exact .inr ⟨.inr (k : Int), by rw [hb k hlt, hp]; rfl, .inr ⟨k, hlt, rfl, hp, fun j hj => hP j (by omega) hj⟩⟩
    | false =>
      refine .inl ⟨((k + 1 : Nat) : Int), hlt, by rw [hb k hlt, hp]; rfl, rfl, fun j hj hjk => ?_⟩
      by_cases e : j = k
      · subst e; exact hp
      · exact hP j hj (by omega)
  · have : k = xs.length := by omega
    subst this
    exact .inr ⟨_, he, .inl ⟨rfl, fun j hj => hP j hj hj⟩⟩
theorem any_loop {α : Type} {xs : List α} (p : α → Bool) {body : Int → Option (Int ⊕ (Unit ⊕ Int))}
    (hb : ∀ k (hk : k < xs.length), body (k : Int) = some (bif p xs[k] then .inr (.inr (k : Int)) else .inl ((k : Int) + 1))) (he : body (xs.length : Int) = some (.inr (.inl ()))) :
    Option.bind (Option.bind (loopM body 0) (fun o => Sum.elim (fun _ => some (-1 : Int)) (fun t => some t) o)) (fun ov => some (leM 0 ov)) = some (xs.any p) := by
  obtain ⟨o, h1, h2⟩ := find_loop p hb he
  rw [h1]
  rcases h2 with ⟨rfl, h2⟩ | ⟨k, hk, rfl, h2, _⟩
  · have : xs.any p = false := by
      rw [List.any_eq_false]
      intro x hx
      obtain ⟨i, hi, rfl⟩ := List.mem_iff_getElem.1 hx
      simp [h2 i hi]
    rw [this]
    rfl
  · have : xs.any p = true := List.any_eq_true.2 ⟨_, List.getElem_mem hk, h2⟩
    rw [this]
    show some (decide ((0 : Int) ≤ (k : Int))) = some true
    rw [decide_eq_true (by omega)]
end Go.PE
/-
  Tables as functions: rows of given lengths.
  No conditions.
-/
namespace Go.PE
open Go Go.Abs
/-- The first m values of g. -/
def row {α : Type} (m : Nat) (g : Nat → α) : List α := (List.range m).map g
/-- n rows, the i-th of len i values. -/
def rt {α : Type} (n : Nat) (len : Nat → Nat) (d : Nat → Nat → α) : List (List α) := row n fun i => row (len i) (d i)
def upd {α : Type} (d : Nat → Nat → α) (i j : Nat) (y : α) : Nat → Nat → α := fun a b => if a = i ∧ b = j then y else d a b
def upl (len : Nat → Nat) (i m : Nat) : Nat → Nat := fun a => if a = i then m else len a
section
variable {α : Type}
theorem row_length (m : Nat) (g : Nat → α) : (row m g).length = m := by simp [row]
theorem rt_length (n : Nat) (len : Nat → Nat) (d : Nat → Nat → α) : (rt n len d).length = n := row_length _ _
theorem row_get {m : Nat} {g : Nat → α} {i : Nat} (h : i < m) : (row m g)[i]? = some (g i) := by simp [row, h]
theorem row_idx {m : Nat} {g : Nat → α} {i : Nat} (h : i < m) : idxM (row m g) (i : Int) = some (g i) := by rw [idxM_nat, row_get h]
theorem rt_idx {n : Nat} {len : Nat → Nat} {d : Nat → Nat → α} {i : Nat} (h : i < n) : idxM (rt n len d) (i : Int) = some (row (len i) (d i)) := row_idx h
theorem row_congr {m : Nat} {g g' : Nat → α} (h : ∀ i, i < m → g i = g' i) : row m g = row m g' := by
  unfold row
  exact List.map_congr_left fun i hi => h i (List.mem_range.1 hi)
theorem rt_congr {n : Nat} {len len' : Nat → Nat} {d d' : Nat → Nat → α} (hl : ∀ i, i < n → len i = len' i) (h : ∀ i j, i < n → j < len i → d i j = d' i j) : rt n len d = rt n len' d' := by
  refine row_congr fun i hi => ?_
  rw [← hl i hi]
  exact row_congr fun j hj => h i j hi hj
theorem row_set {m : Nat} {g : Nat → α} {i : Nat} (h : i < m) (y : α) : (row m g).set i y = row m fun a => if a = i then y else g a := by
  apply List.ext_getElem?
  intro k
  rw [List.getElem?_set]
  by_cases hk : k < m
  · by_cases e : i = k
    · subst e
      rw [if_pos rfl, if_pos (by rw [row_length]; exact h), row_get h, if_pos rfl]
    · have e' : ¬ k = i := fun x => e x.symm
      simp [e, e', row_get hk]
  · have h1 : i ≠ k := by omega
    rw [if_neg h1, List.getElem?_eq_none (by rw [row_length]; omega), List.getElem?_eq_none (by rw [row_length]; omega)]
theorem row_succ (m : Nat) (g : Nat → α) : row (m + 1) g = row m g ++ [g m] := by simp [row, List.range_succ]
theorem row_zero (g : Nat → α) : row 0 g = [] := rfl
theorem replicate_row (n : Nat) (y : α) : List.replicate n y = row n fun _ => y := by
  apply List.ext_getElem?
  intro k
  by_cases hk : k < n
  · rw [row_get hk]; simp [hk]
  · rw [List.getElem?_eq_none (by simp; omega), List.getElem?_eq_none (by rw [row_length]; omega)]
theorem rt_app {n : Nat} {len : Nat → Nat} {d : Nat → Nat → α} {i b : Nat} (h : i < n) (hb : (len i + 1) * b ≤ 140737488355328) :
    app2M b (rt n len d) (i : Int) [d i (len i)] = some (rt n (upl len i (len i + 1)) d) := by
  unfold app2M
  rw [rt_idx h]
  have e : appM b (row (len i) (d i)) [d i (len i)] = some (row (len i + 1) (d i)) := by
    rw [appM_of (by rw [row_length]; simpa using hb), row_succ]
  simp only [e]
  have ht : ((i : Int)).toNat = i := by omega
  rw [ht]
  unfold rt
  rw [row_set h]
  congr 1
  refine row_congr fun a _ => ?_
  unfold upl
  by_cases e : a = i
  · subst e; simp
  · simp [e]
theorem rt_set {n : Nat} {len : Nat → Nat} {d : Nat → Nat → α} {i j : Nat} {f : α → Option α} {y : α} (h : i < n) (hj : j < len i) (hy : f (d i j) = some y) :
    set2M (rt n len d) (i : Int) (j : Int) f = some (rt n len (upd d i j y)) := by
  unfold set2M
  rw [rt_idx h]
  have e : setM (row (len i) (d i)) (j : Int) f = some (row (len i) (upd d i j y i)) := by
    unfold setM
    rw [row_idx hj]
    simp only [hy]
    have ht : ((j : Int)).toNat = j := by omega
    rw [ht, row_set hj]
    congr 1
    refine row_congr fun b _ => ?_
    unfold upd
    by_cases e : b = j <;> simp [e]
  simp only [e]
  have ht : ((i : Int)).toNat = i := by omega
  rw [ht]
  unfold rt
  rw [row_set h]
  congr 1
  refine row_congr fun a _ => ?_
  by_cases e : a = i
  · subst e; simp
  · rw [if_neg e]
    refine row_congr fun b _ => ?_
    unfold upd
    simp [e]
end
theorem bind_of {α β : Type} {o : Option α} {x : α} {f : α → Option β} {r : Option β} (h : o = some x) (h2 : f x = r) : Option.bind o f = r := by
  rw [h]; exact h2
/-- A loop by an invariant, to a result that is known. -/
theorem loopM_is {σ β : Type} {body : σ → Option (σ ⊕ β)} {s : σ} {r : β} (P : Nat → σ → Prop) (n : Nat) (h0 : P 0 s)
    (h : ∀ k s, k ≤ n → P k s → (∃ s', k < n ∧ body s = some (.inl s') ∧ P (k + 1) s') ∨ body s = some (.inr r)) : loopM body s = some r := by
  obtain ⟨r', h1, h2⟩ := loopM_from P (fun x => x = r) n h0 fun k s hk hP => by
    rcases h k s hk hP with h | h
    · exact .inl h
    · exact .inr ⟨r, h, rfl⟩
  rw [h1, h2]
/-- A loop that counts from 0 to n over states that are known. -/
theorem count_loop {σ β : Type} {body : Int × σ → Option ((Int × σ) ⊕ β)} (g : Nat → σ) (n : Nat) {r : β} (h : ∀ k, k < n → body ((k : Int), g k) = some (.inl ((k : Int) + 1, g (k + 1)))) (he : body ((n : Int), g n) = some (.inr r)) :
    loopM body ((0 : Int), g 0) = some r :=
  loopM_fn (fun k => ((k : Int), g k)) n (fun k hk => h k hk) he
end Go.PE
/-
  What a model answers: rules for binds, conditions and loops with invariants.
  No conditions.
-/
namespace Go.PE
open Go Go.Abs
/-- The model answers, and the answer is as Q says. -/
def Ans {α : Type} (o : Option α) (Q : α → Prop) : Prop := ∃ r, o = some r ∧ Q r
theorem Ans.is {α : Type} {o : Option α} {r : α} (h : Ans o (fun x => x = r)) : o = some r := by
  obtain ⟨x, h1, h2⟩ := h
  rw [h1, h2]
theorem Ans.of {α : Type} {o : Option α} {r : α} {Q : α → Prop} (h : o = some r) (hQ : Q r) : Ans o Q := ⟨r, h, hQ⟩
theorem Ans.some {α : Type} {r : α} {Q : α → Prop} (hQ : Q r) : Ans (some r) Q := ⟨r, rfl, hQ⟩
theorem Ans.mono {α : Type} {o : Option α} {P Q : α → Prop} (h : Ans o P) (hQ : ∀ x, P x → Q x) : Ans o Q := by
  obtain ⟨x, h1, h2⟩ := h
  exact ⟨x, h1, hQ x h2⟩
theorem Ans.bind {α β : Type} {o : Option α} {f : α → Option β} {P : α → Prop} {Q : β → Prop} (h : Ans o P) (hf : ∀ x, P x → Ans (f x) Q) : Ans (Option.bind o f) Q := by
  obtain ⟨x, h1, h2⟩ := h
  rw [h1]
  exact hf x h2
theorem Ans.seq {α β : Type} {o : Option α} {f : α → Option β} {x : α} {Q : β → Prop} (h : o = Option.some x) (hf : Ans (f x) Q) : Ans (Option.bind o f) Q := by
  rw [h]
  exact hf
theorem Ans.cond {α : Type} {c : Bool} {a b : Option α} {Q : α → Prop} (ht : c = true → Ans a Q) (hf : c = false → Ans b Q) : Ans (bif c then a else b) Q := by
  cases c
  · exact hf rfl
  · exact ht rfl
/-- How a round goes on. -/
def Nxt {σ β : Type} (P : σ → Prop) (Q : β → Prop) : σ ⊕ β → Prop
  | .inl s => P s
  | .inr r => Q r
theorem Ans.loop {σ β : Type} {body : σ → Option (σ ⊕ β)} {s : σ} {Q : β → Prop} (P : Nat → σ → Prop) (n : Nat) (h0 : P 0 s)
    (h : ∀ k s, k ≤ n → P k s → Ans (body s) (Nxt (fun s' => k < n ∧ P (k + 1) s') Q)) : Ans (loopM body s) Q := by
  refine loopM_from P Q n h0 fun k s hk hP => ?_
  obtain ⟨o, h1, h2⟩ := h k s hk hP
  cases o with
  | inl s' => exact .inl ⟨s', h2.1, h1, h2.2⟩
  | inr r => exact .inr ⟨r, h1, h2⟩
/-- A loop over all indices of which none stops it: an invariant on the index. -/
theorem ltI {a b : Int} (h : a < b) : ltM a b = true := decide_eq_true h
theorem geI {a b : Int} (h : b ≤ a) : ltM a b = false := decide_eq_false (by omega)
theorem leI {a b : Int} (h : a ≤ b) : leM a b = true := decide_eq_true h
theorem gtI {a b : Int} (h : b < a) : leM a b = false := decide_eq_false (by omega)
theorem eqI {a b : Int} (h : a = b) : eqM a b = true := decide_eq_true h
theorem neI {a b : Int} (h : a ≠ b) : eqM a b = false := decide_eq_false h
theorem notT : notM true = false := rfl
theorem notF : notM false = true := rfl
theorem orT (b : Bool) : orM true b = true := rfl
theorem orF (b : Bool) : orM false b = b := rfl
theorem andT (b : Bool) : andM true b = b := rfl
theorem andF (b : Bool) : andM false b = false := rfl
/-- A number put below n. -/
def pk (c n : Int) : Int := (if c < 0 then -(c + 1) else c) % n
theorem pk_lo {c n : Int} (h : 0 < n) : 0 ≤ pk c n := Int.emod_nonneg _ (by omega)
theorem pk_hi {c n : Int} (h : 0 < n) : pk c n < n := Int.emod_lt_of_pos _ h
theorem remM_of {a b : Int} (ha : 0 ≤ a) (hb : 0 < b) : remM a b = some (a % b) := by
  unfold remM
  rw [decide_eq_false (by omega)]
  show some (a.tmod b) = some (a % b)
  rw [Int.tmod_eq_emod_of_nonneg ha]
theorem divM_pos {k : IntKind} {a b : Int} (hb : b ≠ 0) : divM k a b = some (k.wrap (a.tdiv b)) := by
  unfold divM
  rw [decide_eq_false hb]
/-- The text of every 'pick'. -/
theorem pk_text {c n : Int} (hc : IntKind.i64.has c) (hn : 0 < n) :
    Option.bind (bif ltM c (0 : Int) then some (IntKind.wrap IntKind.i64 (negM (IntKind.wrap IntKind.i64 (c + (1 : Int))))) else some c) (fun (o : Int) => Option.bind (remM o n) fun (r : Int) => some r) = some (pk c n) := by
  have hc' : -9223372036854775808 ≤ c ∧ c ≤ 9223372036854775807 := hc
  unfold pk
  by_cases h : c < 0
  · rw [ltI h, cond_true, Option.bind_some, if_pos h, wrap_in (n := c + 1) (by omega) (by omega)]
    unfold negM
    rw [wrap_in (by omega) (by omega), remM_of (by omega) hn]
    rfl
  · rw [geI (by omega), cond_false, Option.bind_some, if_neg h, remM_of (by omega) hn]
    rfl
theorem row_idxI {α : Type} {m : Nat} {g : Nat → α} {i : Int} (h0 : 0 ≤ i) (h : i < m) : idxM (row m g) i = some (g i.toNat) := by
  obtain ⟨k, rfl⟩ := Int.eq_ofNat_of_zero_le h0
  exact row_idx (by omega)
theorem app_row {α : Type} {b m : Nat} {g : Nat → α} (hb : (m + 1) * b ≤ 140737488355328) : appM b (row m g) [g m] = some (row (m + 1) g) := by
  rw [appM_of (by rw [row_length]; simpa using hb), row_succ]
theorem app_rowOf {α : Type} {b m : Nat} {g : Nat → α} {y : α} (hy : y = g m) (hb : (m + 1) * b ≤ 140737488355328) : appM b (row m g) [y] = some (row (m + 1) g) := by
  rw [hy, app_row hb]
end Go.PE
/-
  Between, turned to this seat: valid systems; the sum of distances.
  No conditions.
-/
namespace Go.Proofs.Ytklddmmnggcffaa
open Go Go.Abs Go.PE
def bnd (n : Int) (c : Int × Int × Int) : Bool := decide (0 ≤ c.1 ∧ c.1 < n ∧ 0 ≤ c.2.1 ∧ c.2.1 < n ∧ -1000000000 ≤ c.2.2 ∧ c.2.2 ≤ 1000000000)
def sys (x : Int × List (Int × Int × Int)) : Bool := decide (0 ≤ x.1 ∧ x.1 ≤ 16 ∧ x.2.length ≤ 60) && x.2.all (bnd x.1)
theorem m63_eq {n : Int} (c : Int × Int × Int) (h0 : 0 ≤ n) (h1 : n ≤ 16) : m63 (n, c.1, c.2.1, c.2.2) = some (bnd n c) := by
  unfold m63 m60 bnd
  have e : ∀ a : Int, decide (a ≤ n - 1) = decide (a < n) := fun a => by
    by_cases h : a < n
    · rw [decide_eq_true h, decide_eq_true (by omega)]
    · rw [decide_eq_false h, decide_eq_false (by omega)]
  simp only [Option.bind_some, wrap_in (n := n - 1) (by omega) (by omega), Bool.decide_and, leM, e]
  generalize decide ((0 : Int) ≤ c.1) = p1
  generalize decide (c.1 < n) = p2
  generalize decide ((0 : Int) ≤ c.2.1) = p3
  generalize decide (c.2.1 < n) = p4
  generalize decide ((-1000000000 : Int) ≤ c.2.2) = p5
  generalize decide (c.2.2 ≤ (1000000000 : Int)) = p6
  cases p1 <;> cases p2 <;> cases p3 <;> cases p4 <;> cases p5 <;> cases p6 <;> rfl
theorem m36_eq (x : Int × List (Int × Int × Int)) : m36 x = some (sys x) := by
  unfold m36 m60
  simp only [Option.bind_some]
  by_cases h : 0 ≤ x.1 ∧ x.1 ≤ 16 ∧ x.2.length ≤ 60
  · obtain ⟨h0, h1, h2⟩ := h
    have e1 : PE.andM (leM (0 : Int) x.1) (leM x.1 (16 : Int)) = true := by simp [PE.andM, h0, h1]
    have e2 : leM (lenM x.2) (60 : Int) = true := decide_eq_true (by show (x.2.length : Int) ≤ 60; omega)
    rw [e1, e2]
    simp only [PE.andM, Bool.and_self, cond_true, Bool.true_and]
    rw [any_loop (xs := x.2) (fun c => !bnd x.1 c)]
    · simp [PE.notM, sys, h0, h1, h2, List.all_eq_not_any_not]
    · intro k hk
      have : ltM (k : Int) (lenM x.2) = true := decide_eq_true (by show (k : Int) < (x.2.length : Int); omega)
      rw [this, cond_true, idxM_lt hk, Option.bind_some, m63_eq _ h0 h1, Option.bind_some, wrap_in (by omega) (by omega)]
      unfold PE.notM
      cases bnd x.1 x.2[k] <;> rfl
    · have : ltM (x.2.length : Int) (lenM x.2) = false := by simp
      rw [this]; rfl
  · have e1 : PE.andM (PE.andM (leM (0 : Int) x.1) (leM x.1 (16 : Int))) (leM (lenM x.2) (60 : Int)) = false := by
      simp only [PE.andM, Bool.and_eq_false_iff]
      by_cases a : 0 ≤ x.1 <;> by_cases b : x.1 ≤ 16 <;> simp [a, b, leM, lenM] at h ⊢; omega
    rw [e1]
    simp [PE.andM, sys, h]
theorem m56_eq {a b : Int} : m56 (a, b) = some (if a = 1152921504606846976 ∨ b = 1152921504606846976 then 1152921504606846976 else IntKind.wrap IntKind.i64 (a + b)) := by
  unfold m56
  by_cases h : a = 1152921504606846976 <;> by_cases h' : b = 1152921504606846976 <;> simp [h, h', PE.orM, eqM]
end Go.Proofs.Ytklddmmnggcffaa
/-
  Between, turned to this seat: the table of no distances.
  No conditions.
-/
namespace Go.Proofs.Ytklddmmnggcffaa
open Go Go.Abs Go.PE
set_option linter.unusedVariables false
def d0 (i j : Nat) : Int := if i = j then 0 else 1152921504606846976
theorem m86_eq (i j : Nat) : m86 ((i : Int), (j : Int)) = some (d0 i j) := by
  unfold m86 d0
  by_cases h : i = j
  · subst h; simp [eqM]
  · have : ¬ ((i : Int) = (j : Int)) := by omega
    simp [eqM, h, this]
theorem lt_true {a b : Int} (h : a < b) : ltM a b = true := decide_eq_true h
theorem lt_false {a b : Int} (h : ¬ a < b) : ltM a b = false := decide_eq_false h
theorem none_rows {n : Nat} (hn : n ≤ 16) {i : Nat} (hi : i < n) :
    loopM (fun (s_1 : Int × List (List Int)) =>
      bif ltM s_1.1 (n : Int) then
        Option.bind (chkM (i : Int) (lenM s_1.2)) fun (r_1 : Unit) =>
          Option.bind (chkM (i : Int) (lenM s_1.2)) fun (r_2 : Unit) =>
            Option.bind (m86 ((i : Int), s_1.1)) fun (r_3 : Int) =>
              Option.bind (app2M (nat_lit 8) s_1.2 (i : Int) [r_3]) fun (r_4 : List (List Int)) =>
                Option.bind (chkM (i : Int) (lenM r_4)) fun (r_5 : Unit) =>
                  Option.bind
                    (Option.bind (sameM (i : Int) (i : Int)) fun (x : Unit) =>
                      Option.bind (sameM (i : Int) (i : Int)) fun (x : Unit) => chkM (i : Int) (lenM r_4))
                    fun (r : Unit) => some (Sum.inl (IntKind.wrap IntKind.i64 (s_1.1 + (1 : Int)), r_4))
      else some (Sum.inr s_1.2)) ((0 : Int), rt n (fun a => if a < i then n else 0) d0) = some (rt n (fun a => if a < i + 1 then n else 0) d0) := by
  have e0 : rt n (fun a => if a < i then n else 0) d0 = rt n (fun a => if a < i then n else if a = i then 0 else 0) d0 := rt_congr (fun a _ => by simp) fun _ _ _ _ => rfl
  rw [e0]
  refine count_loop (fun j => rt n (fun a => if a < i then n else if a = i then j else 0) d0) n (fun j hj => ?_) ?_
  · have hl : ∀ (len : Nat → Nat), chkM (i : Int) (lenM (rt n len d0)) = some () := fun len => chkM_of (by omega) (by show (i : Int) < ((rt n len d0).length : Int); rw [rt_length]; omega)
    simp only [lt_true (a := (j : Int)) (b := (n : Int)) (by omega), cond_true, hl, Option.bind_some, m86_eq, sameM_self]
    have hj' : (if i < i then n else if i = i then j else 0) = j := by simp
    have hap := rt_app (n := n) (len := fun a => if a < i then n else if a = i then j else 0) (d := d0) (i := i) (b := 8) hi (by simp; omega)
    rw [hj'] at hap
    rw [hap, Option.bind_some, hl, Option.bind_some, Option.bind_some, wrap_in (by omega) (by omega)]
    congr 3
    refine rt_congr (fun a _ => ?_) fun _ _ _ _ => rfl
    unfold upl
    by_cases e : a = i <;> simp [e]
  · simp only [lt_false (a := (n : Int)) (b := (n : Int)) (by omega), cond_false]
    congr 2
    refine rt_congr (fun a _ => ?_) fun _ _ _ _ => rfl
    by_cases e : a < i
    · rw [if_pos e, if_pos (by omega)]
    · by_cases e' : a = i
      · rw [if_neg e, if_pos e', if_pos (by omega)]
      · rw [if_neg e, if_neg e', if_neg (by omega)]
theorem none_loop {n : Nat} (hn : n ≤ 16) : loopM
        (fun (s : Int × List (List Int)) =>
          bif ltM s.1 (n : Int) then
            Option.bind
              (loopM
                (fun (s_1 : Int × List (List Int)) =>
                  bif ltM s_1.1 (n : Int) then
                    Option.bind (chkM s.1 (lenM s_1.2)) fun (r_1 : Unit) =>
                      Option.bind (chkM s.1 (lenM s_1.2)) fun (r_2 : Unit) =>
                        Option.bind (m86 (s.1, s_1.1)) fun (r_3 : Int) =>
                          Option.bind (app2M (nat_lit 8) s_1.2 s.1 [r_3]) fun (r_4 : List (List Int)) =>
                            Option.bind (chkM s.1 (lenM r_4)) fun (r_5 : Unit) =>
                              Option.bind
                                (Option.bind (sameM s.1 s.1) fun (x : Unit) =>
                                  Option.bind (sameM s.1 s.1) fun (x : Unit) => chkM s.1 (lenM r_4))
                                fun (r : Unit) => some (Sum.inl (IntKind.wrap IntKind.i64 (s_1.1 + (1 : Int)), r_4))
                  else some (Sum.inr s_1.2))
                ((0 : Int), s.2))
              fun (o : List (List Int)) => some (Sum.inl (IntKind.wrap IntKind.i64 (s.1 + (1 : Int)), o))
          else some (Sum.inr s.2))
        ((0 : Int), List.replicate ((n : Int)).toNat ([] : List Int)) = some (rt n (fun _ => n) d0) := by
  have e0 : List.replicate ((n : Int)).toNat ([] : List Int) = rt n (fun a => if a < 0 then n else 0) d0 := by
    have ht : ((n : Int)).toNat = n := by omega
    rw [ht, replicate_row]
    exact row_congr fun i _ => rfl
  rw [e0]
  refine count_loop (fun i => rt n (fun a => if a < i then n else 0) d0) n (r := rt n (fun _ => n) d0) (fun i hi => ?_) ?_
  · simp only [lt_true (a := (i : Int)) (b := (n : Int)) (by omega), cond_true]
    rw [none_rows hn hi, Option.bind_some, wrap_in (by omega) (by omega)]
  · simp only [lt_false (a := (n : Int)) (b := (n : Int)) (by omega), cond_false]
    congr 2
    exact rt_congr (fun a ha => if_pos ha) fun _ _ _ _ => rfl
theorem none_make {n : Nat} (hn : n ≤ 16) : mkM (n : Int) (n : Int) (nat_lit 24) ([] : List Int) = some (List.replicate ((n : Int)).toNat []) :=
  mkM_of (by omega) (by omega) (by show (n : Int) * 24 ≤ 140737488355328; omega)
theorem none_table {n : Nat} (hn : n ≤ 16) : m64 (n : Int) = some (rt n (fun _ => n) d0) := by
  unfold m64
  exact bind_of (none_make hn) (bind_of (none_loop hn) rfl)
end Go.Proofs.Ytklddmmnggcffaa
/-
  Between, turned to this seat: the table of distances.
  No conditions.
-/
namespace Go.Proofs.Ytklddmmnggcffaa
open Go Go.Abs Go.PE
set_option linter.unusedVariables false
abbrev Tab := Nat → Nat → Int
def addB (d : Tab) (c : Int × Int × Int) : Tab := upd d c.1.toNat c.2.1.toNat (min (d c.1.toNat c.2.1.toNat) c.2.2)
def pl (a b : Int) : Int := if a = 1152921504606846976 ∨ b = 1152921504606846976 then 1152921504606846976 else IntKind.wrap IntKind.i64 (a + b)
def cell (k : Nat) (rk : Nat → Int) (i j : Nat) (d : Tab) : Tab := upd d i j (min (d i j) (pl (d i k) (rk j)))
def cells (k : Nat) (rk : Nat → Int) (i : Nat) (d : Tab) : Nat → Tab
  | 0 => d
  | j + 1 => cell k rk i j (cells k rk i d j)
def rows (n k : Nat) (rk : Nat → Int) (d : Tab) : Nat → Tab
  | 0 => d
  | i + 1 => cells k rk i (rows n k rk d i) n
def rounds (n : Nat) (d : Tab) : Nat → Tab
  | 0 => d
  | k + 1 => rows n k (rounds n d k k) (rounds n d k) n
def fw (n : Nat) (bs : List (Int × Int × Int)) : Tab := rounds n (bs.foldl addB d0) n
theorem chk_rt {n : Nat} {len : Nat → Nat} {d : Tab} {i : Nat} (hi : i < n) : chkM (i : Int) (lenM (rt n len d)) = some () :=
  chkM_of (by omega) (by show (i : Int) < ((rt n len d).length : Int); rw [rt_length]; omega)
theorem chk_row {m : Nat} {g : Nat → Int} {i : Nat} (hi : i < m) : chkM (i : Int) (lenM (row m g)) = some () :=
  chkM_of (by omega) (by show (i : Int) < ((row m g).length : Int); rw [row_length]; omega)
theorem bnd_of {n : Nat} {c : Int × Int × Int} (h : bnd (n : Int) c = true) : ∃ a b : Nat, a < n ∧ b < n ∧ c.1 = a ∧ c.2.1 = b ∧ -1000000000 ≤ c.2.2 ∧ c.2.2 ≤ 1000000000 := by
  have h := of_decide_eq_true h
  exact ⟨c.1.toNat, c.2.1.toNat, by omega, by omega, by omega, by omega, by omega, by omega⟩
theorem foldl_take {α β : Type} (f : β → α → β) (z : β) (xs : List α) (k : Nat) (h : k < xs.length) : (xs.take (k + 1)).foldl f z = f ((xs.take k).foldl f z) xs[k] := by
  rw [List.take_succ_eq_append_getElem h, List.foldl_append]
  rfl
theorem bounds_loop {n : Nat} (hn : n ≤ 16) {bs : List (Int × Int × Int)} (hl : bs.length ≤ 60) (hb : bs.all (bnd (n : Int)) = true) :
    loopM
            (fun (s : Int × List (List Int)) =>
              bif ltM s.1 (lenM bs) then
                Option.bind (idxM bs s.1) fun (r_1 : Int × Int × Int) =>
                  Option.bind (chkM r_1.1 (lenM s.2)) fun (r_2 : Unit) =>
                    Option.bind (chkM r_1.1 (lenM s.2)) fun (r_3 : Unit) =>
                      Option.bind (chkM r_1.1 (lenM s.2)) fun (r_4 : Unit) =>
                        Option.bind (chkM r_1.1 (lenM s.2)) fun (r_5 : Unit) =>
                          Option.bind (Option.bind (idxM s.2 r_1.1) fun (xs : List Int) => chkM r_1.2.1 (lenM xs))
                            fun (r_6 : Unit) =>
                            Option.bind
                              (Option.bind (idxM s.2 r_1.1) fun (xs : List Int) =>
                                Option.bind (idxM xs r_1.2.1) fun (x : Int) => some x)
                              fun (r_7 : Int) =>
                              Option.bind (Option.bind (idxM s.2 r_1.1) fun (xs : List Int) => chkM r_1.2.1 (lenM xs))
                                fun (r_8 : Unit) =>
                                Option.bind (set2M s.2 r_1.1 r_1.2.1 fun (x : Int) => some (min r_7 r_1.2.2))
                                  fun (r : List (List Int)) =>
                                  some (Sum.inl (IntKind.wrap IntKind.i64 (s.1 + (1 : Int)), r))
              else some (Sum.inr s.2))
            ((0 : Int), rt n (fun _ => n) d0) = some (rt n (fun _ => n) (bs.foldl addB d0)) := by
  refine count_loop (fun k => rt n (fun _ => n) ((bs.take k).foldl addB d0)) bs.length (fun k hk => ?_) ?_
  · obtain ⟨a, b, ha, hb', e1, e2, _, _⟩ := bnd_of (List.all_eq_true.1 hb _ (List.getElem_mem hk))
    simp only [lt_true (a := (k : Int)) (b := lenM bs) (by show (k : Int) < (bs.length : Int); omega), cond_true, idxM_lt hk, Option.bind_some, e1, e2, chk_rt ha, rt_idx ha, chk_row hb', row_idx hb']
    rw [rt_set (y := min ((bs.take k).foldl addB d0 a b) bs[k].2.2) ha hb' rfl, Option.bind_some, wrap_in (by omega) (by omega), foldl_take addB d0 bs k hk]
    have e : addB ((bs.take k).foldl addB d0) bs[k] = upd ((bs.take k).foldl addB d0) a b (min ((bs.take k).foldl addB d0 a b) bs[k].2.2) := by
      unfold addB
      rw [e1, e2]
      rfl
    rw [e]
  · simp only [lt_false (a := (bs.length : Int)) (b := lenM bs) (by show ¬ (bs.length : Int) < (bs.length : Int); omega), cond_false, List.take_length]
end Go.Proofs.Ytklddmmnggcffaa
/-
  Between, turned to this seat: the table of distances is what the model computes.
  No conditions.
-/
namespace Go.Proofs.Ytklddmmnggcffaa
open Go Go.Abs Go.PE
set_option linter.unusedVariables false
theorem m56_pl (a b : Int) : m56 (a, b) = some (pl a b) := m56_eq
theorem copy_row {n : Nat} {g : Nat → Int} : copyM (List.replicate ((n : Int)).toNat (0 : Int)) (row n g) = row n g := by
  unfold copyM
  have ht : ((n : Int)).toNat = n := by omega
  rw [ht, List.take_of_length_le (by simp [row_length]), List.drop_eq_nil_of_le (by simp [row_length]), List.append_nil]
theorem cells_loop {n : Nat} (hn : n ≤ 16) {k i : Nat} (hk : k < n) (hi : i < n) (rk : Nat → Int) (d : Tab) :
    loopM
                                      (fun (s_2 : Int × List (List Int)) =>
                                        bif ltM s_2.1 (n : Int) then
                                          Option.bind (chkM (i : Int) (lenM s_2.2)) fun (r_5 : Unit) =>
                                            Option.bind (chkM (i : Int) (lenM s_2.2)) fun (r_6 : Unit) =>
                                              Option.bind (chkM (i : Int) (lenM s_2.2)) fun (r_7 : Unit) =>
                                                Option.bind (chkM (i : Int) (lenM s_2.2)) fun (r_8 : Unit) =>
                                                  Option.bind
                                                    (Option.bind (idxM s_2.2 (i : Int)) fun (xs : List Int) =>
                                                      chkM s_2.1 (lenM xs))
                                                    fun (r_9 : Unit) =>
                                                    Option.bind
                                                      (Option.bind (idxM s_2.2 (i : Int)) fun (xs : List Int) =>
                                                        Option.bind (idxM xs s_2.1) fun (x : Int) => some x)
                                                      fun (r_10 : Int) =>
                                                      Option.bind (chkM (i : Int) (lenM s_2.2)) fun (r_11 : Unit) =>
                                                        Option.bind (chkM (i : Int) (lenM s_2.2)) fun (r_12 : Unit) =>
                                                          Option.bind
                                                            (Option.bind (idxM s_2.2 (i : Int)) fun (xs : List Int) =>
                                                              chkM (k : Int) (lenM xs))
                                                            fun (r_13 : Unit) =>
                                                            Option.bind
                                                              (Option.bind (idxM s_2.2 (i : Int)) fun (xs : List Int) =>
                                                                Option.bind (idxM xs (k : Int)) fun (x : Int) => some x)
                                                              fun (r_14 : Int) =>
                                                              Option.bind (chkM s_2.1 (lenM (copyM (List.replicate ((n : Int)).toNat (0 : Int)) (row n rk))))
                                                                fun (r_15 : Unit) =>
                                                                Option.bind (idxM (copyM (List.replicate ((n : Int)).toNat (0 : Int)) (row n rk)) s_2.1)
                                                                  fun (r_16 : Int) =>
                                                                  Option.bind (m56 (r_14, r_16)) fun (r_17 : Int) =>
                                                                    Option.bind
                                                                      (Option.bind (idxM s_2.2 (i : Int))
                                                                        fun (xs : List Int) => chkM s_2.1 (lenM xs))
                                                                      fun (r_18 : Unit) =>
                                                                      Option.bind
                                                                        (set2M s_2.2 (i : Int) s_2.1 fun (x : Int) =>
                                                                          some (min r_10 r_17))
                                                                        fun (r : List (List Int)) =>
                                                                        some
                                                                          (Sum.inl
                                                                            (IntKind.wrap IntKind.i64 (s_2.1 + (1 : Int)),
                                                                              r))
                                        else some (Sum.inr s_2.2))
                                      ((0 : Int), rt n (fun _ => n) d) = some (rt n (fun _ => n) (cells k rk i d n)) := by
  refine count_loop (fun j => rt n (fun _ => n) (cells k rk i d j)) n (fun j hj => ?_) ?_
  · simp only [lt_true (a := (j : Int)) (b := (n : Int)) (by omega), cond_true, Option.bind_some, copy_row, chk_rt hi, rt_idx hi, chk_row hj, row_idx hj, chk_row hk, row_idx hk, m56_pl]
    rw [rt_set (y := min (cells k rk i d j i j) (pl (cells k rk i d j i k) (rk j))) hi hj rfl, Option.bind_some, wrap_in (by omega) (by omega)]
    rfl
  · simp only [lt_false (a := (n : Int)) (b := (n : Int)) (by omega), cond_false]
def ovl (d : Tab) : Nat → Bool
  | 0 => false
  | i + 1 => ovl d i || decide (d i i < 0)
theorem ovl_iff (d : Tab) : ∀ n, ovl d n = true ↔ ∃ i, i < n ∧ d i i < 0
  | 0 => by simp [ovl]
  | n + 1 => by
    simp only [ovl, Bool.or_eq_true, decide_eq_true_eq, ovl_iff d n]
    constructor
    · rintro (⟨i, h1, h2⟩ | h)
      · exact ⟨i, by omega, h2⟩
      · exact ⟨n, by omega, h⟩
    · rintro ⟨i, h1, h2⟩
      by_cases e : i = n
      · subst e; exact .inr h2
      · exact .inl ⟨i, by omega, h2⟩
end Go.Proofs.Ytklddmmnggcffaa
/-
  Between, turned to this seat: distances and Close, as the model computes them.
  No conditions.
-/
namespace Go.Proofs.Ytklddmmnggcffaa
open Go Go.Abs Go.PE
set_option linter.unusedVariables false
theorem diag_loop {n : Nat} (hn : n ≤ 16) (d : Tab) :
    loopM
                (fun (s : Int) =>
                  bif ltM s (n : Int) then
                    Option.bind (chkM s (lenM (rt n (fun _ => n) d))) fun (r_1 : Unit) =>
                      Option.bind (chkM s (lenM (rt n (fun _ => n) d))) fun (r_2 : Unit) =>
                        Option.bind (Option.bind (idxM (rt n (fun _ => n) d) s) fun (xs : List Int) => chkM s (lenM xs))
                          fun (r_3 : Unit) =>
                          Option.bind
                            (Option.bind (idxM (rt n (fun _ => n) d) s) fun (xs : List Int) =>
                              Option.bind (idxM xs s) fun (x : Int) => some x)
                            fun (r : Int) =>
                            bif ltM r (0 : Int) then some (Sum.inr (Sum.inr false))
                            else some (Sum.inl (IntKind.wrap IntKind.i64 (s + (1 : Int))))
                  else some (Sum.inr (Sum.inl ())))
                (0 : Int) = some (bif ovl d n then Sum.inr false else Sum.inl ()) := by
  refine loopM_is (fun k (s : Int) => s = (k : Int) ∧ ovl d k = false) n ⟨rfl, rfl⟩ fun k s hk ⟨hs, hP⟩ => ?_
  subst hs
  by_cases hlt : k < n
  · simp only [lt_true (a := (k : Int)) (b := (n : Int)) (by omega), cond_true, Option.bind_some, chk_rt hlt, rt_idx hlt, chk_row hlt, row_idx hlt]
    by_cases hd : d k k < 0
    · refine .inr ?_
      rw [lt_true hd, cond_true, (ovl_iff d n).2 ⟨k, hlt, hd⟩]
      rfl
    · refine .inl ⟨((k + 1 : Nat) : Int), hlt, by rw [lt_false hd, cond_false, wrap_in (by omega) (by omega)]; rfl, rfl, ?_⟩
      simp [ovl, hP, hd]
  · have e : k = n := by omega
    subst e
    refine .inr ?_
    rw [lt_false (by omega), cond_false, hP]
    rfl
theorem m37_eq {n : Nat} (hn : n ≤ 16) {bs : List (Int × Int × Int)} (hl : bs.length ≤ 60) (hb : bs.all (bnd (n : Int)) = true) :
    m37 ((n : Int), bs) = some (bif ovl (fw n bs) n then ([], false) else (rt n (fun _ => n) (fw n bs), true)) := by
  unfold m37
  dsimp only
  refine bind_of (none_make hn) (bind_of (none_loop hn) (bind_of (bounds_loop hn hl hb) ?_))
  refine bind_of (x := rt n (fun _ => n) (fw n bs)) (count_loop (fun k => rt n (fun _ => n) (rounds n (bs.foldl addB d0) k)) n (fun k hk => ?_) ?_) ?_
  · simp only [lt_true (a := (k : Int)) (b := (n : Int)) (by omega), cond_true]
    refine bind_of (mkM_of (by omega) (by omega) (by show (n : Int) * 8 ≤ 140737488355328; omega)) ?_
    simp only [chk_rt hk, Option.bind_some, rt_idx hk]
    refine bind_of (count_loop (fun i => rt n (fun _ => n) (rows n k (rounds n (bs.foldl addB d0) k k) (rounds n (bs.foldl addB d0) k) i)) n (r := rt n (fun _ => n) (rounds n (bs.foldl addB d0) (k + 1))) (fun i hi => ?_) ?_) ?_
    · simp only [lt_true (a := (i : Int)) (b := (n : Int)) (by omega), cond_true]
      refine bind_of (cells_loop hn hk hi _ _) ?_
      rw [wrap_in (by omega) (by omega)]
      rfl
    · simp only [lt_false (a := (n : Int)) (b := (n : Int)) (by omega), cond_false]
      rfl
    · rw [wrap_in (by omega) (by omega)]
  · simp only [lt_false (a := (n : Int)) (b := (n : Int)) (by omega), cond_false]
    rfl
  · refine bind_of (diag_loop hn _) ?_
    cases ovl (fw n bs) n <;> rfl
theorem m12_eq (x : Int × List (Int × Int × Int)) : m12 x = some (bif sys x && !ovl (fw x.1.toNat x.2) x.1.toNat then (rt x.1.toNat (fun _ => x.1.toNat) (fw x.1.toNat x.2), 0) else ([], 90)) := by
  unfold m12
  rw [show (x.1, x.2) = x from rfl, m36_eq, Option.bind_some]
  cases h : sys x with
  | false => rfl
  | true =>
    have h' := h
    unfold sys at h'
    rw [Bool.and_eq_true] at h'
    obtain ⟨h1, h2⟩ := h'
    have h1 := of_decide_eq_true h1
    have e : x = (((x.1.toNat : Nat) : Int), x.2) := by
      have : x.1 = ((x.1.toNat : Nat) : Int) := by omega
      rw [← this]
    have e2 := m37_eq (n := x.1.toNat) (bs := x.2) (by omega) (by omega) (by
      have : ((x.1.toNat : Nat) : Int) = x.1 := by omega
      rw [this]; exact h2)
    rw [← e] at e2
    simp only [PE.notM, Bool.not_true, cond_false]
    rw [e2, Option.bind_some]
    cases ovl (fw x.1.toNat x.2) x.1.toNat <;> rfl
end Go.Proofs.Ytklddmmnggcffaa
/-
  Between, turned to this seat: what is known of the table of distances: walks, and sizes.
  No conditions.
-/
namespace Go.Proofs.Ytklddmmnggcffaa
open Go Go.Abs Go.PE
set_option linter.unusedVariables false
inductive Wk (bs : List (Int × Int × Int)) : Nat → Nat → Int → Prop
  | nil (i : Nat) : Wk bs i i 0
  | snoc {i a b : Nat} {w m : Int} : Wk bs i a w → ((a : Int), (b : Int), m) ∈ bs → Wk bs i b (w + m)
theorem Wk.trans {bs : List (Int × Int × Int)} {i j k : Nat} {v w : Int} (h : Wk bs i j v) (h2 : Wk bs j k w) : Wk bs i k (v + w) := by
  induction h2 with
  | nil => simpa using h
  | snoc _ hm ih => rw [← Int.add_assoc]; exact ih.snoc hm
def Ent (bs : List (Int × Int × Int)) (B : Int) (i j : Nat) (x : Int) : Prop := x = 1152921504606846976 ∨ (-B ≤ x ∧ x ≤ B ∧ Wk bs i j x)
theorem Ent.mono {bs : List (Int × Int × Int)} {B B' : Int} {i j : Nat} {x : Int} (hB : B ≤ B') (h : Ent bs B i j x) : Ent bs B' i j x := by
  rcases h with h | ⟨h1, h2, h3⟩
  · exact .inl h
  · exact .inr ⟨by omega, by omega, h3⟩
theorem Ent.pl {bs : List (Int × Int × Int)} {A B : Int} {i k j : Nat} {x y : Int} (hA : A + B ≤ 1000000000000000000) (h : Ent bs A i k x) (h2 : Ent bs B k j y) : Ent bs (A + B) i j (pl x y) := by
  unfold Go.Proofs.Ytklddmmnggcffaa.pl
  by_cases e : x = 1152921504606846976 ∨ y = 1152921504606846976
  · rw [if_pos e]; exact .inl rfl
  · rw [if_neg e]
    rcases h with h | ⟨h1, h3, h4⟩
    · exact absurd (.inl h) e
    · rcases h2 with h2 | ⟨h5, h6, h7⟩
      · exact absurd (.inr h2) e
      · rw [wrap_in (by omega) (by omega)]
        exact .inr ⟨by omega, by omega, h4.trans h7⟩
theorem Ent.min {bs : List (Int × Int × Int)} {B : Int} {i j : Nat} {x y : Int} (h : Ent bs B i j x) (h2 : Ent bs B i j y) : Ent bs B i j (min x y) := by
  by_cases e : x ≤ y
  · rw [Int.min_eq_left e]; exact h
  · rw [Int.min_eq_right (by omega)]; exact h2
theorem cells_ent {bs : List (Int × Int × Int)} {B : Int} {n k i : Nat} {rk : Nat → Int} {d : Tab} (hB0 : 0 ≤ B) (hB : 3 * B ≤ 1000000000000000000) (hr : ∀ j, j < n → Ent bs B k j (rk j)) (hk : k < n) (hd : ∀ j, j < n → Ent bs B i j (d i j)) :
    ∀ m, m ≤ n → (∀ j, j < n → Ent bs (3 * B) i j (cells k rk i d m i j)) ∧ Ent bs (2 * B) i k (cells k rk i d m i k) ∧ (m ≤ k → Ent bs B i k (cells k rk i d m i k))
  | 0, _ => ⟨fun j hj => (hd j hj).mono (by omega), (hd k hk).mono (by omega), fun _ => hd k hk⟩
  | m + 1, hm => by
    obtain ⟨h1, h2, h3⟩ := cells_ent hB0 hB hr hk hd m (by omega)
    have hv : Ent bs (3 * B) i m (min (cells k rk i d m i m) (pl (cells k rk i d m i k) (rk m))) :=
      (h1 m (by omega)).min ((Ent.pl (A := 2 * B) (by omega) h2 (hr m (by omega))).mono (by omega))
    refine ⟨fun j hj => ?_, ?_, fun hmk => ?_⟩
    · show Ent bs (3 * B) i j (upd _ i m _ i j)
      unfold upd
      by_cases e : j = m
      · subst e; rw [if_pos ⟨rfl, rfl⟩]; exact hv
      · rw [if_neg fun h => e h.2]; exact h1 j hj
    · show Ent bs (2 * B) i k (upd _ i m _ i k)
      unfold upd
      by_cases e : k = m
      · subst e
        rw [if_pos ⟨rfl, rfl⟩]
        exact ((h3 (by omega)).mono (by omega)).min ((Ent.pl (A := B) (by omega) (h3 (by omega)) (hr k hk)).mono (by omega))
      · rw [if_neg fun h => e h.2]; exact h2
    · show Ent bs B i k (upd _ i m _ i k)
      unfold upd
      rw [if_neg fun h => by omega]
      exact h3 (by omega)
theorem cells_other {k : Nat} {rk : Nat → Int} {i : Nat} {d : Tab} {a b : Nat} (ha : a ≠ i) : ∀ m, cells k rk i d m a b = d a b
  | 0 => rfl
  | m + 1 => by
    show upd _ i m _ a b = _
    unfold upd
    rw [if_neg fun h => ha h.1]
    exact cells_other ha m
end Go.Proofs.Ytklddmmnggcffaa
/-
  Between, turned to this seat: every entry of the table of distances is the sum of a walk.
  No conditions.
-/
namespace Go.Proofs.Ytklddmmnggcffaa
open Go Go.Abs Go.PE
set_option linter.unusedVariables false
def EntT (bs : List (Int × Int × Int)) (B : Int) (n : Nat) (d : Tab) : Prop := ∀ i j, i < n → j < n → Ent bs B i j (d i j)
theorem rows_ent {bs : List (Int × Int × Int)} {B : Int} {n k : Nat} {rk : Nat → Int} {d : Tab} (hB0 : 0 ≤ B) (hB : 3 * B ≤ 1000000000000000000) (hr : ∀ j, j < n → Ent bs B k j (rk j)) (hk : k < n) (hd : EntT bs B n d) :
    ∀ m, m ≤ n → EntT bs (3 * B) n (rows n k rk d m) ∧ ∀ i j, m ≤ i → rows n k rk d m i j = d i j
  | 0, _ => ⟨fun i j hi hj => (hd i j hi hj).mono (by omega), fun _ _ _ => rfl⟩
  | m + 1, hm => by
    obtain ⟨h1, h2⟩ := rows_ent hB0 hB hr hk hd m (by omega)
    refine ⟨fun i j hi hj => ?_, fun i j hi => ?_⟩
    · show Ent bs (3 * B) i j (cells k rk m (rows n k rk d m) n i j)
      by_cases e : i = m
      · subst e
        exact (cells_ent hB0 hB hr hk (fun j hj => by rw [h2 i j (Nat.le_refl _)]; exact hd i j hi hj) n (Nat.le_refl _)).1 j hj
      · rw [cells_other e]; exact h1 i j hi hj
    · show cells k rk m (rows n k rk d m) n i j = _
      rw [cells_other (by omega), h2 i j (by omega)]
theorem d0_ent {bs : List (Int × Int × Int)} {n : Nat} : EntT bs 1000000000 n d0 := by
  intro i j _ _
  unfold d0
  by_cases e : i = j
  · subst e; rw [if_pos rfl]; exact .inr ⟨by omega, by omega, .nil i⟩
  · rw [if_neg e]; exact .inl rfl
theorem bounds_ent {n : Nat} {bs : List (Int × Int × Int)} : ∀ (cs : List (Int × Int × Int)) (d : Tab), (∀ c ∈ cs, c ∈ bs ∧ bnd (n : Int) c = true) → EntT bs 1000000000 n d → EntT bs 1000000000 n (cs.foldl addB d)
  | [], d, _, h => h
  | c :: cs, d, hc, h => by
    refine bounds_ent cs (addB d c) (fun c' h' => hc c' (List.mem_cons_of_mem _ h')) ?_
    obtain ⟨hm, hb⟩ := hc c (List.mem_cons_self ..)
    obtain ⟨a, b, ha, hb', e1, e2, e3, e4⟩ := bnd_of hb
    intro i j hi hj
    unfold addB upd
    have ha' : c.1.toNat = a := by omega
    have hb'' : c.2.1.toNat = b := by omega
    rw [ha', hb'']
    by_cases e : i = a ∧ j = b
    · rw [if_pos e]
      obtain ⟨rfl, rfl⟩ := e
      refine (h i j hi hj).min (.inr ⟨e3, e4, ?_⟩)
      have hw : Wk bs i j (0 + c.2.2) := (Wk.nil i).snoc (by rw [← e1, ← e2]; exact hm)
      simpa using hw
    · rw [if_neg e]; exact h i j hi hj
def size : Nat → Int
  | 0 => 1000000000
  | k + 1 => 3 * size k
theorem size_pos : ∀ k, 0 ≤ size k
  | 0 => by decide
  | k + 1 => by have := size_pos k; show 0 ≤ 3 * size k; omega
theorem size_le {k : Nat} (h : k ≤ 16) : size k ≤ 100000000000000000 := by
  have : ∀ k : Fin 17, size k.1 ≤ 100000000000000000 := by decide
  exact this ⟨k, by omega⟩
theorem rounds_ent {n : Nat} (hn : n ≤ 16) {bs : List (Int × Int × Int)} {d : Tab} (hd : EntT bs 1000000000 n d) : ∀ k, k ≤ n → EntT bs (size k) n (rounds n d k)
  | 0, _ => hd
  | k + 1, hk => by
    have h := rounds_ent hn hd k (by omega)
    have hs := size_le (k := k) (by omega)
    exact (rows_ent (size_pos k) (by omega) (fun j hj => h k j (by omega) hj) (by omega) h n (Nat.le_refl _)).1
theorem fw_ent {n : Nat} (hn : n ≤ 16) {bs : List (Int × Int × Int)} (hb : bs.all (bnd (n : Int)) = true) : EntT bs 100000000000000000 n (fw n bs) := by
  intro i j hi hj
  have h0 := bounds_ent (n := n) (bs := bs) bs d0 (fun c hc => ⟨hc, List.all_eq_true.1 hb c hc⟩) d0_ent
  exact (rounds_ent hn h0 n (Nat.le_refl _) i j hi hj).mono (size_le hn)
end Go.Proofs.Ytklddmmnggcffaa
/-
  Between, turned to this seat: entries only fall; a round in which the diagonal is zero.
  No conditions.
-/
namespace Go.Proofs.Ytklddmmnggcffaa
open Go Go.Abs Go.PE
set_option linter.unusedVariables false
theorem cell_le (k : Nat) (rk : Nat → Int) (i j : Nat) (d : Tab) (a b : Nat) : cell k rk i j d a b ≤ d a b := by
  unfold cell upd
  by_cases e : a = i ∧ b = j
  · rw [if_pos e]; obtain ⟨rfl, rfl⟩ := e; exact Int.min_le_left _ _
  · rw [if_neg e]; exact Int.le_refl _
theorem cells_le (k : Nat) (rk : Nat → Int) (i : Nat) (d : Tab) (a b : Nat) : ∀ m, cells k rk i d m a b ≤ d a b
  | 0 => Int.le_refl _
  | m + 1 => Int.le_trans (cell_le ..) (cells_le k rk i d a b m)
theorem rows_le (n k : Nat) (rk : Nat → Int) (d : Tab) (a b : Nat) : ∀ m, rows n k rk d m a b ≤ d a b
  | 0 => Int.le_refl _
  | m + 1 => Int.le_trans (cells_le ..) (rows_le n k rk d a b m)
theorem rounds_le (n : Nat) (d : Tab) (a b : Nat) (k : Nat) : ∀ m, rounds n d (k + m) a b ≤ rounds n d k a b
  | 0 => Int.le_refl _
  | m + 1 => Int.le_trans (rows_le ..) (rounds_le n d a b k m)
theorem pl_zero {bs : List (Int × Int × Int)} {B : Int} {i j : Nat} {x : Int} (hB : B ≤ 1000000000000000000) (h : Ent bs B i j x) : pl x 0 = x := by
  unfold pl
  rcases h with h | ⟨h1, h2, _⟩
  · rw [if_pos (.inl h), h]
  · rw [if_neg (by omega), wrap_in (by omega) (by omega)]; omega
theorem cells_zero {bs : List (Int × Int × Int)} {B : Int} {k i : Nat} {rk : Nat → Int} {d : Tab} (hB : B ≤ 1000000000000000000) (hz : rk k = 0) (hd : Ent bs B i k (d i k)) :
    ∀ m, cells k rk i d m i k = d i k ∧ ∀ j, cells k rk i d m i j = if j < m then min (d i j) (pl (d i k) (rk j)) else d i j
  | 0 => ⟨rfl, fun j => by rw [if_neg (by omega)]; rfl⟩
  | m + 1 => by
    obtain ⟨h1, h2⟩ := cells_zero hB hz hd m
    have hall : ∀ j, cells k rk i d (m + 1) i j = if j < m + 1 then min (d i j) (pl (d i k) (rk j)) else d i j := fun j => by
      show upd _ i m _ i j = _
      unfold upd
      rw [h1]
      by_cases e : j = m
      · subst e
        rw [if_pos ⟨rfl, rfl⟩, if_pos (by omega), h2 j, if_neg (by omega)]
      · rw [if_neg fun h => e h.2, h2 j]
        by_cases e2 : j < m
        · rw [if_pos e2, if_pos (by omega)]
        · rw [if_neg e2, if_neg (by omega)]
    refine ⟨?_, hall⟩
    rw [hall k, hz, pl_zero hB hd, Int.min_self]
    split <;> rfl
theorem rows_zero {bs : List (Int × Int × Int)} {B : Int} {n k : Nat} {d : Tab} (hB : B ≤ 1000000000000000000) (hz : d k k = 0) (hk : k < n) (hd : EntT bs B n d) :
    ∀ m, m ≤ n → ∀ i j, i < n → j < n → rows n k (d k) d m i j = if i < m then min (d i j) (pl (d i k) (d k j)) else d i j
  | 0, _, i, j, _, _ => by rw [if_neg (by omega)]; rfl
  | m + 1, hm, i, j, hi, hj => by
    have ih := rows_zero hB hz hk hd m (by omega)
    show cells k (d k) m (rows n k (d k) d m) n i j = _
    by_cases e : i = m
    · subst e
      have e1 : ∀ b, b < n → rows n k (d k) d i i b = d i b := fun b hb => by rw [ih i b hi hb, if_neg (by omega)]
      have hc := (cells_zero (bs := bs) (i := i) (d := rows n k (d k) d i) hB hz (by rw [e1 k hk]; exact hd i k hi hk) n).2 j
      rw [hc, if_pos hj, if_pos (by omega), e1 j hj, e1 k hk]
    · rw [cells_other e, ih i j hi hj]
      by_cases e2 : i < m
      · rw [if_pos e2, if_pos (by omega)]
      · rw [if_neg e2, if_neg (by omega)]
theorem round_zero {bs : List (Int × Int × Int)} {B : Int} {n k : Nat} {d : Tab} (hB : B ≤ 1000000000000000000) (hz : d k k = 0) (hk : k < n) (hd : EntT bs B n d) {i j : Nat} (hi : i < n) (hj : j < n) :
    rows n k (d k) d n i j = min (d i j) (pl (d i k) (d k j)) := by
  rw [rows_zero hB hz hk hd n (Nat.le_refl _) i j hi hj, if_pos hi]
end Go.Proofs.Ytklddmmnggcffaa
/-
  Between, turned to this seat: the triangle law of the table.
  No conditions.
-/
namespace Go.Proofs.Ytklddmmnggcffaa
open Go Go.Abs Go.PE
set_option linter.unusedVariables false
def Sz (x : Int) : Prop := x = 1152921504606846976 ∨ (-200000000000000000 ≤ x ∧ x ≤ 200000000000000000)
theorem pl_cases {x y : Int} (hx : Sz x) (hy : Sz y) : ((x = 1152921504606846976 ∨ y = 1152921504606846976) ∧ pl x y = 1152921504606846976) ∨ (x < 1000000000000000000 ∧ y < 1000000000000000000 ∧ pl x y = x + y) := by
  unfold pl
  by_cases e : x = 1152921504606846976 ∨ y = 1152921504606846976
  · exact .inl ⟨e, by rw [if_pos e]⟩
  · unfold Sz at hx hy
    refine .inr ⟨by omega, by omega, ?_⟩
    rw [if_neg e, wrap_in (by omega) (by omega)]
theorem pl_le_add {x y z : Int} (hx : Sz x) (hy : Sz y) (h : x < 1000000000000000000 → y < 1000000000000000000 → z ≤ x + y) (hz : z ≤ 1152921504606846976) : z ≤ pl x y := by
  rcases pl_cases hx hy with ⟨_, e⟩ | ⟨h1, h2, e⟩
  · rw [e]; exact hz
  · rw [e]; exact h h1 h2
theorem le_of_pl {x y z : Int} (hx : Sz x) (hy : Sz y) (h : z ≤ pl x y) (h1 : x < 1000000000000000000) (h2 : y < 1000000000000000000) : z ≤ x + y := by
  rcases pl_cases hx hy with ⟨h3, e⟩ | ⟨_, _, e⟩
  · omega
  · rw [e] at h; exact h
def Tri (n k : Nat) (d : Tab) : Prop := ∀ l i j, l < k → l < n → i < n → j < n → d i j ≤ pl (d i l) (d l j)
set_option maxHeartbeats 4000000 in
theorem tri_step {n k : Nat} {d D : Tab} (hs : ∀ i j, i < n → j < n → d i j = 1152921504606846976 ∨ (-100000000000000000 ≤ d i j ∧ d i j ≤ 100000000000000000)) (hD : ∀ i j, i < n → j < n → D i j = min (d i j) (pl (d i k) (d k j)))
    (hz : d k k = 0) (hk : k < n) (h : Tri n k d) : Tri n (k + 1) D := by
  intro l i j hlk hl hi hj
  have S : ∀ i j, i < n → j < n → Sz (d i j) := fun i j hi hj => by have := hs i j hi hj; unfold Sz; omega
  have C : ∀ i l j, i < n → l < n → j < n → _ := fun i l j hi hl hj => pl_cases (S i l hi hl) (S l j hl hj)
  have c1 := C i k j hi hk hj
  have c2 := C i k l hi hk hl
  have c3 := C l k j hl hk hj
  have sij := hs i j hi hj
  have sil := hs i l hi hl
  have slj := hs l j hl hj
  have sik := hs i k hi hk
  have skj := hs k j hk hj
  have skl := hs k l hk hl
  have slk := hs l k hl hk
  have e1 := hD i j hi hj
  have e2 := hD i l hi hl
  have e3 := hD l j hl hj
  refine pl_le_add (by unfold Sz; omega) (by unfold Sz; omega) ?_ (by omega)
  intro f1 f2
  by_cases e : l = k
  · subst e
    rw [hz] at c2 c3 e2 e3
    omega
  · have hlk' : l < k := by omega
    have t1 := fun a b => le_of_pl (S i l hi hl) (S l j hl hj) (h l i j hlk' hl hi hj) a b
    have t2 := fun a b => le_of_pl (S k l hk hl) (S l j hl hj) (h l k j hlk' hl hk hj) a b
    have t3 := fun a b => le_of_pl (S i l hi hl) (S l k hl hk) (h l i k hlk' hl hi hk) a b
    have t4 := fun a b => le_of_pl (S k l hk hl) (S l k hl hk) (h l k k hlk' hl hk hk) a b
    rw [hz] at t4
    rcases c1 with ⟨a1, a2⟩ | ⟨a1, a2, a3⟩ <;> rcases c2 with ⟨b1, b2⟩ | ⟨b1, b2, b3⟩ <;> rcases c3 with ⟨g1, g2⟩ | ⟨g1, g2, g3⟩ <;> omega
end Go.Proofs.Ytklddmmnggcffaa
/-
  Between, turned to this seat: the table obeys the triangle law when no entry of its diagonal is negative.
  No conditions.
-/
namespace Go.Proofs.Ytklddmmnggcffaa
open Go Go.Abs Go.PE
set_option linter.unusedVariables false
theorem addB_le (d : Tab) (c : Int × Int × Int) (a b : Nat) : addB d c a b ≤ d a b := by
  unfold addB upd
  split
  · rename_i e; rw [e.1, e.2]; exact Int.min_le_left _ _
  · exact Int.le_refl _
theorem bounds_le : ∀ (cs : List (Int × Int × Int)) (d : Tab) (a b : Nat), cs.foldl addB d a b ≤ d a b
  | [], _, _, _ => Int.le_refl _
  | c :: cs, d, a, b => Int.le_trans (bounds_le cs (addB d c) a b) (addB_le d c a b)
theorem fw_diag {n : Nat} {bs : List (Int × Int × Int)} (h : ovl (fw n bs) n = false) {k i : Nat} (hk : k ≤ n) (hi : i < n) : rounds n (bs.foldl addB d0) k i i = 0 := by
  have h1 : ¬ fw n bs i i < 0 := fun hlt => by
    rw [(ovl_iff _ _).2 ⟨i, hi, hlt⟩] at h; cases h
  have h2 := rounds_le n (bs.foldl addB d0) i i k (n - k)
  have e : k + (n - k) = n := by omega
  rw [e] at h2
  have h3 := rounds_le n (bs.foldl addB d0) i i 0 k
  rw [Nat.zero_add] at h3
  have h4 : bs.foldl addB d0 i i ≤ d0 i i := bounds_le bs d0 i i
  have h5 : d0 i i = 0 := by simp [d0]
  unfold fw at h1
  have h6 : rounds n (bs.foldl addB d0) 0 i i = bs.foldl addB d0 i i := rfl
  omega
theorem rounds_tri {n : Nat} (hn : n ≤ 16) {bs : List (Int × Int × Int)} (hb : bs.all (bnd (n : Int)) = true) (h : ovl (fw n bs) n = false) : ∀ k, k ≤ n → Tri n k (rounds n (bs.foldl addB d0) k)
  | 0, _ => fun l i j hl => by omega
  | k + 1, hk => by
    have h0 := bounds_ent (n := n) (bs := bs) bs d0 (fun c hc => ⟨hc, List.all_eq_true.1 hb c hc⟩) d0_ent
    have hE : EntT bs 100000000000000000 n (rounds n (bs.foldl addB d0) k) := fun i j hi hj => (rounds_ent hn h0 k (by omega) i j hi hj).mono (size_le (by omega))
    have hz := fw_diag h (k := k) (by omega) (show k < n by omega)
    refine tri_step (k := k) (d := rounds n (bs.foldl addB d0) k) (fun i j hi hj => ?_) (fun i j hi hj => round_zero (bs := bs) (by omega) hz (by omega) hE hi hj) hz (by omega) (rounds_tri hn hb h k (by omega))
    rcases hE i j hi hj with e | ⟨e1, e2, _⟩
    · exact .inl e
    · exact .inr ⟨e1, e2⟩
theorem fw_tri {n : Nat} (hn : n ≤ 16) {bs : List (Int × Int × Int)} (hb : bs.all (bnd (n : Int)) = true) (h : ovl (fw n bs) n = false) : Tri n n (fw n bs) := rounds_tri hn hb h n (Nat.le_refl _)
end Go.Proofs.Ytklddmmnggcffaa
/-
  Between, turned to this seat: the table holds the least sums of walks.
  No conditions.
-/
namespace Go.Proofs.Ytklddmmnggcffaa
open Go Go.Abs Go.PE
set_option linter.unusedVariables false
theorem bounds_bound {n : Nat} : ∀ (cs : List (Int × Int × Int)) (d : Tab) (a b : Nat) (m : Int), ((a : Int), (b : Int), m) ∈ cs → cs.foldl addB d a b ≤ m
  | c :: cs, d, a, b, m, h => by
    rcases List.mem_cons.1 h with h | h
    · subst h
      refine Int.le_trans (bounds_le cs _ a b) ?_
      unfold addB upd
      have ha : ((a : Int)).toNat = a := by omega
      have hb : ((b : Int)).toNat = b := by omega
      simp only [ha, hb, and_self, if_true]
      exact Int.min_le_right _ _
    · exact bounds_bound (n := n) cs (addB d c) a b m h
theorem fw_bound {n : Nat} {bs : List (Int × Int × Int)} {a b : Nat} {m : Int} (h : ((a : Int), (b : Int), m) ∈ bs) : fw n bs a b ≤ m := by
  have h2 := rounds_le n (bs.foldl addB d0) a b 0 n
  rw [Nat.zero_add] at h2
  exact Int.le_trans h2 (bounds_bound (n := n) bs d0 a b m h)
theorem fw_least {n : Nat} (hn : n ≤ 16) {bs : List (Int × Int × Int)} (hb : bs.all (bnd (n : Int)) = true) (h : ovl (fw n bs) n = false) {i j : Nat} {w : Int} (hi : i < n) (hw : Wk bs i j w) : j < n ∧ fw n bs i j < 1000000000000000000 ∧ fw n bs i j ≤ w := by
  have hE := fw_ent hn hb
  have S : ∀ i j, i < n → j < n → Sz (fw n bs i j) := fun i j hi hj => by
    rcases hE i j hi hj with e | ⟨e1, e2, _⟩
    · exact .inl e
    · exact .inr ⟨by omega, by omega⟩
  induction hw with
  | nil =>
    have e : fw n bs i i = 0 := fw_diag h (Nat.le_refl n) hi
    exact ⟨hi, by omega, by omega⟩
  | @snoc a b w m hw hm ih =>
    obtain ⟨ha, hf, hle⟩ := ih
    have hbd := List.all_eq_true.1 hb _ hm
    have hbd := of_decide_eq_true hbd
    have hbn : b < n := by have := hbd.2.2.2.1; simp only at this; omega
    refine ⟨hbn, ?_⟩
    have h1 := fw_bound (n := n) hm
    have h2 := fw_tri hn hb h a i b ha ha hi hbn
    have h3 := hbd.2.2.2.2.2
    simp only at h3
    rcases pl_cases (S i a hi ha) (S a b ha hbn) with ⟨h4 | h4, _⟩ | ⟨_, _, e⟩
    · omega
    · omega
    · rw [e] at h2
      have s1 := S i a hi ha
      have s2 := S i b hi hbn
      unfold Sz at s1 s2
      omega
end Go.Proofs.Ytklddmmnggcffaa
/-
  Between, turned to this seat: walks turned around.
  No conditions.
-/
namespace Go.Proofs.Ytklddmmnggcffaa
open Go Go.Abs Go.PE
set_option linter.unusedVariables false
def swp (c : Int × Int × Int) : Int × Int × Int := (c.2.1, c.1, c.2.2)
theorem Wk.cons {bs : List (Int × Int × Int)} {i a b : Nat} {w m : Int} (hm : ((i : Int), (a : Int), m) ∈ bs) (h : Wk bs a b w) : Wk bs i b (m + w) := by
  have h1 : Wk bs i a (0 + m) := (Wk.nil i).snoc hm
  rw [Int.zero_add] at h1
  exact h1.trans h
theorem Wk.rev {bs : List (Int × Int × Int)} {i j : Nat} {w : Int} (h : Wk bs i j w) : Wk (bs.map swp) j i w := by
  induction h with
  | nil => exact .nil _
  | @snoc a b w m hw hm ih =>
    rw [Int.add_comm]
    exact Wk.cons (List.mem_map.2 ⟨_, hm, rfl⟩) ih
end Go.Proofs.Ytklddmmnggcffaa
/-
  Between, turned to this seat: hidden situations, situations that are allowed.
  No conditions.
-/
namespace Go.Proofs.Ytklddmmnggcffaa
open Go Go.Abs Go.PE
set_option linter.unusedVariables false
def i64 (n : Int) : Prop := -9223372036854775808 ≤ n ∧ n ≤ 9223372036854775807
def keeps (y : List Int) (c : Int × Int × Int) : Bool := decide (y.getD c.2.1.toNat 0 - y.getD c.1.toNat 0 ≤ c.2.2)
theorem sys_bnd {x : Int × List (Int × Int × Int)} (h : sys x = true) : (0 ≤ x.1 ∧ x.1 ≤ 16 ∧ x.2.length ≤ 60) ∧ ∀ c ∈ x.2, 0 ≤ c.1 ∧ c.1 < x.1 ∧ 0 ≤ c.2.1 ∧ c.2.1 < x.1 ∧ -1000000000 ≤ c.2.2 ∧ c.2.2 ≤ 1000000000 := by
  unfold sys at h
  rw [Bool.and_eq_true] at h
  refine ⟨of_decide_eq_true h.1, fun c hc => ?_⟩
  exact of_decide_eq_true (List.all_eq_true.1 h.2 c hc)
end Go.Proofs.Ytklddmmnggcffaa
/-
  Between, turned to this seat: the bounds that integers determine.
  No conditions.
-/
namespace Go.Proofs.Ytklddmmnggcffaa
open Go Go.Abs Go.PE
set_option linter.unusedVariables false
theorem tdiv_ok {a b : Int} (ha : i64 a) (hb : 2 ≤ b) : i64 (a.tdiv b) := by
  unfold i64 at *
  have h1 : a.natAbs / b.natAbs ≤ a.natAbs / 2 := Nat.div_le_div_left (by omega) (by omega)
  have h2 : (a.tdiv b).natAbs = a.natAbs / b.natAbs := Int.natAbs_tdiv a b
  omega
theorem wrap_tdiv {a b : Int} (ha : i64 a) (hb : 2 ≤ b) : IntKind.wrap IntKind.i64 (a.tdiv b) = a.tdiv b := by
  have h := tdiv_ok ha hb
  exact wrap_in h.1 h.2
theorem row_mem {α : Type} {m : Nat} {g : Nat → α} {a : α} (h : a ∈ row m g) : ∃ i, i < m ∧ g i = a := by
  obtain ⟨i, hi⟩ := List.mem_iff_getElem?.1 h
  by_cases h' : i < m
  · rw [row_get h'] at hi; exact ⟨i, h', by simpa using hi⟩
  · rw [List.getElem?_eq_none (by rw [row_length]; omega)] at hi; cases hi
end Go.Proofs.Ytklddmmnggcffaa
/-
  Between, turned to this seat: what is allowed keeps all walks; contradictions; bounds turned around.
  No conditions.
-/
namespace Go.Proofs.Ytklddmmnggcffaa
open Go Go.Abs Go.PE
set_option linter.unusedVariables false
abbrev Sys := Int × List (Int × Int × Int)
def ovS (x : Sys) : Bool := ovl (fw x.1.toNat x.2) x.1.toNat
def fwS (x : Sys) : Tab := fw x.1.toNat x.2
theorem sys_all {x : Sys} (h : sys x = true) : x.1.toNat ≤ 16 ∧ x.2.all (bnd (x.1.toNat : Int)) = true ∧ ((x.1.toNat : Nat) : Int) = x.1 := by
  have hs := sys_bnd h
  have e : ((x.1.toNat : Nat) : Int) = x.1 := by omega
  refine ⟨by omega, ?_, e⟩
  rw [e]
  unfold sys at h
  rw [Bool.and_eq_true] at h
  exact h.2
theorem walk_stays {n : Nat} {bs : List (Int × Int × Int)} (hb : bs.all (bnd (n : Int)) = true) {i j : Nat} {w : Int} (hi : i < n) (h : Wk bs i j w) : j < n := by
  induction h with
  | nil => exact hi
  | snoc _ hm _ =>
    have := of_decide_eq_true (List.all_eq_true.1 hb _ hm)
    simp only at this
    omega
theorem keep_walk {bs : List (Int × Int × Int)} {f : Nat → Int} (hk : ∀ a b : Nat, ∀ m : Int, ((a : Int), (b : Int), m) ∈ bs → f b - f a ≤ m) {i j : Nat} {w : Int} (h : Wk bs i j w) : f j - f i ≤ w := by
  induction h with
  | nil => omega
  | snoc _ hm ih => have := hk _ _ _ hm; omega
theorem ov_walk {x : Sys} (hs : sys x = true) (h : ovS x = true) : ∃ i w, i < x.1.toNat ∧ w < 0 ∧ Wk x.2 i i w := by
  obtain ⟨hn, hb, _⟩ := sys_all hs
  obtain ⟨i, hi, hlt⟩ := (ovl_iff _ _).1 h
  rcases fw_ent hn hb i i hi hi with e | ⟨_, _, e⟩
  · omega
  · exact ⟨i, _, hi, hlt, e⟩
theorem ov_of_walk {x : Sys} (hs : sys x = true) {i : Nat} {w : Int} (hi : i < x.1.toNat) (hw : w < 0) (h : Wk x.2 i i w) : ovS x = true := by
  obtain ⟨hn, hb, _⟩ := sys_all hs
  cases hov : ovS x with
  | true => rfl
  | false =>
    obtain ⟨_, _, h3⟩ := fw_least hn hb hov hi h
    have := fw_diag (bs := x.2) hov (Nat.le_refl _) hi
    have e : fw x.1.toNat x.2 i i = rounds x.1.toNat (x.2.foldl addB d0) x.1.toNat i i := rfl
    omega
theorem fw_cases {x : Sys} (hs : sys x = true) (ho : ovS x = false) {i j : Nat} (hi : i < x.1.toNat) (hj : j < x.1.toNat) :
    (fwS x i j = 1152921504606846976 ∧ ∀ w, ¬ Wk x.2 i j w) ∨ (-100000000000000000 ≤ fwS x i j ∧ fwS x i j ≤ 100000000000000000 ∧ Wk x.2 i j (fwS x i j) ∧ ∀ w, Wk x.2 i j w → fwS x i j ≤ w) := by
  obtain ⟨hn, hb, _⟩ := sys_all hs
  rcases fw_ent hn hb i j hi hj with e | ⟨e1, e2, e3⟩
  · refine .inl ⟨e, fun w hw => ?_⟩
    have := (fw_least hn hb ho hi hw).2.1
    omega
  · exact .inr ⟨e1, e2, e3, fun w hw => (fw_least hn hb ho hi hw).2.2⟩
theorem fw_self {x : Sys} (ho : ovS x = false) {i : Nat} (hi : i < x.1.toNat) : fwS x i i = 0 := fw_diag (bs := x.2) ho (Nat.le_refl _) hi
theorem m12_good {x : Sys} (hs : sys x = true) (h : ovS x = false) : m12 x = some (rt x.1.toNat (fun _ => x.1.toNat) (fwS x), 0) := by
  rw [m12_eq, hs]
  unfold ovS at h
  rw [h]
  rfl
theorem m12_bad {x : Sys} (hs : sys x = true) (h : ovS x = true) : m12 x = some ([], 90) := by
  rw [m12_eq, hs]
  unfold ovS at h
  rw [h]
  rfl
end Go.Proofs.Ytklddmmnggcffaa
/-
  Between, turned to this seat: the law BetweenMirrors.
  No conditions.
-/
namespace Go.Proofs.Ytklddmmnggcffaa
open Go Go.Abs Go.PE
set_option linter.unusedVariables false
end Go.Proofs.Ytklddmmnggcffaa
/-
  Between, turned to this seat: Solve; systems of small bounds.
  No conditions.
-/
namespace Go.Proofs.Ytklddmmnggcffaa
open Go Go.Abs Go.PE
set_option linter.unusedVariables false
theorem lenRow {α : Type} (m : Nat) (g : Nat → α) : lenM (row m g) = (m : Int) := by show ((row m g).length : Int) = _; rw [row_length]
end Go.Proofs.Ytklddmmnggcffaa
/-
  Between, turned to this seat: the law BetweenSolves.
  No conditions.
-/
namespace Go.Proofs.Ytklddmmnggcffaa
open Go Go.Abs Go.PE
set_option linter.unusedVariables false
end Go.Proofs.Ytklddmmnggcffaa
/-
  Between, turned to this seat: the law BetweenLeast.
  No conditions.
-/
namespace Go.Proofs.Ytklddmmnggcffaa
open Go Go.Abs Go.PE
set_option linter.unusedVariables false
end Go.Proofs.Ytklddmmnggcffaa
/-
  Between, turned to this seat: walks of a given number of bounds; short walks.
  No conditions.
-/
namespace Go.Proofs.Ytklddmmnggcffaa
open Go Go.Abs Go.PE
set_option linter.unusedVariables false
inductive WN (bs : List (Int × Int × Int)) : Nat → Nat → Nat → Int → Prop
  | nil (i : Nat) : WN bs i i 0 0
  | cons {i a j m : Nat} {c w : Int} : ((i : Int), (a : Int), c) ∈ bs → WN bs a j m w → WN bs i j (m + 1) (c + w)
section
variable {bs : List (Int × Int × Int)}
theorem WN.one {i a : Nat} {c : Int} (h : ((i : Int), (a : Int), c) ∈ bs) : WN bs i a 1 c := by
  have := WN.cons h (WN.nil a)
  rw [Int.add_zero] at this
  exact this
theorem WN.trans {i j k m m' : Nat} {w w' : Int} (h : WN bs i j m w) (h2 : WN bs j k m' w') : WN bs i k (m + m') (w + w') := by
  induction h with
  | nil => rw [Nat.zero_add, Int.zero_add]; exact h2
  | @cons i a j m c w hm _ ih =>
    rw [Nat.add_right_comm, Int.add_assoc]
    exact .cons hm (ih h2)
theorem WN.snoc {i a b m : Nat} {w c : Int} (h : WN bs i a m w) (hm : ((a : Int), (b : Int), c) ∈ bs) : WN bs i b (m + 1) (w + c) := h.trans (.one hm)
theorem WN.wk {i j m : Nat} {w : Int} (h : WN bs i j m w) : Wk bs i j w := by
  induction h with
  | nil => exact .nil _
  | cons hm _ ih => exact Wk.cons hm ih
theorem Wk.wn {i j : Nat} {w : Int} (h : Wk bs i j w) : ∃ m, WN bs i j m w := by
  induction h with
  | nil => exact ⟨0, .nil _⟩
  | snoc _ hm ih =>
    obtain ⟨m, h⟩ := ih
    exact ⟨m + 1, h.snoc hm⟩
theorem WN.zero {i j : Nat} {w : Int} (h : WN bs i j 0 w) : i = j ∧ w = 0 := by
  cases h
  exact ⟨rfl, rfl⟩
theorem WN.last {i j m : Nat} {w : Int} (h : WN bs i j (m + 1) w) : ∃ a c w', WN bs i a m w' ∧ ((a : Int), (j : Int), c) ∈ bs ∧ w = w' + c := by
  generalize hk : m + 1 = k at h
  induction h generalizing m with
  | nil => omega
  | @cons i a j m' c w hm h1 ih =>
    cases m with
    | zero =>
      have : m' = 0 := by omega
      subst this
      obtain ⟨rfl, rfl⟩ := h1.zero
      exact ⟨i, c, 0, .nil _, hm, by omega⟩
    | succ m =>
      obtain ⟨b, c', w', h2, h3, h4⟩ := ih (m := m) (by omega)
      exact ⟨b, c', c + w', .cons hm h2, h3, by omega⟩
theorem WN.stations {i j m : Nat} {w : Int} (h : WN bs i j m w) : ∃ (v : Nat → Nat) (s : Nat → Int), v 0 = i ∧ v m = j ∧ s 0 = 0 ∧ s m = w ∧ ∀ k, k < m → ((v k : Int), (v (k + 1) : Int), s (k + 1) - s k) ∈ bs := by
  induction h with
  | nil i => exact ⟨fun _ => i, fun _ => 0, rfl, rfl, rfl, rfl, fun k hk => by omega⟩
  | @cons i a j m c w hm _ ih =>
    obtain ⟨v, s, h0, h1, h2, h3, h4⟩ := ih
    refine ⟨fun k => match k with | 0 => i | k + 1 => v k, fun k => match k with | 0 => 0 | k + 1 => c + s k, rfl, h1, rfl, by show c + s m = _; rw [h3], fun k hk => ?_⟩
    cases k with
    | zero =>
      show ((i : Int), (v 0 : Int), c + s 0 - 0) ∈ bs
      rw [h0, h2, Int.add_zero, Int.sub_zero]
      exact hm
    | succ k =>
      have := h4 k (by omega)
      show ((v k : Int), (v (k + 1) : Int), c + s (k + 1) - (c + s k)) ∈ bs
      have e : c + s (k + 1) - (c + s k) = s (k + 1) - s k := by omega
      rw [e]
      exact this
theorem seg {m : Nat} {v : Nat → Nat} {s : Nat → Int} (h : ∀ k, k < m → ((v k : Int), (v (k + 1) : Int), s (k + 1) - s k) ∈ bs) (a : Nat) : ∀ d, a + d ≤ m → WN bs (v a) (v (a + d)) d (s (a + d) - s a)
  | 0, _ => by
    have e : s (a + 0) - s a = 0 := by rw [Nat.add_zero]; omega
    rw [e]
    exact .nil _
  | d + 1, hd => by
    have h1 := (seg h a d (by omega)).snoc (h (a + d) (by omega))
    have e : s (a + d) - s a + (s (a + d + 1) - s (a + d)) = s (a + (d + 1)) - s a := by rw [Nat.add_assoc]; omega
    rw [e] at h1
    exact h1
end
theorem pigeon : ∀ (n : Nat) (v : Nat → Nat), (∀ k, k ≤ n → v k < n) → ∃ a b, a < b ∧ b ≤ n ∧ v a = v b
  | 0, v, h => absurd (h 0 (Nat.le_refl _)) (Nat.not_lt_zero _)
  | n + 1, v, h => by
    by_cases hx : ∃ k, k ≤ n ∧ v k = v (n + 1)
    · obtain ⟨k, hk, e⟩ := hx
      exact ⟨k, n + 1, by omega, Nat.le_refl _, e⟩
    · have hne : ∀ k, k ≤ n → v k ≠ v (n + 1) := fun k hk e => hx ⟨k, hk, e⟩
      obtain ⟨a, b, hab, hb, e⟩ := pigeon n (fun k => if v k = n then v (n + 1) else v k) (fun k hk => by
        have h1 := h k (by omega)
        have h2 := h (n + 1) (Nat.le_refl _)
        have h3 := hne k hk
        split <;> omega)
      refine ⟨a, b, hab, by omega, ?_⟩
      have h1 := hne a (by omega)
      have h2 := hne b hb
      split at e <;> split at e <;> omega
theorem WN.stays {n : Nat} {bs : List (Int × Int × Int)} (hb : bs.all (bnd (n : Int)) = true) {i j m : Nat} {w : Int} (hi : i < n) (h : WN bs i j m w) : j < n := walk_stays hb hi h.wk
theorem WN.cut {n : Nat} {bs : List (Int × Int × Int)} (hb : bs.all (bnd (n : Int)) = true) {i j m : Nat} {w : Int} (hi : i < n) (hm : n ≤ m) (h : WN bs i j m w) :
    ∃ u m1 m2 m3 w1 w2 w3, u < n ∧ 1 ≤ m2 ∧ m2 ≤ n ∧ m1 + m2 + m3 = m ∧ w = w1 + w2 + w3 ∧ WN bs i u m1 w1 ∧ WN bs u u m2 w2 ∧ WN bs u j m3 w3 := by
  obtain ⟨v, s, h0, h1, h2, h3, h4⟩ := h.stations
  have hv : ∀ k, k ≤ m → v k < n := fun k hk => by
    have := seg h4 0 k (by omega)
    rw [Nat.zero_add, h0] at this
    exact this.stays hb hi
  obtain ⟨a, b, hab, hbn, e⟩ := pigeon n v fun k hk => hv k (by omega)
  have s1 := seg h4 0 a (by omega)
  have s2 := seg h4 a (b - a) (by omega)
  have s3 := seg h4 b (m - b) (by omega)
  rw [Nat.zero_add, h0, h2] at s1
  rw [show a + (b - a) = b by omega, ← e] at s2
  rw [show b + (m - b) = m by omega, h1, h3, ← e] at s3
  exact ⟨v a, a, b - a, m - b, _, _, _, hv a (by omega), by omega, by omega, by omega, by omega, s1, s2, s3⟩
theorem WN.short {n : Nat} {bs : List (Int × Int × Int)} (hb : bs.all (bnd (n : Int)) = true) (hno : ∀ u m w, u < n → WN bs u u m w → 0 ≤ w) {i j : Nat} (hi : i < n) : ∀ {m : Nat} {w : Int}, WN bs i j m w → ∃ m' w', m' < n ∧ w' ≤ w ∧ WN bs i j m' w' := by
  intro m
  induction m using Nat.strongRecOn with
  | ind m ih =>
    intro w h
    by_cases hm : m < n
    · exact ⟨m, w, hm, Int.le_refl _, h⟩
    · obtain ⟨u, m1, m2, m3, w1, w2, w3, hu, g1, _, g2, g3, g4, g5, g6⟩ := h.cut hb hi (by omega)
      have := hno u m2 w2 hu g5
      obtain ⟨m', w', k1, k2, k3⟩ := ih (m1 + m3) (by omega) (g4.trans g6)
      exact ⟨m', w', k1, by omega, k3⟩
theorem WN.cycle {n : Nat} {bs : List (Int × Int × Int)} (hb : bs.all (bnd (n : Int)) = true) : ∀ (m : Nat) {i : Nat} {w : Int}, i < n → w < 0 → WN bs i i m w → ∃ i' m' w', i' < n ∧ 1 ≤ m' ∧ m' ≤ n ∧ w' < 0 ∧ WN bs i' i' m' w' := by
  intro m
  induction m using Nat.strongRecOn with
  | ind m ih =>
    intro i w hi hw h
    by_cases hm : m ≤ n
    · refine ⟨i, m, w, hi, ?_, hm, hw, h⟩
      cases m with
      | zero => have := h.zero.2; omega
      | succ m => omega
    · obtain ⟨u, m1, m2, m3, w1, w2, w3, hu, g1, g0, g2, g3, g4, g5, g6⟩ := h.cut hb hi (by omega)
      by_cases h2 : w2 < 0
      · exact ⟨u, m2, w2, hu, g1, g0, h2, g5⟩
      · exact ih (m1 + m3) (by omega) hi (by omega) (g4.trans g6)
end Go.Proofs.Ytklddmmnggcffaa
/-
  Between, turned to this seat: the tables of the least sums of walks of a given number of bounds.
  No conditions.
-/
namespace Go.Proofs.Ytklddmmnggcffaa
open Go Go.Abs Go.PE
set_option linter.unusedVariables false
def farT : Tab := fun _ _ => 1152921504606846976
def addW (d t : Tab) (c : Int × Int × Int) : Tab := fun i j => if j = c.2.1.toNat then min (t i j) (pl (d i c.1.toNat) c.2.2) else t i j
def nxt (bs : List (Int × Int × Int)) (d : Tab) : Tab := bs.foldl (addW d) farT
def wkT (bs : List (Int × Int × Int)) : Nat → Tab
  | 0 => d0
  | m + 1 => nxt bs (wkT bs m)
theorem addW_le (d t : Tab) (c : Int × Int × Int) (i j : Nat) : addW d t c i j ≤ t i j := by
  unfold addW
  split
  · exact Int.min_le_left _ _
  · exact Int.le_refl _
theorem foldW_le (d : Tab) : ∀ (cs : List (Int × Int × Int)) (t : Tab) (i j : Nat), cs.foldl (addW d) t i j ≤ t i j
  | [], _, _, _ => Int.le_refl _
  | c :: cs, t, i, j => Int.le_trans (foldW_le d cs _ i j) (addW_le d t c i j)
theorem foldW_bound (d : Tab) : ∀ (cs : List (Int × Int × Int)) (t : Tab) (i : Nat) (c : Int × Int × Int), c ∈ cs → cs.foldl (addW d) t i c.2.1.toNat ≤ pl (d i c.1.toNat) c.2.2
  | c' :: cs, t, i, c, h => by
    rcases List.mem_cons.1 h with rfl | h
    · refine Int.le_trans (foldW_le d cs _ i _) ?_
      unfold addW
      rw [if_pos rfl]
      exact Int.min_le_right _ _
    · exact foldW_bound d cs _ i c h
theorem foldW_is (d : Tab) : ∀ (cs : List (Int × Int × Int)) (t : Tab) (i j : Nat), cs.foldl (addW d) t i j = t i j ∨ ∃ c, c ∈ cs ∧ c.2.1.toNat = j ∧ cs.foldl (addW d) t i j = pl (d i c.1.toNat) c.2.2
  | [], t, i, j => .inl rfl
  | c :: cs, t, i, j => by
    rcases foldW_is d cs (addW d t c) i j with h | ⟨c', h1, h2, h3⟩
    · rw [List.foldl_cons, h]
      unfold addW
      by_cases e : j = c.2.1.toNat
      · rw [if_pos e]
        by_cases e2 : t i j ≤ pl (d i c.1.toNat) c.2.2
        · rw [Int.min_eq_left e2]; exact .inl rfl
        · rw [Int.min_eq_right (by omega)]; exact .inr ⟨c, List.mem_cons_self .., e.symm, rfl⟩
      · rw [if_neg e]; exact .inl rfl
    · exact .inr ⟨c', List.mem_cons_of_mem _ h1, h2, h3⟩
def EntW (bs : List (Int × Int × Int)) (m i j : Nat) (x : Int) : Prop :=
  (x = 1152921504606846976 ∧ ∀ w, ¬ WN bs i j m w) ∨ (-(m * 1000000000) ≤ x ∧ x ≤ m * 1000000000 ∧ WN bs i j m x ∧ ∀ w, WN bs i j m w → x ≤ w)
theorem pl_fin {a b : Int} (ha : -1000000000000000 ≤ a ∧ a ≤ 1000000000000000) (hb : -1000000000 ≤ b ∧ b ≤ 1000000000) : pl a b = a + b := by
  unfold pl
  rw [if_neg (by omega), wrap_in (by omega) (by omega)]
theorem pl_far (b : Int) : pl 1152921504606846976 b = 1152921504606846976 := by
  unfold pl
  rw [if_pos (.inl rfl)]
theorem wk_ent {n : Nat} {bs : List (Int × Int × Int)} (hb : bs.all (bnd (n : Int)) = true) : ∀ m, m ≤ 1000 → ∀ i j, i < n → j < n → EntW bs m i j (wkT bs m i j)
  | 0, _, i, j, hi, hj => by
    show EntW bs 0 i j (d0 i j)
    unfold d0
    by_cases e : i = j
    · subst e
      rw [if_pos rfl]
      exact .inr ⟨by omega, by omega, .nil i, fun w h => by have := h.zero.2; omega⟩
    · rw [if_neg e]
      exact .inl ⟨rfl, fun w h => e h.zero.1⟩
  | m + 1, hm, i, j, hi, hj => by
    have ih := fun i j hi hj => wk_ent hb m (by omega) i j hi hj
    have hsz : ∀ a : Nat, a < n → wkT bs m i a = 1152921504606846976 ∨ (-(m * 1000000000) ≤ wkT bs m i a ∧ wkT bs m i a ≤ m * 1000000000) := fun a ha => by
      rcases ih i a hi ha with ⟨e, _⟩ | ⟨e1, e2, _⟩
      · exact .inl e
      · exact .inr ⟨e1, e2⟩
    have hupper : ∀ w, WN bs i j (m + 1) w → wkT bs (m + 1) i j ≤ w ∧ wkT bs (m + 1) i j ≤ (m + 1) * 1000000000 := fun w hw => by
      obtain ⟨a, c, w', h1, h2, h3⟩ := hw.last
      have ha := h1.stays hb hi
      have hc := of_decide_eq_true (List.all_eq_true.1 hb _ h2)
      simp only at hc
      have hf := foldW_bound (wkT bs m) bs farT i _ h2
      have t1 : ((a : Int)).toNat = a := by omega
      have t2 : ((j : Int)).toNat = j := by omega
      simp only [t1, t2] at hf
      rcases ih i a hi ha with ⟨_, e⟩ | ⟨e1, e2, _, e4⟩
      · exact absurd h1 (e _)
      · rw [pl_fin (by omega) (by omega)] at hf
        have := e4 _ h1
        have hh : wkT bs (m + 1) i j ≤ wkT bs m i a + c := hf
        omega
    rcases foldW_is (wkT bs m) bs farT i j with h | ⟨c, h1, h2, h3⟩
    · have h' : wkT bs (m + 1) i j = 1152921504606846976 := h
      refine .inl ⟨h', fun w hw => ?_⟩
      have := (hupper w hw).2
      omega
    · obtain ⟨a, b, ha, hb', e1, e2, e3, e4⟩ := bnd_of (List.all_eq_true.1 hb _ h1)
      have t1 : c.1.toNat = a := by omega
      have t2 : b = j := by omega
      subst t2
      have h3' : wkT bs (m + 1) i b = pl (wkT bs m i a) c.2.2 := by rw [← t1]; exact h3
      rcases ih i a hi ha with ⟨e, _⟩ | ⟨g1, g2, g3, g4⟩
      · rw [e, pl_far] at h3'
        refine .inl ⟨h3', fun w hw => ?_⟩
        have := (hupper w hw).2
        omega
      · rw [pl_fin (by omega) (by omega)] at h3'
        have hm' : ((a : Int), (b : Int), c.2.2) ∈ bs := by rw [← e1, ← e2]; exact h1
        refine .inr ⟨?_, ?_, ?_, fun w hw => (hupper w hw).1⟩
        · rw [h3']; omega
        · rw [h3']; omega
        · rw [h3']; exact g3.snoc hm'
theorem wk_le {n : Nat} {bs : List (Int × Int × Int)} (hb : bs.all (bnd (n : Int)) = true) {m i j : Nat} {w : Int} (hm : m ≤ 1000) (hi : i < n) (h : WN bs i j m w) : wkT bs m i j ≤ w ∧ wkT bs m i j < 1000000000000000 := by
  rcases wk_ent hb m hm i j hi (h.stays hb hi) with ⟨_, e⟩ | ⟨_, _, _, e⟩
  · exact absurd h (e _)
  · exact ⟨e _ h, by omega⟩
theorem wk_walk {n : Nat} {bs : List (Int × Int × Int)} (hb : bs.all (bnd (n : Int)) = true) {m i j : Nat} (hm : m ≤ 1000) (hi : i < n) (hj : j < n) (h : wkT bs m i j ≠ 1152921504606846976) : WN bs i j m (wkT bs m i j) := by
  rcases wk_ent hb m hm i j hi hj with ⟨e, _⟩ | ⟨_, _, e, _⟩
  · exact absurd e h
  · exact e
theorem wk_sz {n : Nat} {bs : List (Int × Int × Int)} (hb : bs.all (bnd (n : Int)) = true) {m i j : Nat} (hm : m ≤ 1000) (hi : i < n) (hj : j < n) : wkT bs m i j = 1152921504606846976 ∨ (-1000000000000 ≤ wkT bs m i j ∧ wkT bs m i j ≤ 1000000000000) := by
  rcases wk_ent hb m hm i j hi hj with ⟨e, _⟩ | ⟨e1, e2, _⟩
  · exact .inl e
  · exact .inr ⟨by omega, by omega⟩
end Go.Proofs.Ytklddmmnggcffaa
/-
  Between, turned to this seat: the next table of walks is what the model computes.
  No conditions.
-/
namespace Go.Proofs.Ytklddmmnggcffaa
open Go Go.Abs Go.PE
set_option linter.unusedVariables false
theorem m72_eq (i j : Int) : m72 (i, j) = some 1152921504606846976 := rfl
theorem far_rows {n : Nat} (hn : n ≤ 16) {i : Nat} (hi : i < n) :
    loopM (fun (s_1 : Int × List (List Int)) =>
      bif ltM s_1.1 (n : Int) then
        Option.bind (chkM (i : Int) (lenM s_1.2)) fun (r_1 : Unit) =>
          Option.bind (chkM (i : Int) (lenM s_1.2)) fun (r_2 : Unit) =>
            Option.bind (m72 ((i : Int), s_1.1)) fun (r_3 : Int) =>
              Option.bind (app2M (nat_lit 8) s_1.2 (i : Int) [r_3]) fun (r_4 : List (List Int)) =>
                Option.bind (chkM (i : Int) (lenM r_4)) fun (r_5 : Unit) =>
                  Option.bind
                    (Option.bind (sameM (i : Int) (i : Int)) fun (x : Unit) =>
                      Option.bind (sameM (i : Int) (i : Int)) fun (x : Unit) => chkM (i : Int) (lenM r_4))
                    fun (r : Unit) => some (Sum.inl (IntKind.wrap IntKind.i64 (s_1.1 + (1 : Int)), r_4))
      else some (Sum.inr s_1.2)) ((0 : Int), rt n (fun a => if a < i then n else 0) farT) = some (rt n (fun a => if a < i + 1 then n else 0) farT) := by
  have e0 : rt n (fun a => if a < i then n else 0) farT = rt n (fun a => if a < i then n else if a = i then 0 else 0) farT := rt_congr (fun a _ => by simp) fun _ _ _ _ => rfl
  rw [e0]
  refine count_loop (fun j => rt n (fun a => if a < i then n else if a = i then j else 0) farT) n (fun j hj => ?_) ?_
  · have hl : ∀ (len : Nat → Nat), chkM (i : Int) (lenM (rt n len farT)) = some () := fun len => chkM_of (by omega) (by show (i : Int) < ((rt n len farT).length : Int); rw [rt_length]; omega)
    simp only [lt_true (a := (j : Int)) (b := (n : Int)) (by omega), cond_true, hl, Option.bind_some, m72_eq, sameM_self]
    have hj' : (if i < i then n else if i = i then j else 0) = j := by simp
    have hap := rt_app (n := n) (len := fun a => if a < i then n else if a = i then j else 0) (d := farT) (i := i) (b := 8) hi (by simp; omega)
    rw [hj'] at hap
    have hap' : app2M (nat_lit 8) (rt n (fun a => if a < i then n else if a = i then j else 0) farT) (i : Int) [1152921504606846976] = _ := hap
    rw [hap', Option.bind_some, hl, Option.bind_some, Option.bind_some, wrap_in (by omega) (by omega)]
    congr 3
    refine rt_congr (fun a _ => ?_) fun _ _ _ _ => rfl
    unfold upl
    by_cases e : a = i <;> simp [e]
  · simp only [lt_false (a := (n : Int)) (b := (n : Int)) (by omega), cond_false]
    congr 2
    refine rt_congr (fun a _ => ?_) fun _ _ _ _ => rfl
    by_cases e : a < i
    · rw [if_pos e, if_pos (by omega)]
    · by_cases e' : a = i
      · rw [if_neg e, if_pos e', if_pos (by omega)]
      · rw [if_neg e, if_neg e', if_neg (by omega)]
theorem far_loop {n : Nat} (hn : n ≤ 16) : loopM
        (fun (s : Int × List (List Int)) =>
          bif ltM s.1 (n : Int) then
            Option.bind
              (loopM
                (fun (s_1 : Int × List (List Int)) =>
                  bif ltM s_1.1 (n : Int) then
                    Option.bind (chkM s.1 (lenM s_1.2)) fun (r_1 : Unit) =>
                      Option.bind (chkM s.1 (lenM s_1.2)) fun (r_2 : Unit) =>
                        Option.bind (m72 (s.1, s_1.1)) fun (r_3 : Int) =>
                          Option.bind (app2M (nat_lit 8) s_1.2 s.1 [r_3]) fun (r_4 : List (List Int)) =>
                            Option.bind (chkM s.1 (lenM r_4)) fun (r_5 : Unit) =>
                              Option.bind
                                (Option.bind (sameM s.1 s.1) fun (x : Unit) =>
                                  Option.bind (sameM s.1 s.1) fun (x : Unit) => chkM s.1 (lenM r_4))
                                fun (r : Unit) => some (Sum.inl (IntKind.wrap IntKind.i64 (s_1.1 + (1 : Int)), r_4))
                  else some (Sum.inr s_1.2))
                ((0 : Int), s.2))
              fun (o : List (List Int)) => some (Sum.inl (IntKind.wrap IntKind.i64 (s.1 + (1 : Int)), o))
          else some (Sum.inr s.2))
        ((0 : Int), List.replicate ((n : Int)).toNat ([] : List Int)) = some (rt n (fun _ => n) farT) := by
  have e0 : List.replicate ((n : Int)).toNat ([] : List Int) = rt n (fun a => if a < 0 then n else 0) farT := by
    have ht : ((n : Int)).toNat = n := by omega
    rw [ht, replicate_row]
    exact row_congr fun i _ => rfl
  rw [e0]
  refine count_loop (fun i => rt n (fun a => if a < i then n else 0) farT) n (r := rt n (fun _ => n) farT) (fun i hi => ?_) ?_
  · simp only [lt_true (a := (i : Int)) (b := (n : Int)) (by omega), cond_true]
    rw [far_rows hn hi, Option.bind_some, wrap_in (by omega) (by omega)]
  · simp only [lt_false (a := (n : Int)) (b := (n : Int)) (by omega), cond_false]
    congr 2
    exact rt_congr (fun a ha => if_pos ha) fun _ _ _ _ => rfl
theorem bound_rows {n : Nat} (hn : n ≤ 16) {c : Int × Int × Int} (hc : bnd (n : Int) c = true) (d t : Tab) : loopM
                                                    (fun (s_2 : Int × List (List Int)) =>
                                                      bif ltM s_2.1 (n : Int) then
                                                        Option.bind (chkM s_2.1 (lenM s_2.2)) fun (r_11 : Unit) =>
                                                          Option.bind (chkM s_2.1 (lenM s_2.2)) fun (r_12 : Unit) =>
                                                            Option.bind (chkM s_2.1 (lenM s_2.2)) fun (r_13 : Unit) =>
                                                              Option.bind (chkM s_2.1 (lenM s_2.2)) fun (r_14 : Unit) =>
                                                                Option.bind
                                                                  (Option.bind (idxM s_2.2 s_2.1) fun (xs : List Int) =>
                                                                    chkM c.2.1 (lenM xs))
                                                                  fun (r_15 : Unit) =>
                                                                  Option.bind
                                                                    (Option.bind (idxM s_2.2 s_2.1) fun (xs : List Int) =>
                                                                      Option.bind (idxM xs c.2.1) fun (x : Int) =>
                                                                        some x)
                                                                    fun (r_16 : Int) =>
                                                                    Option.bind (idxM (rt n (fun _ => n) d) s_2.1) fun (r_17 : List Int) =>
                                                                      Option.bind (idxM r_17 c.1) fun (r_18 : Int) =>
                                                                        Option.bind (m56 (r_18, c.2.2))
                                                                          fun (r_19 : Int) =>
                                                                          Option.bind
                                                                            (Option.bind (idxM s_2.2 s_2.1)
                                                                              fun (xs : List Int) =>
                                                                              chkM c.2.1 (lenM xs))
                                                                            fun (r_20 : Unit) =>
                                                                            Option.bind
                                                                              (set2M s_2.2 s_2.1 c.2.1 fun (x : Int) =>
                                                                                some (min r_16 r_19))
                                                                              fun (r : List (List Int)) =>
                                                                              some
                                                                                (Sum.inl
                                                                                  (IntKind.wrap IntKind.i64
                                                                                      (s_2.1 + (1 : Int)),
                                                                                    r))
                                                      else some (Sum.inr s_2.2))
                                                    ((0 : Int), rt n (fun _ => n) t) = some (rt n (fun _ => n) (addW d t c)) := by
  obtain ⟨a, b, ha, hb, e1, e2, e3, e4⟩ := bnd_of hc
  have e0 : rt n (fun _ => n) t = rt n (fun _ => n) (fun i j => if i < 0 then addW d t c i j else t i j) := rt_congr (fun _ _ => rfl) fun i j _ _ => by rw [if_neg (by omega)]
  rw [e0]
  refine count_loop (fun k => rt n (fun _ => n) (fun i j => if i < k then addW d t c i j else t i j)) n (fun k hk => ?_) ?_
  · simp only [lt_true (a := (k : Int)) (b := (n : Int)) (by omega), cond_true, Option.bind_some, e1, e2, chk_rt hk, rt_idx hk, chk_row hb, row_idx hb, row_idx ha, m56_pl]
    refine bind_of (rt_set (y := addW d t c k b) hk hb ?_) ?_
    · rw [if_neg (by omega)]
      unfold addW
      have t1 : c.1.toNat = a := by omega
      have t2 : c.2.1.toNat = b := by omega
      rw [t1, t2, if_pos rfl]
    · rw [wrap_in (by omega) (by omega)]
      congr 3
      refine rt_congr (fun _ _ => rfl) fun i j hi hj => ?_
      unfold upd
      dsimp only
      by_cases e : i = k
      · subst e
        rw [if_pos (show i < i + 1 by omega)]
        by_cases e' : j = b
        · subst e'; rw [if_pos ⟨rfl, rfl⟩]
        · rw [if_neg fun h => e' h.2, if_neg (by omega)]
          unfold addW
          rw [if_neg (by omega)]
      · rw [if_neg fun h => e h.1]
        by_cases e' : i < k
        · rw [if_pos e', if_pos (by omega)]
        · rw [if_neg e', if_neg (by omega)]
  · simp only [lt_false (a := (n : Int)) (b := (n : Int)) (by omega), cond_false]
    congr 2
    exact rt_congr (fun _ _ => rfl) fun i j hi _ => if_pos hi
theorem next_loop {n : Nat} (hn : n ≤ 16) {bs : List (Int × Int × Int)} (hl : bs.length ≤ 60) (hb : bs.all (bnd (n : Int)) = true) (d : Tab) : loopM
                                          (fun (s_1 : Int × List (List Int)) =>
                                            bif ltM s_1.1 (lenM bs) then
                                              Option.bind (idxM bs s_1.1) fun (r_10 : Int × Int × Int) =>
                                                Option.bind
                                                  (loopM
                                                    (fun (s_2 : Int × List (List Int)) =>
                                                      bif ltM s_2.1 (n : Int) then
                                                        Option.bind (chkM s_2.1 (lenM s_2.2)) fun (r_11 : Unit) =>
                                                          Option.bind (chkM s_2.1 (lenM s_2.2)) fun (r_12 : Unit) =>
                                                            Option.bind (chkM s_2.1 (lenM s_2.2)) fun (r_13 : Unit) =>
                                                              Option.bind (chkM s_2.1 (lenM s_2.2)) fun (r_14 : Unit) =>
                                                                Option.bind
                                                                  (Option.bind (idxM s_2.2 s_2.1) fun (xs : List Int) =>
                                                                    chkM r_10.2.1 (lenM xs))
                                                                  fun (r_15 : Unit) =>
                                                                  Option.bind
                                                                    (Option.bind (idxM s_2.2 s_2.1) fun (xs : List Int) =>
                                                                      Option.bind (idxM xs r_10.2.1) fun (x : Int) =>
                                                                        some x)
                                                                    fun (r_16 : Int) =>
                                                                    Option.bind (idxM (rt n (fun _ => n) d) s_2.1) fun (r_17 : List Int) =>
                                                                      Option.bind (idxM r_17 r_10.1) fun (r_18 : Int) =>
                                                                        Option.bind (m56 (r_18, r_10.2.2))
                                                                          fun (r_19 : Int) =>
                                                                          Option.bind
                                                                            (Option.bind (idxM s_2.2 s_2.1)
                                                                              fun (xs : List Int) =>
                                                                              chkM r_10.2.1 (lenM xs))
                                                                            fun (r_20 : Unit) =>
                                                                            Option.bind
                                                                              (set2M s_2.2 s_2.1 r_10.2.1 fun (x : Int) =>
                                                                                some (min r_16 r_19))
                                                                              fun (r : List (List Int)) =>
                                                                              some
                                                                                (Sum.inl
                                                                                  (IntKind.wrap IntKind.i64
                                                                                      (s_2.1 + (1 : Int)),
                                                                                    r))
                                                      else some (Sum.inr s_2.2))
                                                    ((0 : Int), s_1.2))
                                                  fun (o : List (List Int)) =>
                                                  some (Sum.inl (IntKind.wrap IntKind.i64 (s_1.1 + (1 : Int)), o))
                                            else some (Sum.inr s_1.2))
                                          ((0 : Int), rt n (fun _ => n) farT) = some (rt n (fun _ => n) (nxt bs d)) := by
  refine count_loop (fun k => rt n (fun _ => n) ((bs.take k).foldl (addW d) farT)) bs.length (fun k hk => ?_) ?_
  · simp only [lt_true (a := (k : Int)) (b := lenM bs) (by show (k : Int) < (bs.length : Int); omega), cond_true, idxM_lt hk, Option.bind_some]
    refine bind_of (bound_rows hn (List.all_eq_true.1 hb _ (List.getElem_mem hk)) d _) ?_
    rw [wrap_in (by omega) (by omega), foldl_take (addW d) farT bs k hk]
  · simp only [lt_false (a := (bs.length : Int)) (b := lenM bs) (by show ¬ (bs.length : Int) < (bs.length : Int); omega), cond_false, List.take_length]
    rfl
end Go.Proofs.Ytklddmmnggcffaa
/-
  Between, turned to this seat: the first chain, as the model computes it.
  No conditions.
-/
namespace Go.Proofs.Ytklddmmnggcffaa
open Go Go.Abs Go.PE
set_option linter.unusedVariables false
def stp (bs : List (Int × Int × Int)) (to m f : Nat) (q : Int) (c : Int × Int × Int) : Bool := decide (c.1 = (f : Int)) && decide (pl c.2.2 (wkT bs m c.2.1.toNat to) ≤ q)
def chP (bs : List (Int × Int × Int)) (to : Nat) : Nat → Nat → Int → List Int
  | 0, _, _ => []
  | m + 1, f, q => match bs.findIdx? (stp bs to m f q) with
    | some k => (k : Int) :: chP bs to m (bs.getD k (0, 0, 0)).2.1.toNat (q - (bs.getD k (0, 0, 0)).2.2)
    | none => []
theorem pl_sz {a b : Int} (ha : -1000000000000000 ≤ a ∧ a ≤ 1000000000000000) (hb : -1000000000000000 ≤ b ∧ b ≤ 1000000000000000) : pl a b = a + b := by
  unfold pl
  rw [if_neg (by omega), wrap_in (by omega) (by omega)]
theorem far_pl (a : Int) : pl a 1152921504606846976 = 1152921504606846976 := by
  unfold pl
  rw [if_pos (.inr rfl)]
theorem getD_of {α : Type} {xs : List α} {k : Nat} {z : α} (h : k < xs.length) : xs.getD k z = xs[k] := by
  rw [List.getD_eq_getElem?_getD, List.getElem?_eq_getElem h]
  rfl
theorem first_loop {α : Type} {xs : List α} (p : α → Bool) {body : Int → Option (Int ⊕ (Unit ⊕ Int))}
    (hb : ∀ k (hk : k < xs.length), body (k : Int) = some (bif p xs[k] then .inr (.inr (k : Int)) else .inl ((k : Int) + 1))) (he : body (xs.length : Int) = some (.inr (.inl ())))
    (hx : ∃ c, c ∈ xs ∧ p c = true) : ∃ k, ∃ hk : k < xs.length, xs.findIdx? p = some k ∧ p xs[k] = true ∧ loopM body 0 = some (.inr (k : Int)) := by
  obtain ⟨o, h1, h2⟩ := find_loop p hb he
  rcases h2 with ⟨rfl, h2⟩ | ⟨k, hk, rfl, h2, h3⟩
  · obtain ⟨c, hc, hp⟩ := hx
    obtain ⟨i, hi, rfl⟩ := List.mem_iff_getElem.1 hc
    rw [h2 i hi] at hp
    cases hp
  · exact ⟨k, hk, List.findIdx?_eq_some_iff_getElem.2 ⟨hk, h2, fun j hj => by rw [h3 j hj]; decide⟩, h2, h1⟩
section
variable {n : Nat} {bs : List (Int × Int × Int)} (hb : bs.all (bnd (n : Int)) = true)
include hb
theorem stp_ex {to m f : Nat} {q : Int} (hm : m + 1 ≤ 1000) (hf : f < n) (ht : to < n) (hq : q ≤ 100000000000000000) (h : wkT bs (m + 1) f to ≤ q) : ∃ c, c ∈ bs ∧ stp bs to m f q c = true := by
  have hw := wk_walk hb hm hf ht (by omega)
  generalize wkT bs (m + 1) f to = w at hw h
  cases hw with
  | @cons i a j m' c w' hmem h2 =>
    have hc := of_decide_eq_true (List.all_eq_true.1 hb _ hmem)
    simp only at hc
    have ha : a < n := by omega
    have h3 := wk_le hb (by omega) ha h2
    refine ⟨_, hmem, ?_⟩
    unfold stp
    have t1 : ((a : Int)).toNat = a := by omega
    rw [decide_eq_true rfl, Bool.true_and]
    simp only [t1]
    rcases wk_sz hb (m := m) (by omega) ha ht with e | e
    · omega
    · rw [pl_sz (by omega) (by omega)]
      exact decide_eq_true (by omega)
theorem stp_rest {to m f : Nat} {q : Int} {c : Int × Int × Int} (hm : m ≤ 1000) (ht : to < n) (hq : q ≤ 100000000000000000) (hc : c ∈ bs) (h : stp bs to m f q c = true) : c.1 = (f : Int) ∧ c.2.1.toNat < n ∧ wkT bs m c.2.1.toNat to ≤ q - c.2.2 := by
  unfold stp at h
  rw [Bool.and_eq_true] at h
  have h1 := of_decide_eq_true h.1
  have h2 := of_decide_eq_true h.2
  have hc := of_decide_eq_true (List.all_eq_true.1 hb _ hc)
  have ha : c.2.1.toNat < n := by omega
  refine ⟨h1, ha, ?_⟩
  rcases wk_sz hb (m := m) hm ha ht with e | e
  · rw [e, far_pl] at h2; omega
  · rw [pl_sz (by omega) (by omega)] at h2
    omega
end
theorem chain_loop {n : Nat} {bs : List (Int × Int × Int)} (hl : bs.length ≤ 60) (hb : bs.all (bnd (n : Int)) = true) {M to : Nat} (ht : to < n) {body : Int × Int × Int × List Int → Option ((Int × Int × Int × List Int) ⊕ (Int × Int × Int × List Int))}
    (hbody : body = fun (s : Int × Int × Int × List Int) => bif ltM (0 : Int) s.2.1 then
            Option.bind
              (Option.bind
                (loopM
                  (fun (s_1 : Int) =>
                    bif ltM s_1 (lenM bs) then
                      Option.bind (idxM bs s_1) fun (r : Int × Int × Int) =>
                        Option.bind
                          (bif eqM r.1 s.1 then idxM (row M fun m => rt n (fun _ => n) (wkT bs m)) (IntKind.wrap IntKind.i64 (s.2.1 - (1 : Int))) else some [])
                          fun (r_1 : List (List Int)) =>
                          Option.bind (bif eqM r.1 s.1 then idxM r_1 r.2.1 else some []) fun (r_2 : List Int) =>
                            Option.bind (bif eqM r.1 s.1 then idxM r_2 (to : Int) else some (0 : Int)) fun (r_3 : Int) =>
                              Option.bind (bif eqM r.1 s.1 then m56 (r.2.2, r_3) else some (0 : Int)) fun (r_4 : Int) =>
                                bif PE.andM (eqM r.1 s.1) (leM r_4 s.2.2.1) then some (Sum.inr (Sum.inr s_1))
                                else some (Sum.inl (IntKind.wrap IntKind.i64 (s_1 + (1 : Int))))
                    else some (Sum.inr (Sum.inl ())))
                  (0 : Int))
                fun (o : Unit ⊕ Int) => Sum.elim (fun (t : Unit) => some (-1 : Int)) (fun (t : Int) => some t) o)
              fun (ov : Int) =>
              Option.bind (idxM bs ov) fun (r : Int × Int × Int) =>
                Option.bind (idxM bs ov) fun (r_1 : Int × Int × Int) =>
                  Option.bind (appM (nat_lit 8) s.2.2.2 [ov]) fun (r_2 : List Int) =>
                    some
                      (Sum.inl
                        (r.2.1, IntKind.wrap IntKind.i64 (s.2.1 - (1 : Int)),
                          IntKind.wrap IntKind.i64 (s.2.2.1 - r_1.2.2), r_2))
          else some (Sum.inr (s.1, s.2.1, s.2.2.1, s.2.2.2))) :
    ∀ (m f : Nat) (q : Int) (out : List Int), m ≤ M → m ≤ 100 → f < n → -10000000000000 + m * 1000000000 ≤ q → q ≤ 10000000000000 - m * 1000000000 → out.length + m ≤ 1000 → wkT bs m f to ≤ q →
      ∃ f' q', loopM body ((f : Int), (m : Int), q, out) = some (f', 0, q', out ++ chP bs to m f q) := by
  intro m
  induction m with
  | zero =>
    intro f q out _ _ _ _ _ _ _
    refine ⟨f, q, ?_⟩
    have hstep : body ((f : Int), ((0 : Nat) : Int), q, out) = some (.inr ((f : Int), ((0 : Nat) : Int), q, out)) := by
      rw [hbody]
      dsimp only
      rw [geI (by omega), cond_false]
    rw [loopM_eq, hstep]
    show some ((f : Int), ((0 : Nat) : Int), q, out) = some ((f : Int), 0, q, out ++ [])
    rw [List.append_nil]
    rfl
  | succ m ih =>
    intro f q out hM hm hf hq1 hq2 ho h
    obtain ⟨k, hk, e1, e2, e3⟩ := first_loop (xs := bs) (stp bs to m f q) (body := fun (s_1 : Int) =>
                    bif ltM s_1 (lenM bs) then
                      Option.bind (idxM bs s_1) fun (r : Int × Int × Int) =>
                        Option.bind
                          (bif eqM r.1 (f : Int) then idxM (row M fun m => rt n (fun _ => n) (wkT bs m)) (IntKind.wrap IntKind.i64 (((m + 1 : Nat) : Int) - (1 : Int))) else some [])
                          fun (r_1 : List (List Int)) =>
                          Option.bind (bif eqM r.1 (f : Int) then idxM r_1 r.2.1 else some []) fun (r_2 : List Int) =>
                            Option.bind (bif eqM r.1 (f : Int) then idxM r_2 (to : Int) else some (0 : Int)) fun (r_3 : Int) =>
                              Option.bind (bif eqM r.1 (f : Int) then m56 (r.2.2, r_3) else some (0 : Int)) fun (r_4 : Int) =>
                                bif PE.andM (eqM r.1 (f : Int)) (leM r_4 q) then some (Sum.inr (Sum.inr s_1))
                                else some (Sum.inl (IntKind.wrap IntKind.i64 (s_1 + (1 : Int))))
                    else some (Sum.inr (Sum.inl ()))) (fun k hk => by
      obtain ⟨a, b, ha, hb', g1, g2, _, _⟩ := bnd_of (List.all_eq_true.1 hb _ (List.getElem_mem hk))
      rw [ltI (by show (k : Int) < (bs.length : Int); omega), cond_true, idxM_lt hk, Option.bind_some, wrap_in (n := (k : Int) + 1) (by omega) (by omega)]
      unfold stp
      by_cases e : bs[k].1 = (f : Int)
      · have t1 : ((m + 1 : Nat) : Int) - 1 = (m : Int) := by omega
        have t2 : bs[k].2.1.toNat = b := by omega
        rw [eqI e, cond_true, t1, wrap_in (by omega) (by omega), row_idx (by omega), Option.bind_some, cond_true, g2, rt_idx hb', Option.bind_some, cond_true, row_idx ht, Option.bind_some, cond_true, m56_pl, Option.bind_some, andT, decide_eq_true e, Bool.true_and]
        have t3 : ((b : Int)).toNat = b := by omega
        rw [t3]
        by_cases e' : pl bs[k].2.2 (wkT bs m b to) ≤ q
        · rw [leI e', decide_eq_true e']; rfl
        · rw [gtI (by omega), decide_eq_false e']; rfl
      · rw [neI e, cond_false, Option.bind_some, cond_false, Option.bind_some, cond_false, Option.bind_some, cond_false, Option.bind_some, andF, decide_eq_false e]
        rfl) (by rw [geI (Int.le_refl _)]; rfl) (stp_ex hb (by omega) hf ht (by omega) h)
    obtain ⟨h1, h2, h3⟩ := stp_rest hb (by omega) ht (by omega) (List.getElem_mem hk) e2
    have hc := of_decide_eq_true (List.all_eq_true.1 hb _ (List.getElem_mem hk))
    obtain ⟨f', q', ih⟩ := ih bs[k].2.1.toNat (q - bs[k].2.2) (out ++ [(k : Int)]) (by omega) (by omega) h2 (by omega) (by omega) (by rw [List.length_append]; show out.length + 1 + m ≤ 1000; omega) h3
    refine ⟨f', q', ?_⟩
    rw [loopM_eq]
    have hstep : body ((f : Int), ((m + 1 : Nat) : Int), q, out) = some (.inl ((bs[k].2.1.toNat : Int), (m : Int), q - bs[k].2.2, out ++ [(k : Int)])) := by
      rw [hbody]
      dsimp only
      rw [ltI (by omega), cond_true]
      have t4 : ((bs[k].2.1.toNat : Nat) : Int) = bs[k].2.1 := by omega
      refine bind_of (bind_of e3 rfl) ?_
      rw [idxM_lt hk, Option.bind_some, Option.bind_some, appM_of (by show (out.length + 1) * 8 ≤ 140737488355328; omega), Option.bind_some, wrap_in (by omega) (by omega), wrap_in (by omega) (by omega), t4]
      congr 4
      omega
    rw [hstep]
    show loopM body _ = _
    rw [ih]
    have e4 : chP bs to (m + 1) f q = (k : Int) :: chP bs to m bs[k].2.1.toNat (q - bs[k].2.2) := by
      show (match bs.findIdx? (stp bs to m f q) with | some k => _ | none => _) = _
      rw [e1]
      show (k : Int) :: chP bs to m (bs.getD k (0, 0, 0)).2.1.toNat (q - (bs.getD k (0, 0, 0)).2.2) = _
      rw [getD_of hk]
    rw [e4, List.append_assoc]
    rfl
theorem m57_eq {n : Nat} {bs : List (Int × Int × Int)} (hl : bs.length ≤ 60) (hb : bs.all (bnd (n : Int)) = true) {M to m f : Nat} {q : Int} (ht : to < n) (hM : m ≤ M) (hm : m ≤ 100) (hf : f < n) (hq1 : -1000000000000 ≤ q) (hq2 : q ≤ 1000000000000) (h : wkT bs m f to ≤ q) :
    m57 (((n : Int), bs), row M (fun m => rt n (fun _ => n) (wkT bs m)), (f : Int), (to : Int), (m : Int), q) = some (chP bs to m f q) := by
  obtain ⟨f', q', e⟩ := chain_loop hl hb (M := M) ht rfl m f q [] hM hm hf (by omega) (by omega) (by show 0 + m ≤ 1000; omega) h
  unfold m57
  exact bind_of e rfl
end Go.Proofs.Ytklddmmnggcffaa
/-
  Between, turned to this seat: what follows a list of bounds; what CheckChain and CheckCycle accept.
  No conditions.
-/
namespace Go.Proofs.Ytklddmmnggcffaa
open Go Go.Abs Go.PE
set_option linter.unusedVariables false
def folP (bs : List (Int × Int × Int)) : List Int → Int → Int → Option (Int × Int)
  | [], f, s => some (f, s)
  | k :: l, f, s => if 0 ≤ k ∧ k < bs.length ∧ (bs.getD k.toNat (0, 0, 0)).1 = f then folP bs l (bs.getD k.toNat (0, 0, 0)).2.1 (IntKind.wrap IntKind.i64 (s + (bs.getD k.toNat (0, 0, 0)).2.2)) else none
def folR (bs : List (Int × Int × Int)) (l : List Int) (f : Int) : Int × Int × Bool := match folP bs l f 0 with
  | some (e, s) => (e, s, decide ((l.length : Int) ≤ 60))
  | none => (0, 0, false)
theorem chP_fol {n : Nat} {bs : List (Int × Int × Int)} (hb : bs.all (bnd (n : Int)) = true) {to : Nat} (ht : to < n) : ∀ (m f : Nat) (q s : Int), m ≤ 100 → f < n → -10000000000000 + m * 1000000000 ≤ q → q ≤ 10000000000000 - m * 1000000000 → -10000000000000 + m * 1000000000 ≤ s → s ≤ 10000000000000 - m * 1000000000 → wkT bs m f to ≤ q →
    (chP bs to m f q).length = m ∧ ∃ s', folP bs (chP bs to m f q) f s = some ((to : Int), s') ∧ s' - s ≤ q := by
  intro m
  induction m with
  | zero =>
    intro f q s _ hf _ _ _ _ h
    refine ⟨rfl, s, ?_, ?_⟩
    · have h' : d0 f to ≤ q := h
      unfold d0 at h'
      by_cases e : f = to
      · subst e; rfl
      · rw [if_neg e] at h'; omega
    · have h' : d0 f to ≤ q := h
      unfold d0 at h'
      split at h' <;> omega
  | succ m ih =>
    intro f q s hm hf hq1 hq2 hs1 hs2 h
    obtain ⟨c, hc, hp⟩ := stp_ex hb (by omega) hf ht (by omega) h
    cases hi : bs.findIdx? (stp bs to m f q) with
    | none =>
      rw [List.findIdx?_eq_none_iff] at hi
      rw [hi c hc] at hp
      cases hp
    | some k =>
      obtain ⟨hk, hp2, _⟩ := List.findIdx?_eq_some_iff_getElem.1 hi
      obtain ⟨h1, h2, h3⟩ := stp_rest hb (by omega) ht (by omega) (List.getElem_mem hk) hp2
      have hcb := of_decide_eq_true (List.all_eq_true.1 hb _ (List.getElem_mem hk))
      have e4 : chP bs to (m + 1) f q = (k : Int) :: chP bs to m bs[k].2.1.toNat (q - bs[k].2.2) := by
        show (match bs.findIdx? (stp bs to m f q) with | some k => _ | none => _) = _
        rw [hi]
        show (k : Int) :: chP bs to m (bs.getD k (0, 0, 0)).2.1.toNat (q - (bs.getD k (0, 0, 0)).2.2) = _
        rw [getD_of hk]
      obtain ⟨g1, s', g2, g3⟩ := ih bs[k].2.1.toNat (q - bs[k].2.2) (s + bs[k].2.2) (by omega) h2 (by omega) (by omega) (by omega) (by omega) h3
      rw [e4]
      refine ⟨by rw [List.length_cons, g1], s', ?_, by omega⟩
      unfold folP
      have t1 : ((k : Int)).toNat = k := by omega
      rw [t1, getD_of hk, if_pos ⟨by omega, by omega, h1⟩, wrap_in (by omega) (by omega)]
      have t2 : ((bs[k].2.1.toNat : Nat) : Int) = bs[k].2.1 := by omega
      rw [t2] at g2
      exact g2
def chkCycle (x : Sys) (l : List Int) : Bool := match l with
  | [] => false
  | k :: _ => sys x && (decide (0 ≤ k) && decide (k < x.2.length)) && ((folR x.2 l (x.2.getD k.toNat (0, 0, 0)).1).2.2 && decide ((folR x.2 l (x.2.getD k.toNat (0, 0, 0)).1).1 = (x.2.getD k.toNat (0, 0, 0)).1) && decide ((folR x.2 l (x.2.getD k.toNat (0, 0, 0)).1).2.1 < 0))
end Go.Proofs.Ytklddmmnggcffaa
/-
  Between, turned to this seat: Implied, as the model computes it.
  No conditions.
-/
namespace Go.Proofs.Ytklddmmnggcffaa
open Go Go.Abs Go.PE
set_option linter.unusedVariables false
end Go.Proofs.Ytklddmmnggcffaa
/-
  Between, turned to this seat: equality of lists and tables; a further bound; the law BetweenMore.
  No conditions.
-/
namespace Go.Proofs.Ytklddmmnggcffaa
open Go Go.Abs Go.PE
set_option linter.unusedVariables false
theorem all_loop {n : Nat} (p : Nat → Bool) {body : Int → Option (Int ⊕ (Unit ⊕ Bool))} (hb : ∀ k, k < n → body (k : Int) = some (bif p k then .inl ((k : Int) + 1) else .inr (.inr false))) (he : body (n : Int) = some (.inr (.inl ()))) :
    ∃ b : Bool, loopM body 0 = some (bif b then .inl () else .inr false) ∧ (b = true ↔ ∀ k, k < n → p k = true) := by
  obtain ⟨o, h1, h2⟩ := loopM_from (body := body) (fun k s => s = (k : Int) ∧ ∀ j, j < k → p j = true) (fun o => (o = .inl () ∧ ∀ k, k < n → p k = true) ∨ (o = .inr false ∧ ∃ k, k < n ∧ p k = false)) n (s := 0) ⟨rfl, fun j hj => by omega⟩ fun k s hk ⟨hs, hP⟩ => by
    subst hs
    by_cases hlt : k < n
    · cases hp : p k with
      | true =>
        refine .inl ⟨((k + 1 : Nat) : Int), hlt, by rw [hb k hlt, hp]; rfl, rfl, fun j hj => ?_⟩
        by_cases e : j = k
        · subst e; exact hp
        · exact hP j (by omega)
      | false => exact .inr ⟨_, by rw [hb k hlt, hp]; rfl, .inr ⟨rfl, k, hlt, hp⟩⟩
    · have e : k = n := by omega
      subst e
      exact .inr ⟨_, he, .inl ⟨rfl, hP⟩⟩
  rcases h2 with ⟨rfl, h2⟩ | ⟨rfl, k, hk, h2⟩
  · exact ⟨true, h1, by simpa using h2⟩
  · refine ⟨false, h1, ?_⟩
    constructor
    · intro h; cases h
    · intro h; rw [h k hk] at h2; cases h2
theorem m49_eq {a b : List Int} (hl : a.length ≤ 4611686018427387904) : m49 (a, b) = some (decide (a = b)) := by
  unfold m49
  dsimp only
  by_cases e : a.length = b.length
  · rw [eqI (by show (a.length : Int) = (b.length : Int); omega), notT, cond_false]
    obtain ⟨r, h1, h2⟩ := all_loop (n := a.length) (fun k => decide (a[k]? = b[k]?)) (body := fun (s : Int) =>
            bif ltM s (lenM a) then
              Option.bind (idxM a s) fun (r : Int) =>
                Option.bind (idxM b s) fun (r_1 : Int) =>
                  bif PE.notM (eqM r r_1) then some (Sum.inr (Sum.inr false))
                  else some (Sum.inl (IntKind.wrap IntKind.i64 (s + (1 : Int))))
            else some (Sum.inr (Sum.inl ()))) (fun k hk => by
      have hk' : k < b.length := by omega
      rw [ltI (by show (k : Int) < (a.length : Int); omega), cond_true, idxM_lt hk, Option.bind_some, idxM_lt hk', Option.bind_some, wrap_in (by omega) (by omega), List.getElem?_eq_getElem hk, List.getElem?_eq_getElem hk']
      by_cases e2 : a[k] = b[k]
      · rw [eqI e2, decide_eq_true (by rw [e2])]; rfl
      · rw [neI e2, decide_eq_false (fun h => e2 (Option.some.inj h))]; rfl) (by rw [geI (Int.le_refl _)]; rfl)
    refine bind_of h1 ?_
    by_cases e2 : a = b
    · rw [decide_eq_true e2, h2.2 fun k _ => by rw [e2]; exact decide_eq_true rfl]; rfl
    · have : r = false := by
        cases hr : r with
        | false => rfl
        | true =>
          refine absurd (List.ext_getElem? fun k => ?_) e2
          by_cases hk : k < a.length
          · exact of_decide_eq_true (h2.1 hr k hk)
          · rw [List.getElem?_eq_none (by omega), List.getElem?_eq_none (by omega)]
      rw [this, decide_eq_false e2]; rfl
  · rw [neI (by show (a.length : Int) ≠ (b.length : Int); omega), notF, cond_true, decide_eq_false fun h => e (by rw [h])]
theorem Wk.mono {bs bs' : List (Int × Int × Int)} (hs : ∀ c, c ∈ bs → c ∈ bs') {i j : Nat} {w : Int} (h : Wk bs i j w) : Wk bs' i j w := by
  induction h with
  | nil => exact .nil _
  | snoc _ hm ih => exact ih.snoc (hs _ hm)
theorem fw_tri' {x : Sys} (hs : sys x = true) (ho : ovS x = false) {i k j : Nat} (hi : i < x.1.toNat) (hk : k < x.1.toNat) (hj : j < x.1.toNat) (h1 : fwS x i k < 1000000000000000000) (h2 : fwS x k j < 1000000000000000000) : fwS x i j ≤ fwS x i k + fwS x k j := by
  obtain ⟨hn, hb, _⟩ := sys_all hs
  rcases fw_cases hs ho hi hk with ⟨e, _⟩ | ⟨_, _, e, _⟩
  · omega
  · rcases fw_cases hs ho hk hj with ⟨e', _⟩ | ⟨_, _, e', _⟩
    · omega
    · exact (fw_least hn hb ho hi (e.trans e')).2.2
end Go.Proofs.Ytklddmmnggcffaa
/-
  Between, turned to this seat: the law BetweenMore.
  No conditions.
-/
namespace Go.Proofs.Ytklddmmnggcffaa
open Go Go.Abs Go.PE
set_option linter.unusedVariables false
end Go.Proofs.Ytklddmmnggcffaa
/-
  Between, turned to this seat: the law BetweenImplies.
  No conditions.
-/
namespace Go.Proofs.Ytklddmmnggcffaa
open Go Go.Abs Go.PE
set_option linter.unusedVariables false
def short (l : List Int) : List Int := l.take (min l.length 20)
end Go.Proofs.Ytklddmmnggcffaa
/-
  Between, turned to this seat: Cycle, as the model computes it.
  No conditions.
-/
namespace Go.Proofs.Ytklddmmnggcffaa
open Go Go.Abs Go.PE
set_option linter.unusedVariables false
theorem findg_loop {α γ : Type} {xs : List α} (p : α → Bool) (g : Nat → γ) {body : Int → Option (Int ⊕ (Unit ⊕ γ))}
    (h1 : ∀ j, xs.findIdx? p = some j → body (j : Int) = some (.inr (.inr (g j)))) (h2 : ∀ j (hj : j < xs.length), p xs[j] = false → body (j : Int) = some (.inl ((j : Int) + 1))) (he : body (xs.length : Int) = some (.inr (.inl ()))) :
    loopM body 0 = some (match xs.findIdx? p with | some j => .inr (g j) | none => .inl ()) := by
  cases hf : xs.findIdx? p with
  | none =>
    rw [List.findIdx?_eq_none_iff] at hf
    refine loopM_fn (fun k => (k : Int)) xs.length (fun k hk => h2 k hk (hf _ (List.getElem_mem hk))) he
  | some j =>
    obtain ⟨hj, hp, hall⟩ := List.findIdx?_eq_some_iff_getElem.1 hf
    refine loopM_fn (fun k => (k : Int)) j (fun k hk => h2 k (by omega) ?_) (h1 j hf)
    have := hall k hk
    simpa using this
def cst (bs : List (Int × Int × Int)) (m : Nat) (c : Int × Int × Int) : Bool := decide (pl c.2.2 (wkT bs m c.2.1.toNat c.1.toNat) < 0)
def cycM (bs : List (Int × Int × Int)) : Nat := ((List.range 17).find? fun m => (bs.findIdx? (cst bs m)).isSome).getD 0
def cycL (bs : List (Int × Int × Int)) : List Int := match bs.findIdx? (cst bs (cycM bs)) with
  | some k => (k : Int) :: chP bs (bs.getD k (0, 0, 0)).1.toNat (cycM bs) (bs.getD k (0, 0, 0)).2.1.toNat (-1 - (bs.getD k (0, 0, 0)).2.2)
  | none => []
theorem cst_walk {n : Nat} {bs : List (Int × Int × Int)} (hb : bs.all (bnd (n : Int)) = true) {m : Nat} (hm : m ≤ 999) {c : Int × Int × Int} (hc : c ∈ bs) : cst bs m c = true ↔ wkT bs m c.2.1.toNat c.1.toNat ≤ -1 - c.2.2 := by
  have hcb := of_decide_eq_true (List.all_eq_true.1 hb _ hc)
  unfold cst
  rcases wk_sz hb (m := m) (i := c.2.1.toNat) (j := c.1.toNat) (by omega) (by omega) (by omega) with e | e
  · rw [e, far_pl]
    constructor
    · intro h; exact absurd (of_decide_eq_true h) (by omega)
    · intro h; omega
  · rw [pl_sz (by omega) (by omega)]
    constructor
    · intro h; have := of_decide_eq_true h; omega
    · intro h; exact decide_eq_true (by omega)
theorem cst_of {n : Nat} {bs : List (Int × Int × Int)} (hb : bs.all (bnd (n : Int)) = true) {m u : Nat} {w : Int} (hm : m ≤ 999) (hu : u < n) (hw : w < 0) (h : WN bs u u (m + 1) w) : (bs.findIdx? (cst bs m)).isSome = true := by
  cases h with
  | @cons _ a _ _ c w' hmem h2 =>
    have hc := of_decide_eq_true (List.all_eq_true.1 hb _ hmem)
    simp only at hc
    have ha : a < n := by omega
    have h3 := (wk_le hb (by omega) ha h2).1
    have hp : cst bs m ((u : Int), (a : Int), c) = true := (cst_walk hb hm hmem).2 (by
      have t1 : ((a : Int)).toNat = a := by omega
      have t2 : ((u : Int)).toNat = u := by omega
      simp only [t1, t2]
      omega)
    cases hf : bs.findIdx? (cst bs m) with
    | none =>
      rw [List.findIdx?_eq_none_iff] at hf
      rw [hf _ hmem] at hp
      cases hp
    | some k => rfl
theorem of_cst {n : Nat} {bs : List (Int × Int × Int)} (hb : bs.all (bnd (n : Int)) = true) {m k : Nat} (hm : m ≤ 999) (h : bs.findIdx? (cst bs m) = some k) : ∃ hk : k < bs.length, wkT bs m bs[k].2.1.toNat bs[k].1.toNat ≤ -1 - bs[k].2.2 := by
  obtain ⟨hk, hp, _⟩ := List.findIdx?_eq_some_iff_getElem.1 h
  exact ⟨hk, (cst_walk hb hm (List.getElem_mem hk)).1 hp⟩
theorem cycM_of {x : Sys} (hs : sys x = true) (ho : ovS x = true) : cycM x.2 < x.1.toNat ∧ (x.2.findIdx? (cst x.2 (cycM x.2))).isSome = true ∧ ∀ k, k < cycM x.2 → (x.2.findIdx? (cst x.2 k)).isSome = false := by
  obtain ⟨hn, hb, he⟩ := sys_all hs
  obtain ⟨i, w, hi, hw, hwk⟩ := ov_walk hs ho
  obtain ⟨m0, hm0⟩ := hwk.wn
  obtain ⟨u, m1, w1, hu, g1, g2, g3, g4⟩ := WN.cycle hb m0 hi hw hm0
  obtain ⟨m, rfl⟩ : ∃ m, m1 = m + 1 := ⟨m1 - 1, by omega⟩
  have hex := cst_of hb (by omega) hu g3 g4
  unfold cycM
  cases e : (List.range 17).find? fun m => (x.2.findIdx? (cst x.2 m)).isSome with
  | none =>
    rw [List.find?_eq_none] at e
    exact absurd hex (e m (List.mem_range.2 (by omega)))
  | some k =>
    rw [List.find?_eq_some_iff_getElem] at e
    obtain ⟨h1, i, hi, h2, h3⟩ := e
    rw [List.getElem_range] at h2
    subst h2
    rw [List.length_range] at hi
    have h3' : ∀ j, j < i → (x.2.findIdx? (cst x.2 j)).isSome = false := fun j hj => by
      have := h3 j hj
      rw [List.getElem_range] at this
      simpa using this
    refine ⟨?_, h1, h3'⟩
    show i < x.1.toNat
    refine Classical.byContradiction fun hn => ?_
    have := h3' m (by omega)
    rw [hex] at this
    cases this
def cycR (x : Sys) : List Int × Bool := bif sys x && ovS x then (cycL x.2, true) else ([], false)
theorem m33_eq (x : Sys) : m33 x = some (cycR x) := by
  unfold m33 cycR
  dsimp only
  rw [show (x.1, x.2) = x from rfl, m36_eq, Option.bind_some]
  cases hs : sys x with
  | false => rfl
  | true =>
    obtain ⟨hn, hb, he⟩ := sys_all hs
    have hl := (sys_bnd hs).1.2.2
    have h39 := m37_eq hn hl hb
    rw [he] at h39
    rw [notT, cond_false]
    refine bind_of (x := bif ovS x then ([], false) else (rt x.1.toNat (fun _ => x.1.toNat) (fwS x), true)) h39 ?_
    cases ho : ovS x with
    | false => rfl
    | true =>
      obtain ⟨c1, c2, c3⟩ := cycM_of hs ho
      obtain ⟨k0, hk0⟩ := Option.isSome_iff_exists.1 c2
      obtain ⟨hkl, hkw⟩ := of_cst hb (by omega) hk0
      have h58 := none_table hn
      rw [he] at h58
      rw [cond_true, cond_false]
      refine bind_of h58 ?_
      have hcy : cycL x.2 = (k0 : Int) :: chP x.2 x.2[k0].1.toNat (cycM x.2) x.2[k0].2.1.toNat (-1 - x.2[k0].2.2) := by
        unfold cycL
        rw [hk0]
        dsimp only
        rw [getD_of hkl]
      rw [hcy]
      generalize cycM x.2 = m0 at *
      refine bind_of (x := ((k0 : Int) :: chP x.2 x.2[k0].1.toNat m0 x.2[k0].2.1.toNat (-1 - x.2[k0].2.2), true, row (m0 + 2) fun m => rt x.1.toNat (fun _ => x.1.toNat) (wkT x.2 m)))
        (loopM_fn (fun m => (rt x.1.toNat (fun _ => x.1.toNat) (wkT x.2 m), row m fun m => rt x.1.toNat (fun _ => x.1.toNat) (wkT x.2 m))) (m0 + 1) (fun k hk => ?_) ?_) rfl
      · dsimp only
        refine bind_of (app_rowOf rfl (by show (k + 1) * 24 ≤ 140737488355328; omega)) ?_
        have elen : IntKind.wrap IntKind.i64 (lenM (row (k + 1) fun m => rt x.1.toNat (fun _ => x.1.toNat) (wkT x.2 m)) - 1) = (k : Int) := by rw [lenRow, wrap_in (by omega) (by omega)]; omega
        rw [elen]
        refine bind_of (x := Sum.inl ()) (loopM_is (fun j s => s = (j : Int)) x.2.length rfl fun j s hj hs => ?_) ?_
        · subst hs
          by_cases hlt : j < x.2.length
          · refine .inl ⟨((j + 1 : Nat) : Int), hlt, ?_, rfl⟩
            obtain ⟨a, b, ha, hb', e1, e2, _, _⟩ := bnd_of (List.all_eq_true.1 hb _ (List.getElem_mem hlt))
            have ej : IntKind.wrap IntKind.i64 ((j : Int) + 1) = ((j + 1 : Nat) : Int) := by rw [wrap_in (by omega) (by omega)]; rfl
            rw [ltI (a := (j : Int)) (b := lenM x.2) (by show (j : Int) < (x.2.length : Int); omega), cond_true, idxM_lt hlt, Option.bind_some]
            cases k with
            | zero =>
              rw [geI (by omega), cond_false, Option.bind_some, cond_false, Option.bind_some, cond_false, Option.bind_some, cond_false, Option.bind_some, cond_false, Option.bind_some, andF, cond_false, ej]
            | succ k =>
              have e3 : ((k + 1 : Nat) : Int) - 1 = (k : Int) := by omega
              have hno := c3 k (by omega)
              have hpf : cst x.2 k x.2[j] = false := by
                have : x.2.findIdx? (cst x.2 k) = none := by
                  cases hq : x.2.findIdx? (cst x.2 k) with
                  | none => rfl
                  | some z => rw [hq] at hno; cases hno
                rw [List.findIdx?_eq_none_iff] at this
                exact this _ (List.getElem_mem hlt)
              unfold cst at hpf
              have hpf := of_decide_eq_false hpf
              have t1 : x.2[j].1.toNat = a := by omega
              have t2 : x.2[j].2.1.toNat = b := by omega
              rw [t1, t2] at hpf
              rw [ltI (by omega), cond_true, e3, wrap_in (n := (k : Int)) (by omega) (by omega), chkM_of (by omega) (by rw [lenRow]; omega), Option.bind_some, cond_true, row_idx (by omega), Option.bind_some, cond_true, e2, rt_idx hb', Option.bind_some, cond_true, e1, row_idx ha, Option.bind_some, cond_true, m56_pl, Option.bind_some, geI (by omega), andT, cond_false, ej]
          · refine .inr ?_
            have e : j = x.2.length := by omega
            rw [e, geI (Int.le_refl _), cond_false]
        · have hmk := none_make hn
          have hfl := far_loop hn
          rw [he] at hmk hfl
          have hnl := next_loop hn hl hb (wkT x.2 k)
          rw [he] at hnl
          show Option.bind _ _ = _
          refine bind_of hmk (bind_of hfl (bind_of hnl ?_))
          rfl
      · dsimp only
        refine bind_of (app_rowOf rfl (by show (m0 + 1 + 1) * 24 ≤ 140737488355328; omega)) ?_
        have elen : IntKind.wrap IntKind.i64 (lenM (row (m0 + 1 + 1) fun m => rt x.1.toNat (fun _ => x.1.toNat) (wkT x.2 m)) - 1) = ((m0 + 1 : Nat) : Int) := by rw [lenRow, wrap_in (by omega) (by omega)]; omega
        rw [elen]
        have e3 : ((m0 + 1 : Nat) : Int) - 1 = (m0 : Int) := by omega
        refine bind_of (x := Sum.inr ((k0 : Int) :: chP x.2 x.2[k0].1.toNat m0 x.2[k0].2.1.toNat (-1 - x.2[k0].2.2), true, row (m0 + 1 + 1) fun m => rt x.1.toNat (fun _ => x.1.toNat) (wkT x.2 m))) ?_ rfl
        have hfg := fun body h1 h2 he => findg_loop (xs := x.2) (cst x.2 m0) (fun j => ((j : Int) :: chP x.2 (x.2.getD j (0, 0, 0)).1.toNat m0 (x.2.getD j (0, 0, 0)).2.1.toNat (-1 - (x.2.getD j (0, 0, 0)).2.2), true, row (m0 + 1 + 1) fun m => rt x.1.toNat (fun _ => x.1.toNat) (wkT x.2 m))) (body := body) h1 h2 he
        rw [hk0] at hfg
        dsimp only at hfg
        rw [getD_of hkl] at hfg
        refine hfg _ (fun j hj => ?_) (fun j hj hp => ?_) ?_
        · have ej : j = k0 := (Option.some.inj hj).symm
          subst ej
          obtain ⟨a, b, ha, hb', e1, e2, g1, g2⟩ := bnd_of (List.all_eq_true.1 hb _ (List.getElem_mem hkl))
          have t1 : x.2[j].1.toNat = a := by omega
          have t2 : x.2[j].2.1.toNat = b := by omega
          have hpt := (cst_walk hb (by omega) (List.getElem_mem hkl)).2 hkw
          unfold cst at hpt
          have hpt := of_decide_eq_true hpt
          rw [t1, t2] at hpt hkw
          rw [ltI (a := (j : Int)) (b := lenM x.2) (by show (j : Int) < (x.2.length : Int); omega), cond_true, idxM_lt hkl, Option.bind_some]
          rw [ltI (by omega), cond_true, e3, wrap_in (n := (m0 : Int)) (by omega) (by omega), chkM_of (by omega) (by rw [lenRow]; omega), Option.bind_some, cond_true, row_idx (by omega), Option.bind_some, cond_true, e2, rt_idx hb', Option.bind_some, cond_true, e1, row_idx ha, Option.bind_some, cond_true, m56_pl, Option.bind_some, ltI hpt, andT, cond_true]
          rw [wrap_in (n := -1 - x.2[j].2.2) (by omega) (by omega)]
          have h44 := m57_eq (n := x.1.toNat) hl hb (M := m0 + 1 + 1) (to := a) (m := m0) (f := b) (q := -1 - x.2[j].2.2) ha (by omega) (by omega) hb' (by omega) (by omega) hkw
          rw [he] at h44
          refine bind_of h44 ?_
          obtain ⟨k1, _⟩ := chP_fol hb ha m0 b (-1 - x.2[j].2.2) 0 (by omega) hb' (by omega) (by omega) (by omega) (by omega) hkw
          refine bind_of (appM_of (by show (1 + (chP x.2 a m0 b (-1 - x.2[j].2.2)).length) * 8 ≤ 140737488355328; omega)) ?_
          rw [getD_of hkl, t1, t2]
          rfl
        · obtain ⟨a, b, ha, hb', e1, e2, g1, g2⟩ := bnd_of (List.all_eq_true.1 hb _ (List.getElem_mem hj))
          have t1 : x.2[j].1.toNat = a := by omega
          have t2 : x.2[j].2.1.toNat = b := by omega
          unfold cst at hp
          have hp := of_decide_eq_false hp
          rw [t1, t2] at hp
          rw [ltI (a := (j : Int)) (b := lenM x.2) (by show (j : Int) < (x.2.length : Int); omega), cond_true, idxM_lt hj, Option.bind_some]
          rw [ltI (by omega), cond_true, e3, wrap_in (n := (m0 : Int)) (by omega) (by omega), chkM_of (by omega) (by rw [lenRow]; omega), Option.bind_some, cond_true, row_idx (by omega), Option.bind_some, cond_true, e2, rt_idx hb', Option.bind_some, cond_true, e1, row_idx ha, Option.bind_some, cond_true, m56_pl, Option.bind_some, geI (by omega), andT, cond_false, wrap_in (by omega) (by omega)]
        · rw [geI (Int.le_refl _), cond_false]
end Go.Proofs.Ytklddmmnggcffaa
/-
  Between, turned to this seat: the first contradiction is one of which no bound can be left out; the law BetweenContradicts.
  No conditions.
-/
namespace Go.Proofs.Ytklddmmnggcffaa
open Go Go.Abs Go.PE
set_option linter.unusedVariables false
theorem folP_st {n : Nat} {bs : List (Int × Int × Int)} (hb : bs.all (bnd (n : Int)) = true) : ∀ (l : List Int) (f : Nat) (s : Int) {e s' : Int}, l.length ≤ 100 → -1000000000000000 + l.length * 1000000000 ≤ s → s ≤ 1000000000000000 - l.length * 1000000000 → folP bs l f s = some (e, s') →
    ∃ (v : Nat → Nat) (S : Nat → Int), v 0 = f ∧ (v l.length : Int) = e ∧ S 0 = s ∧ S l.length = s' ∧ ∀ k (hk : k < l.length), 0 ≤ l[k] ∧ l[k] < bs.length ∧ bs.getD l[k].toNat (0, 0, 0) = ((v k : Int), (v (k + 1) : Int), S (k + 1) - S k) := by
  intro l
  induction l with
  | nil =>
    intro f s e s' _ _ _ h
    have h' : some ((f : Int), s) = some (e, s') := h
    have h1 := congrArg Prod.fst (Option.some.inj h')
    have h2 := congrArg Prod.snd (Option.some.inj h')
    simp only at h1 h2
    exact ⟨fun _ => f, fun _ => s, rfl, h1, rfl, h2, fun k hk => absurd hk (Nat.not_lt_zero _)⟩
  | cons k l ih =>
    intro f s e s' hl h1 h2 h
    unfold folP at h
    have hl' : (k :: l).length = l.length + 1 := rfl
    rw [hl'] at hl h1 h2
    split at h
    · rename_i hk
      obtain ⟨k0, k1, k2⟩ := hk
      have hkl : k.toNat < bs.length := by omega
      obtain ⟨a, b, ha, hb', e1, e2, e3, e4⟩ := bnd_of (List.all_eq_true.1 hb _ (List.getElem_mem hkl))
      have hgd := getD_of (z := (0, 0, 0)) hkl
      rw [hgd] at h k2
      rw [wrap_in (by omega) (by omega), e2] at h
      obtain ⟨v, S, g1, g2, g3, g4, g5⟩ := ih b _ (by omega) (by omega) (by omega) h
      refine ⟨fun j => match j with | 0 => f | j + 1 => v j, fun j => match j with | 0 => s | j + 1 => S j, rfl, g2, rfl, g4, fun j hj => ?_⟩
      cases j with
      | zero =>
        refine ⟨k0, k1, ?_⟩
        show bs.getD k.toNat (0, 0, 0) = ((f : Int), (v 0 : Int), S 0 - s)
        rw [hgd, g1, g3, ← k2, ← e2]
        have : s + bs[k.toNat].2.2 - s = bs[k.toNat].2.2 := by omega
        rw [this]
      | succ j => exact g5 j (by rw [hl'] at hj; omega)
    · cases h
theorem cyc_st {x : Sys} (hs : sys x = true) (ho : ovS x = true) : chkCycle x (cycL x.2) = true ∧ ∃ (v : Nat → Nat) (S : Nat → Int), 1 ≤ (cycL x.2).length ∧ (cycL x.2).length ≤ x.1.toNat ∧ v 0 < x.1.toNat ∧ v (cycL x.2).length = v 0 ∧ S 0 = 0 ∧ S (cycL x.2).length < 0 ∧
    (∀ k (hk : k < (cycL x.2).length), 0 ≤ (cycL x.2)[k] ∧ (cycL x.2)[k] < x.2.length ∧ x.2.getD (cycL x.2)[k].toNat (0, 0, 0) = ((v k : Int), (v (k + 1) : Int), S (k + 1) - S k)) ∧
    (∀ u m w, u < x.1.toNat → m < (cycL x.2).length → WN x.2 u u m w → 0 ≤ w) := by
  obtain ⟨hn, hb, he⟩ := sys_all hs
  have hl := (sys_bnd hs).1.2.2
  obtain ⟨c1, c2, c3⟩ := cycM_of hs ho
  obtain ⟨k0, hk0⟩ := Option.isSome_iff_exists.1 c2
  obtain ⟨hkl, hkw⟩ := of_cst hb (by omega) hk0
  obtain ⟨a, b, ha, hb', e1, e2, g1, g2⟩ := bnd_of (List.all_eq_true.1 hb _ (List.getElem_mem hkl))
  have t1 : x.2[k0].1.toNat = a := by omega
  have t2 : x.2[k0].2.1.toNat = b := by omega
  rw [t1, t2] at hkw
  have hcy : cycL x.2 = (k0 : Int) :: chP x.2 a (cycM x.2) b (-1 - x.2[k0].2.2) := by
    unfold cycL
    rw [hk0]
    dsimp only
    rw [getD_of hkl, t1, t2]
  have hmin : ∀ u m w, u < x.1.toNat → m < cycM x.2 + 1 → WN x.2 u u m w → 0 ≤ w := fun u m w hu hm hw => by
    refine Classical.byContradiction fun hneg => ?_
    cases m with
    | zero => have := hw.zero.2; omega
    | succ m =>
      have h1 := cst_of hb (by omega) hu (by omega) hw
      rw [c3 m (by omega)] at h1
      cases h1
  generalize cycM x.2 = m0 at *
  obtain ⟨k1, s', k2, k3⟩ := chP_fol hb ha m0 b (-1 - x.2[k0].2.2) x.2[k0].2.2 (by omega) hb' (by omega) (by omega) (by omega) (by omega) hkw
  have hlen : (cycL x.2).length = m0 + 1 := by rw [hcy, List.length_cons, k1]
  have hfol : folP x.2 (cycL x.2) a 0 = some ((a : Int), s') := by
    rw [hcy]
    unfold folP
    have t3 : ((k0 : Int)).toNat = k0 := by omega
    rw [t3, getD_of hkl, if_pos ⟨by omega, by omega, e1⟩, wrap_in (by omega) (by omega), Int.zero_add, e2]
    exact k2
  refine ⟨?_, ?_⟩
  · have hR : folR x.2 (cycL x.2) a = ((a : Int), s', true) := by
      unfold folR
      rw [hfol, hlen]
      dsimp only
      rw [decide_eq_true (by omega)]
    rw [hcy] at hR ⊢
    unfold chkCycle
    have t3 : ((k0 : Int)).toNat = k0 := by omega
    dsimp only
    rw [hs, t3, getD_of hkl, e1, hR, decide_eq_true (by omega), decide_eq_true (by omega)]
    show (true && (true && true) && (true && decide ((a : Int) = a) && decide (s' < 0))) = true
    rw [decide_eq_true (show (a : Int) = a from rfl), decide_eq_true (show s' < 0 by omega)]
    rfl
  · obtain ⟨v, S, h1, h2, h3, h4, h5⟩ := folP_st hb (cycL x.2) a 0 (by omega) (by omega) (by omega) hfol
    refine ⟨v, S, by omega, by omega, by omega, by omega, h3, by omega, h5, ?_⟩
    rw [hlen]
    exact hmin
end Go.Proofs.Ytklddmmnggcffaa
/-
  The models with loops of bounded rounds, and that they answer no more than the models (printed by gen_twin.py). No conditions.
-/
namespace Go.Proofs.Ytklddmmnggcffaa
open Go Go.Abs Go.PE Go.Proofs
set_option linter.unusedVariables false
set_option maxRecDepth 100000
set_option maxHeartbeats 0
def m38F : (Int × Int × Int) → Option (Bool) :=
  fun (x : Int × Int × Int) => some (PE.andM (leM x.2.1 x.1) (leM x.1 x.2.2))
theorem le38 (x) : Le (m38F x) (m38 x) := by
  unfold m38F m38
  repeat' first | with_reducible exact Le.refl _ | intro _ | apply Le.bind | apply Le.cond | apply Le.nil | apply Le.loop | apply Le.elim
def m42F : (Int × Int × Int) → Option (Bool) :=
  fun (x : Int × Int × Int) => Option.bind (m38F (x.1, IntKind.wrap IntKind.i64 (negM x.2.2), x.2.2)) fun (r : Bool) => Option.bind (bif r then m38F (x.2.1,
  IntKind.wrap IntKind.i64 (negM x.2.2), x.2.2) else some false) fun (r_1 : Bool) => some (PE.andM r r_1)
theorem le42 (x) : Le (m42F x) (m42 x) := by
  unfold m42F m42
  repeat' first | exact le38 _ | with_reducible exact Le.refl _ | intro _ | apply Le.bind | apply Le.cond | apply Le.nil | apply Le.loop | apply Le.elim
def m18F : (Int × (List (Int × Int × Int × Int)) × List (Int × Int × Int × Int × Int)) → Option (Bool) :=
  fun (x : Int × List (Int × Int × Int × Int) × List (Int × Int × Int × Int × Int)) => Option.bind (m38F (x.1, (0 : Int), (8 : Int))) fun (r : Bool) => bif PE.orM
  (PE.orM (PE.notM r) (ltM (8 : Int) (lenM x.2.1))) (ltM (20 : Int) (lenM x.2.2)) then some false else Option.bind (Option.bind (loopF (fun (s : Int) => bif ltM
  s (lenM x.2.1) then Option.bind (idxM x.2.1 s) fun (r_1 : Int × Int × Int × Int) => Option.bind (m38F (r_1.1, (0 : Int), IntKind.wrap IntKind.i64 (x.1 - (1 :
  Int)))) fun (r_2 : Bool) => Option.bind (bif PE.notM (PE.notM r_2) then m42F (r_1.2.1, r_1.2.2.1, (10000 : Int)) else some false) fun (r_3 : Bool) =>
  Option.bind (bif PE.notM (PE.orM (PE.notM r_2) (PE.notM r_3)) then m38F (r_1.2.2.2, (0 : Int), (1000 : Int)) else some false) fun (r : Bool) => bif PE.orM
  (PE.orM (PE.notM r_2) (PE.notM r_3)) (PE.notM r) then some (Sum.inr (Sum.inr s)) else some (Sum.inl (IntKind.wrap IntKind.i64 (s + (1 : Int)))) else some
  (Sum.inr (Sum.inl ()))) (0 : Int)) fun (o : Unit ⊕ Int) => Sum.elim (fun (t : Unit) => some (-1 : Int)) (fun (t : Int) => some t) o) fun (ov : Int) =>
  Option.bind (bif PE.notM (leM (0 : Int) ov) then Option.bind (Option.bind (loopF (fun (s : Int) => bif ltM s (lenM x.2.2) then Option.bind (idxM x.2.2 s) fun
  (r_1 : Int × Int × Int × Int × Int) => Option.bind (m38F (r_1.1, (0 : Int), IntKind.wrap IntKind.i64 (x.1 - (1 : Int)))) fun (r_2 : Bool) => Option.bind (bif
  PE.notM (PE.notM r_2) then m38F (r_1.2.1, (0 : Int), IntKind.wrap IntKind.i64 (x.1 - (1 : Int))) else some false) fun (r_3 : Bool) => Option.bind (bif PE.notM
  (PE.orM (PE.orM (PE.notM r_2) (PE.notM r_3)) (eqM r_1.1 r_1.2.1)) then m42F (r_1.2.2.1, r_1.2.2.2.1, (10000 : Int)) else some false) fun (r_4 : Bool) =>
  Option.bind (bif PE.notM (PE.orM (PE.orM (PE.orM (PE.notM r_2) (PE.notM r_3)) (eqM r_1.1 r_1.2.1)) (PE.notM r_4)) then m38F (r_1.2.2.2.2, (0 : Int), (1000 :
  Int)) else some false) fun (r : Bool) => bif PE.orM (PE.orM (PE.orM (PE.orM (PE.notM r_2) (PE.notM r_3)) (eqM r_1.1 r_1.2.1)) (PE.notM r_4)) (PE.notM r) then
  some (Sum.inr (Sum.inr s)) else some (Sum.inl (IntKind.wrap IntKind.i64 (s + (1 : Int)))) else some (Sum.inr (Sum.inl ()))) (0 : Int)) fun (o : Unit ⊕ Int) =>
  Sum.elim (fun (t : Unit) => some (-1 : Int)) (fun (t : Int) => some t) o) fun (ov : Int) => some (leM (0 : Int) ov) else some false) fun (ov_1 : Bool) => some
  (PE.andM (PE.notM (leM (0 : Int) ov)) (PE.notM ov_1))
theorem le18 (x) : Le (m18F x) (m18 x) := by
  unfold m18F m18
  repeat' first | exact le38 _ | exact le42 _ | with_reducible exact Le.refl _ | intro _ | apply Le.bind | apply Le.cond | apply Le.nil | apply Le.loop | apply Le.elim
def m53F : (Int × Int) → Option (Int) :=
  fun (x : Int × Int) => some x.1
theorem le53 (x) : Le (m53F x) (m53 x) := by
  unfold m53F m53
  repeat' first | with_reducible exact Le.refl _ | intro _ | apply Le.bind | apply Le.cond | apply Le.nil | apply Le.loop | apply Le.elim
def m54F : (Int × Int) → Option (Int) :=
  fun (x : Int × Int) => some x.2
theorem le54 (x) : Le (m54F x) (m54 x) := by
  unfold m54F m54
  repeat' first | with_reducible exact Le.refl _ | intro _ | apply Le.bind | apply Le.cond | apply Le.nil | apply Le.loop | apply Le.elim
def m32F : (Int × (List (Int × Int × Int × Int)) × List (Int × Int × Int × Int × Int)) → Option ((Int × List (Int × Int × Int)) × Int × List (Int × Int × Int)) :=
  fun (x : Int × List (Int × Int × Int × Int) × List (Int × Int × Int × Int × Int)) => Option.bind (loopF (fun (s : Int × Int × Int × List (Int × Int × Int) ×
  List (Int × Int × Int)) => bif ltM s.1 (lenM x.2.1) then Option.bind (idxM x.2.1 s.1) fun (r : Int × Int × Int × Int) => Option.bind (m53F (r.2.1, r.2.2.1))
  fun (r_1 : Int) => Option.bind (appM (nat_lit 24) s.2.2.2.1 [(x.1, r.1, IntKind.wrap IntKind.i64 (r_1 + r.2.2.2)), (r.1, x.1, IntKind.wrap IntKind.i64
  (r.2.2.2 - r_1))]) fun (r_2 : List (Int × Int × Int)) => Option.bind (m54F (r.2.1, r.2.2.1)) fun (r_3 : Int) => Option.bind (appM (nat_lit 24) s.2.2.2.2
  [(x.1, r.1, IntKind.wrap IntKind.i64 (r_3 + r.2.2.2)), (r.1, x.1, IntKind.wrap IntKind.i64 (r.2.2.2 - r_3))]) fun (r : List (Int × Int × Int)) => some
  (Sum.inl (IntKind.wrap IntKind.i64 (s.1 + (1 : Int)), s.2.1, s.2.2.1, r_2, r)) else some (Sum.inr (s.2.1, s.2.2.1, s.2.2.2.1, s.2.2.2.2))) ((0 : Int),
  IntKind.wrap IntKind.i64 (x.1 + (1 : Int)), IntKind.wrap IntKind.i64 (x.1 + (1 : Int)), [], [])) fun (o : Int × Int × List (Int × Int × Int) × List (Int × Int
  × Int)) => Option.bind (loopF (fun (s : Int × Int × Int × List (Int × Int × Int) × List (Int × Int × Int)) => bif ltM s.1 (lenM x.2.2) then Option.bind (idxM
  x.2.2 s.1) fun (r : Int × Int × Int × Int × Int) => Option.bind (m53F (r.2.2.1, r.2.2.2.1)) fun (r_1 : Int) => Option.bind (appM (nat_lit 24) s.2.2.2.1 [(r.1,
  r.2.1, IntKind.wrap IntKind.i64 (r_1 + r.2.2.2.2)), (r.2.1, r.1, IntKind.wrap IntKind.i64 (r.2.2.2.2 - r_1))]) fun (r_2 : List (Int × Int × Int)) =>
  Option.bind (m54F (r.2.2.1, r.2.2.2.1)) fun (r_3 : Int) => Option.bind (appM (nat_lit 24) s.2.2.2.2 [(r.1, r.2.1, IntKind.wrap IntKind.i64 (r_3 + r.2.2.2.2)),
  (r.2.1, r.1, IntKind.wrap IntKind.i64 (r.2.2.2.2 - r_3))]) fun (r : List (Int × Int × Int)) => some (Sum.inl (IntKind.wrap IntKind.i64 (s.1 + (1 : Int)),
  s.2.1, s.2.2.1, r_2, r)) else some (Sum.inr (s.2.1, s.2.2.1, s.2.2.2.1, s.2.2.2.2))) ((0 : Int), o.1, o.2.1, o.2.2.1, o.2.2.2)) fun (o : Int × Int × List (Int
  × Int × Int) × List (Int × Int × Int)) => some ((o.1, o.2.2.1), o.2.1, o.2.2.2)
theorem le32 (x) : Le (m32F x) (m32 x) := by
  unfold m32F m32
  repeat' first | exact le53 _ | exact le54 _ | with_reducible exact Le.refl _ | intro _ | apply Le.bind | apply Le.cond | apply Le.nil | apply Le.loop | apply Le.elim
def m60F : (Int × Int × Int) → Option (Bool) :=
  fun (x : Int × Int × Int) => some (PE.andM (leM x.2.1 x.1) (leM x.1 x.2.2))
theorem le60 (x) : Le (m60F x) (m60 x) := by
  unfold m60F m60
  repeat' first | with_reducible exact Le.refl _ | intro _ | apply Le.bind | apply Le.cond | apply Le.nil | apply Le.loop | apply Le.elim
def m63F : (Int × Int × Int × Int) → Option (Bool) :=
  fun (x : Int × Int × Int × Int) => Option.bind (m60F (x.2.1, (0 : Int), IntKind.wrap IntKind.i64 (x.1 - (1 : Int)))) fun (r : Bool) => Option.bind (bif r then
  m60F (x.2.2.1, (0 : Int), IntKind.wrap IntKind.i64 (x.1 - (1 : Int))) else some false) fun (r_1 : Bool) => Option.bind (bif PE.andM r r_1 then m60F (x.2.2.2,
  (-1000000000 : Int), (1000000000 : Int)) else some false) fun (r_2 : Bool) => some (PE.andM (PE.andM r r_1) r_2)
theorem le63 (x) : Le (m63F x) (m63 x) := by
  unfold m63F m63
  repeat' first | exact le60 _ | with_reducible exact Le.refl _ | intro _ | apply Le.bind | apply Le.cond | apply Le.nil | apply Le.loop | apply Le.elim
def m36F : (Int × List (Int × Int × Int)) → Option (Bool) :=
  fun (x : Int × List (Int × Int × Int)) => Option.bind (m60F (x.1, (0 : Int), (16 : Int))) fun (r : Bool) => Option.bind (bif PE.andM r (leM (lenM x.2) (60 :
  Int)) then Option.bind (Option.bind (loopF (fun (s : Int) => bif ltM s (lenM x.2) then Option.bind (idxM x.2 s) fun (r_1 : Int × Int × Int) => Option.bind
  (m63F (x.1, r_1.1, r_1.2.1, r_1.2.2)) fun (r : Bool) => bif PE.notM r then some (Sum.inr (Sum.inr s)) else some (Sum.inl (IntKind.wrap IntKind.i64 (s + (1 :
  Int)))) else some (Sum.inr (Sum.inl ()))) (0 : Int)) fun (o : Unit ⊕ Int) => Sum.elim (fun (t : Unit) => some (-1 : Int)) (fun (t : Int) => some t) o) fun (ov
  : Int) => some (leM (0 : Int) ov) else some false) fun (ov : Bool) => some (PE.andM (PE.andM r (leM (lenM x.2) (60 : Int))) (PE.notM ov))
theorem le36 (x) : Le (m36F x) (m36 x) := by
  unfold m36F m36
  repeat' first | exact le60 _ | exact le63 _ | with_reducible exact Le.refl _ | intro _ | apply Le.bind | apply Le.cond | apply Le.nil | apply Le.loop | apply Le.elim
def m86F : (Int × Int) → Option (Int) :=
  fun (x : Int × Int) => bif eqM x.1 x.2 then some (0 : Int) else some (1152921504606846976 : Int)
theorem le86 (x) : Le (m86F x) (m86 x) := by
  unfold m86F m86
  repeat' first | with_reducible exact Le.refl _ | intro _ | apply Le.bind | apply Le.cond | apply Le.nil | apply Le.loop | apply Le.elim
def m64F : Int → Option (List (List Int)) :=
  fun (x : Int) => Option.bind (mkM x x (nat_lit 24) []) fun (r : List (List Int)) => Option.bind (loopF (fun (s : Int × List (List Int)) => bif ltM s.1 x then
  Option.bind (loopF (fun (s_1 : Int × List (List Int)) => bif ltM s_1.1 x then Option.bind (chkM s.1 (lenM s_1.2)) fun (r_1 : Unit) => Option.bind (chkM s.1
  (lenM s_1.2)) fun (r_2 : Unit) => Option.bind (m86F (s.1, s_1.1)) fun (r_3 : Int) => Option.bind (app2M (nat_lit 8) s_1.2 s.1 [r_3]) fun (r_4 : List (List
  Int)) => Option.bind (chkM s.1 (lenM r_4)) fun (r_5 : Unit) => Option.bind (Option.bind (sameM s.1 s.1) fun (x : Unit) => Option.bind (sameM s.1 s.1) fun (x :
  Unit) => chkM s.1 (lenM r_4)) fun (r : Unit) => some (Sum.inl (IntKind.wrap IntKind.i64 (s_1.1 + (1 : Int)), r_4)) else some (Sum.inr s_1.2)) ((0 : Int),
  s.2)) fun (o : List (List Int)) => some (Sum.inl (IntKind.wrap IntKind.i64 (s.1 + (1 : Int)), o)) else some (Sum.inr s.2)) ((0 : Int), r)) fun (o : List (List
  Int)) => some o
theorem le64 (x) : Le (m64F x) (m64 x) := by
  unfold m64F m64
  repeat' first | exact le86 _ | with_reducible exact Le.refl _ | intro _ | apply Le.bind | apply Le.cond | apply Le.nil | apply Le.loop | apply Le.elim
def m56F : (Int × Int) → Option (Int) :=
  fun (x : Int × Int) => bif PE.orM (eqM x.1 (1152921504606846976 : Int)) (eqM x.2 (1152921504606846976 : Int)) then some (1152921504606846976 : Int) else some
  (IntKind.wrap IntKind.i64 (x.1 + x.2))
theorem le56 (x) : Le (m56F x) (m56 x) := by
  unfold m56F m56
  repeat' first | with_reducible exact Le.refl _ | intro _ | apply Le.bind | apply Le.cond | apply Le.nil | apply Le.loop | apply Le.elim
def m37F : (Int × List (Int × Int × Int)) → Option (List (List Int) × Bool) :=
  fun (x : Int × List (Int × Int × Int)) => Option.bind (mkM x.1 x.1 (nat_lit 24) []) fun (r : List (List Int)) => Option.bind (loopF (fun (s : Int × List (List
  Int)) => bif ltM s.1 x.1 then Option.bind (loopF (fun (s_1 : Int × List (List Int)) => bif ltM s_1.1 x.1 then Option.bind (chkM s.1 (lenM s_1.2)) fun (r_1 :
  Unit) => Option.bind (chkM s.1 (lenM s_1.2)) fun (r_2 : Unit) => Option.bind (m86F (s.1, s_1.1)) fun (r_3 : Int) => Option.bind (app2M (nat_lit 8) s_1.2 s.1
  [r_3]) fun (r_4 : List (List Int)) => Option.bind (chkM s.1 (lenM r_4)) fun (r_5 : Unit) => Option.bind (Option.bind (sameM s.1 s.1) fun (x : Unit) =>
  Option.bind (sameM s.1 s.1) fun (x : Unit) => chkM s.1 (lenM r_4)) fun (r : Unit) => some (Sum.inl (IntKind.wrap IntKind.i64 (s_1.1 + (1 : Int)), r_4)) else
  some (Sum.inr s_1.2)) ((0 : Int), s.2)) fun (o : List (List Int)) => some (Sum.inl (IntKind.wrap IntKind.i64 (s.1 + (1 : Int)), o)) else some (Sum.inr s.2))
  ((0 : Int), r)) fun (o : List (List Int)) => Option.bind (loopF (fun (s : Int × List (List Int)) => bif ltM s.1 (lenM x.2) then Option.bind (idxM x.2 s.1) fun
  (r_1 : Int × Int × Int) => Option.bind (chkM r_1.1 (lenM s.2)) fun (r_2 : Unit) => Option.bind (chkM r_1.1 (lenM s.2)) fun (r_3 : Unit) => Option.bind (chkM
  r_1.1 (lenM s.2)) fun (r_4 : Unit) => Option.bind (chkM r_1.1 (lenM s.2)) fun (r_5 : Unit) => Option.bind (Option.bind (idxM s.2 r_1.1) fun (xs : List Int) =>
  chkM r_1.2.1 (lenM xs)) fun (r_6 : Unit) => Option.bind (Option.bind (idxM s.2 r_1.1) fun (xs : List Int) => Option.bind (idxM xs r_1.2.1) fun (x : Int) =>
  some x) fun (r_7 : Int) => Option.bind (Option.bind (idxM s.2 r_1.1) fun (xs : List Int) => chkM r_1.2.1 (lenM xs)) fun (r_8 : Unit) => Option.bind (set2M s.2
  r_1.1 r_1.2.1 fun (x : Int) => some (min r_7 r_1.2.2)) fun (r : List (List Int)) => some (Sum.inl (IntKind.wrap IntKind.i64 (s.1 + (1 : Int)), r)) else some
  (Sum.inr s.2)) ((0 : Int), o)) fun (o_1 : List (List Int)) => Option.bind (loopF (fun (s : Int × List (List Int)) => bif ltM s.1 x.1 then Option.bind (mkM x.1
  x.1 (nat_lit 8) (0 : Int)) fun (r_1 : List Int) => Option.bind (chkM s.1 (lenM s.2)) fun (r_2 : Unit) => Option.bind (chkM s.1 (lenM s.2)) fun (r_3 : Unit) =>
  Option.bind (idxM s.2 s.1) fun (r_4 : List Int) => Option.bind (loopF (fun (s_1 : Int × List (List Int)) => bif ltM s_1.1 x.1 then Option.bind (loopF (fun
  (s_2 : Int × List (List Int)) => bif ltM s_2.1 x.1 then Option.bind (chkM s_1.1 (lenM s_2.2)) fun (r_5 : Unit) => Option.bind (chkM s_1.1 (lenM s_2.2)) fun
  (r_6 : Unit) => Option.bind (chkM s_1.1 (lenM s_2.2)) fun (r_7 : Unit) => Option.bind (chkM s_1.1 (lenM s_2.2)) fun (r_8 : Unit) => Option.bind (Option.bind
  (idxM s_2.2 s_1.1) fun (xs : List Int) => chkM s_2.1 (lenM xs)) fun (r_9 : Unit) => Option.bind (Option.bind (idxM s_2.2 s_1.1) fun (xs : List Int) =>
  Option.bind (idxM xs s_2.1) fun (x : Int) => some x) fun (r_10 : Int) => Option.bind (chkM s_1.1 (lenM s_2.2)) fun (r_11 : Unit) => Option.bind (chkM s_1.1
  (lenM s_2.2)) fun (r_12 : Unit) => Option.bind (Option.bind (idxM s_2.2 s_1.1) fun (xs : List Int) => chkM s.1 (lenM xs)) fun (r_13 : Unit) => Option.bind
  (Option.bind (idxM s_2.2 s_1.1) fun (xs : List Int) => Option.bind (idxM xs s.1) fun (x : Int) => some x) fun (r_14 : Int) => Option.bind (chkM s_2.1 (lenM
  (copyM r_1 r_4))) fun (r_15 : Unit) => Option.bind (idxM (copyM r_1 r_4) s_2.1) fun (r_16 : Int) => Option.bind (m56F (r_14, r_16)) fun (r_17 : Int) =>
  Option.bind (Option.bind (idxM s_2.2 s_1.1) fun (xs : List Int) => chkM s_2.1 (lenM xs)) fun (r_18 : Unit) => Option.bind (set2M s_2.2 s_1.1 s_2.1 fun (x :
  Int) => some (min r_10 r_17)) fun (r : List (List Int)) => some (Sum.inl (IntKind.wrap IntKind.i64 (s_2.1 + (1 : Int)), r)) else some (Sum.inr s_2.2)) ((0 :
  Int), s_1.2)) fun (o : List (List Int)) => some (Sum.inl (IntKind.wrap IntKind.i64 (s_1.1 + (1 : Int)), o)) else some (Sum.inr s_1.2)) ((0 : Int), s.2)) fun
  (o : List (List Int)) => some (Sum.inl (IntKind.wrap IntKind.i64 (s.1 + (1 : Int)), o)) else some (Sum.inr s.2)) ((0 : Int), o_1)) fun (o_2 : List (List Int))
  => Option.bind (loopF (fun (s : Int) => bif ltM s x.1 then Option.bind (chkM s (lenM o_2)) fun (r_1 : Unit) => Option.bind (chkM s (lenM o_2)) fun (r_2 :
  Unit) => Option.bind (Option.bind (idxM o_2 s) fun (xs : List Int) => chkM s (lenM xs)) fun (r_3 : Unit) => Option.bind (Option.bind (idxM o_2 s) fun (xs :
  List Int) => Option.bind (idxM xs s) fun (x : Int) => some x) fun (r : Int) => bif ltM r (0 : Int) then some (Sum.inr (Sum.inr false)) else some (Sum.inl
  (IntKind.wrap IntKind.i64 (s + (1 : Int)))) else some (Sum.inr (Sum.inl ()))) (0 : Int)) fun (o : Unit ⊕ Bool) => Sum.elim (fun (t : Unit) => some (o_2,
  true)) (fun (t : Bool) => some ([], t)) o
theorem le37 (x) : Le (m37F x) (m37 x) := by
  unfold m37F m37
  repeat' first | exact le56 _ | exact le86 _ | with_reducible exact Le.refl _ | intro _ | apply Le.bind | apply Le.cond | apply Le.nil | apply Le.loop | apply Le.elim
def m12F : (Int × List (Int × Int × Int)) → Option (List (List Int) × Int) :=
  fun (x : Int × List (Int × Int × Int)) => Option.bind (m36F (x.1, x.2)) fun (r : Bool) => bif PE.notM r then some ([], (90 : Int)) else Option.bind (m37F (x.1,
  x.2)) fun (r : List (List Int) × Bool) => bif PE.notM r.2 then some ([], (90 : Int)) else some (r.1, (0 : Int))
theorem le12 (x) : Le (m12F x) (m12 x) := by
  unfold m12F m12
  repeat' first | exact le36 _ | exact le37 _ | with_reducible exact Le.refl _ | intro _ | apply Le.bind | apply Le.cond | apply Le.nil | apply Le.loop | apply Le.elim
def m39F : ((Int × (List (Int × Int × Int × Int)) × List (Int × Int × Int × Int × Int)) × Int × Int) → Option ((Int × Int × Int × Int) × Int) :=
  fun (x : (Int × List (Int × Int × Int × Int) × List (Int × Int × Int × Int × Int)) × Int × Int) => Option.bind (m32F (x.1.1, x.1.2.1, x.1.2.2)) fun (r : (Int ×
  List (Int × Int × Int)) × Int × List (Int × Int × Int)) => Option.bind (m12F (r.1.1, r.1.2)) fun (r_1 : List (List Int) × Int) => Option.bind (m12F (r.2.1,
  r.2.2)) fun (r_2 : List (List Int) × Int) => Option.bind (bif PE.notM (PE.orM (PE.notM (eqM r_1.2 (0 : Int))) (PE.notM (eqM r_2.2 (0 : Int)))) then idxM r_1.1
  x.2.1 else some []) fun (r_3 : List Int) => Option.bind (bif PE.notM (PE.orM (PE.notM (eqM r_1.2 (0 : Int))) (PE.notM (eqM r_2.2 (0 : Int)))) then idxM r_3
  x.2.2 else some (0 : Int)) fun (r_4 : Int) => bif PE.orM (PE.orM (PE.notM (eqM r_1.2 (0 : Int))) (PE.notM (eqM r_2.2 (0 : Int)))) (eqM r_4
  (1152921504606846976 : Int)) then some (((0 : Int), (0 : Int), (0 : Int), (0 : Int)), (100 : Int)) else Option.bind (idxM r_1.1 x.2.2) fun (r_5 : List Int) =>
  Option.bind (idxM r_5 x.2.1) fun (r_6 : Int) => Option.bind (idxM r_1.1 x.2.1) fun (r_7 : List Int) => Option.bind (idxM r_7 x.2.2) fun (r_8 : Int) =>
  Option.bind (idxM r_2.1 x.2.2) fun (r_9 : List Int) => Option.bind (idxM r_9 x.2.1) fun (r_10 : Int) => Option.bind (idxM r_2.1 x.2.1) fun (r_11 : List Int)
  => Option.bind (idxM r_11 x.2.2) fun (r : Int) => some ((IntKind.wrap IntKind.i64 (negM r_6), r_8, IntKind.wrap IntKind.i64 (negM r_10), r), (0 : Int))
theorem le39 (x) : Le (m39F x) (m39 x) := by
  unfold m39F m39
  repeat' first | exact le12 _ | exact le32 _ | with_reducible exact Le.refl _ | intro _ | apply Le.bind | apply Le.cond | apply Le.nil | apply Le.loop | apply Le.elim
def m14F : ((Int × (List (Int × Int × Int × Int)) × List (Int × Int × Int × Int × Int)) × Int) → Option ((Int × Int × Int × Int) × Int) :=
  fun (x : (Int × List (Int × Int × Int × Int) × List (Int × Int × Int × Int × Int)) × Int) => Option.bind (m18F (x.1.1, x.1.2.1, x.1.2.2)) fun (r : Bool) =>
  Option.bind (bif PE.notM (PE.notM r) then m38F (x.2, (0 : Int), IntKind.wrap IntKind.i64 (x.1.1 - (1 : Int))) else some false) fun (r_1 : Bool) => bif PE.orM
  (PE.notM r) (PE.notM r_1) then some (((0 : Int), (0 : Int), (0 : Int), (0 : Int)), (100 : Int)) else Option.bind (m39F ((x.1.1, x.1.2.1, x.1.2.2), x.1.1,
  x.2)) fun (r : (Int × Int × Int × Int) × Int) => some ((r.1.1, r.1.2.1, r.1.2.2.1, r.1.2.2.2), r.2)
theorem le14 (x) : Le (m14F x) (m14 x) := by
  unfold m14F m14
  repeat' first | exact le18 _ | exact le38 _ | exact le39 _ | with_reducible exact Le.refl _ | intro _ | apply Le.bind | apply Le.cond | apply Le.nil | apply Le.loop | apply Le.elim
def m22F : ((Int × (List (Int × Int × Int × Int)) × List (Int × Int × Int × Int × Int)) × Int × Int) → Option ((Int × Int × Int × Int) × Int) :=
  fun (x : (Int × List (Int × Int × Int × Int) × List (Int × Int × Int × Int × Int)) × Int × Int) => Option.bind (m18F (x.1.1, x.1.2.1, x.1.2.2)) fun (r : Bool)
  => Option.bind (bif PE.notM (PE.notM r) then m38F (x.2.1, (0 : Int), IntKind.wrap IntKind.i64 (x.1.1 - (1 : Int))) else some false) fun (r_1 : Bool) =>
  Option.bind (bif PE.notM (PE.orM (PE.notM r) (PE.notM r_1)) then m38F (x.2.2, (0 : Int), IntKind.wrap IntKind.i64 (x.1.1 - (1 : Int))) else some false) fun
  (r_2 : Bool) => bif PE.orM (PE.orM (PE.notM r) (PE.notM r_1)) (PE.notM r_2) then some (((0 : Int), (0 : Int), (0 : Int), (0 : Int)), (100 : Int)) else
  Option.bind (m39F ((x.1.1, x.1.2.1, x.1.2.2), x.2.1, x.2.2)) fun (r : (Int × Int × Int × Int) × Int) => some ((r.1.1, r.1.2.1, r.1.2.2.1, r.1.2.2.2), r.2)
theorem le22 (x) : Le (m22F x) (m22 x) := by
  unfold m22F m22
  repeat' first | exact le18 _ | exact le38 _ | exact le39 _ | with_reducible exact Le.refl _ | intro _ | apply Le.bind | apply Le.cond | apply Le.nil | apply Le.loop | apply Le.elim
def m52F : (Int × Int) → Option (Int) :=
  fun (x : Int × Int) => Option.bind (loopF (fun (s : Int × Int) => bif PE.notM (eqM s.2 (0 : Int)) then Option.bind (remM s.1 s.2) fun (r : Int) => some (Sum.inl
  (s.2, r)) else some (Sum.inr s.1)) (x.1, x.2)) fun (o : Int) => some (max o (IntKind.wrap IntKind.i64 (negM o)))
theorem le52 (x) : Le (m52F x) (m52 x) := by
  unfold m52F m52
  repeat' first | with_reducible exact Le.refl _ | intro _ | apply Le.bind | apply Le.cond | apply Le.nil | apply Le.loop | apply Le.elim
def m25F : (Int × (List (Int × Int × Int × Int)) × List (Int × Int × Int × Int × Int)) → Option ((List Int × List Int × Int) × Int) :=
  fun (x : Int × List (Int × Int × Int × Int) × List (Int × Int × Int × Int × Int)) => Option.bind (m18F (x.1, x.2.1, x.2.2)) fun (r : Bool) => bif PE.notM r then
  some (([], [], (0 : Int)), (100 : Int)) else Option.bind (loopF (fun (s : Int × List Int) => bif ltM s.1 (lenM x.2.1) then Option.bind (idxM x.2.1 s.1) fun
  (r_1 : Int × Int × Int × Int) => Option.bind (bif eqM r_1.1 x.1 then some s.2 else Option.bind (chkM r_1.1 ↑(nat_lit 8)) fun (r_2 : Unit) => Option.bind (chkM
  r_1.1 ↑(nat_lit 10)) fun (r_3 : Unit) => Option.bind (idxM s.2 (↑(nat_lit 0) + r_1.1 * ↑(nat_lit 10) + r_1.1 * ↑(nat_lit 1))) fun (r_4 : Int) => Option.bind
  (chkM r_1.1 ↑(nat_lit 8)) fun (r_5 : Unit) => Option.bind (chkM r_1.1 ↑(nat_lit 10)) fun (r_6 : Unit) => Option.bind (setM s.2 (↑(nat_lit 0) + r_1.1 *
  ↑(nat_lit 10) + r_1.1 * ↑(nat_lit 1)) fun (x : Int) => some (IntKind.wrap IntKind.i64 (r_4 + (1 : Int)))) fun (r_7 : List Int) => Option.bind (chkM r_1.1
  ↑(nat_lit 8)) fun (r_8 : Unit) => Option.bind (idxM r_7 (↑(nat_lit 0) + r_1.1 * ↑(nat_lit 10) + (8 : Int))) fun (r_9 : Int) => Option.bind (chkM r_1.1
  ↑(nat_lit 8)) fun (r_10 : Unit) => Option.bind (setM r_7 (↑(nat_lit 0) + r_1.1 * ↑(nat_lit 10) + (8 : Int)) fun (x : Int) => some (IntKind.wrap IntKind.i64
  (r_9 + r_1.2.1))) fun (r_11 : List Int) => Option.bind (chkM r_1.1 ↑(nat_lit 8)) fun (r_12 : Unit) => Option.bind (idxM r_11 (↑(nat_lit 0) + r_1.1 * ↑(nat_lit
  10) + (9 : Int))) fun (r_13 : Int) => Option.bind (chkM r_1.1 ↑(nat_lit 8)) fun (r_14 : Unit) => Option.bind (setM r_11 (↑(nat_lit 0) + r_1.1 * ↑(nat_lit 10)
  + (9 : Int)) fun (x : Int) => some (IntKind.wrap IntKind.i64 (r_13 + r_1.2.2.1))) fun (r_15 : List Int) => bif ltM x.1 x.1 then Option.bind (chkM r_1.1
  ↑(nat_lit 8)) fun (r_16 : Unit) => Option.bind (chkM x.1 ↑(nat_lit 10)) fun (r_17 : Unit) => Option.bind (idxM r_15 (↑(nat_lit 0) + r_1.1 * ↑(nat_lit 10) +
  x.1 * ↑(nat_lit 1))) fun (r_18 : Int) => Option.bind (chkM r_1.1 ↑(nat_lit 8)) fun (r_19 : Unit) => Option.bind (chkM x.1 ↑(nat_lit 10)) fun (r_20 : Unit) =>
  Option.bind (setM r_15 (↑(nat_lit 0) + r_1.1 * ↑(nat_lit 10) + x.1 * ↑(nat_lit 1)) fun (x : Int) => some (IntKind.wrap IntKind.i64 (r_18 - (1 : Int)))) fun (r
  : List Int) => some r else some r_15) fun (ov : List Int) => Option.bind (bif eqM x.1 x.1 then some ov else Option.bind (chkM x.1 ↑(nat_lit 8)) fun (r_2 :
  Unit) => Option.bind (chkM x.1 ↑(nat_lit 10)) fun (r_3 : Unit) => Option.bind (idxM ov (↑(nat_lit 0) + x.1 * ↑(nat_lit 10) + x.1 * ↑(nat_lit 1))) fun (r_4 :
  Int) => Option.bind (chkM x.1 ↑(nat_lit 8)) fun (r_5 : Unit) => Option.bind (chkM x.1 ↑(nat_lit 10)) fun (r_6 : Unit) => Option.bind (setM ov (↑(nat_lit 0) +
  x.1 * ↑(nat_lit 10) + x.1 * ↑(nat_lit 1)) fun (x : Int) => some (IntKind.wrap IntKind.i64 (r_4 + (1 : Int)))) fun (r_7 : List Int) => Option.bind (chkM x.1
  ↑(nat_lit 8)) fun (r_8 : Unit) => Option.bind (idxM r_7 (↑(nat_lit 0) + x.1 * ↑(nat_lit 10) + (8 : Int))) fun (r_9 : Int) => Option.bind (chkM x.1 ↑(nat_lit
  8)) fun (r_10 : Unit) => Option.bind (setM r_7 (↑(nat_lit 0) + x.1 * ↑(nat_lit 10) + (8 : Int)) fun (x : Int) => some (IntKind.wrap IntKind.i64 (r_9 +
  IntKind.wrap IntKind.i64 (negM r_1.2.1)))) fun (r_11 : List Int) => Option.bind (chkM x.1 ↑(nat_lit 8)) fun (r_12 : Unit) => Option.bind (idxM r_11 (↑(nat_lit
  0) + x.1 * ↑(nat_lit 10) + (9 : Int))) fun (r_13 : Int) => Option.bind (chkM x.1 ↑(nat_lit 8)) fun (r_14 : Unit) => Option.bind (setM r_11 (↑(nat_lit 0) + x.1
  * ↑(nat_lit 10) + (9 : Int)) fun (x : Int) => some (IntKind.wrap IntKind.i64 (r_13 + IntKind.wrap IntKind.i64 (negM r_1.2.2.1)))) fun (r_15 : List Int) => bif
  ltM r_1.1 x.1 then Option.bind (chkM x.1 ↑(nat_lit 8)) fun (r_16 : Unit) => Option.bind (chkM r_1.1 ↑(nat_lit 10)) fun (r_17 : Unit) => Option.bind (idxM r_15
  (↑(nat_lit 0) + x.1 * ↑(nat_lit 10) + r_1.1 * ↑(nat_lit 1))) fun (r_18 : Int) => Option.bind (chkM x.1 ↑(nat_lit 8)) fun (r_19 : Unit) => Option.bind (chkM
  r_1.1 ↑(nat_lit 10)) fun (r_20 : Unit) => Option.bind (setM r_15 (↑(nat_lit 0) + x.1 * ↑(nat_lit 10) + r_1.1 * ↑(nat_lit 1)) fun (x : Int) => some
  (IntKind.wrap IntKind.i64 (r_18 - (1 : Int)))) fun (r : List Int) => some r else some r_15) fun (ov : List Int) => some (Sum.inl (IntKind.wrap IntKind.i64
  (s.1 + (1 : Int)), ov)) else some (Sum.inr s.2)) ((0 : Int), [(0 : Int), (0 : Int), (0 : Int), (0 : Int), (0 : Int), (0 : Int), (0 : Int), (0 : Int), (0 :
  Int), (0 : Int), (0 : Int), (0 : Int), (0 : Int), (0 : Int), (0 : Int), (0 : Int), (0 : Int), (0 : Int), (0 : Int), (0 : Int), (0 : Int), (0 : Int), (0 :
  Int), (0 : Int), (0 : Int), (0 : Int), (0 : Int), (0 : Int), (0 : Int), (0 : Int), (0 : Int), (0 : Int), (0 : Int), (0 : Int), (0 : Int), (0 : Int), (0 :
  Int), (0 : Int), (0 : Int), (0 : Int), (0 : Int), (0 : Int), (0 : Int), (0 : Int), (0 : Int), (0 : Int), (0 : Int), (0 : Int), (0 : Int), (0 : Int), (0 :
  Int), (0 : Int), (0 : Int), (0 : Int), (0 : Int), (0 : Int), (0 : Int), (0 : Int), (0 : Int), (0 : Int), (0 : Int), (0 : Int), (0 : Int), (0 : Int), (0 :
  Int), (0 : Int), (0 : Int), (0 : Int), (0 : Int), (0 : Int), (0 : Int), (0 : Int), (0 : Int), (0 : Int), (0 : Int), (0 : Int), (0 : Int), (0 : Int), (0 :
  Int), (0 : Int)])) fun (o : List Int) => Option.bind (loopF (fun (s : Int × List Int) => bif ltM s.1 (lenM x.2.2) then Option.bind (idxM x.2.2 s.1) fun (r_1 :
  Int × Int × Int × Int × Int) => Option.bind (bif eqM r_1.2.1 x.1 then some s.2 else Option.bind (chkM r_1.2.1 ↑(nat_lit 8)) fun (r_2 : Unit) => Option.bind
  (chkM r_1.2.1 ↑(nat_lit 10)) fun (r_3 : Unit) => Option.bind (idxM s.2 (↑(nat_lit 0) + r_1.2.1 * ↑(nat_lit 10) + r_1.2.1 * ↑(nat_lit 1))) fun (r_4 : Int) =>
  Option.bind (chkM r_1.2.1 ↑(nat_lit 8)) fun (r_5 : Unit) => Option.bind (chkM r_1.2.1 ↑(nat_lit 10)) fun (r_6 : Unit) => Option.bind (setM s.2 (↑(nat_lit 0) +
  r_1.2.1 * ↑(nat_lit 10) + r_1.2.1 * ↑(nat_lit 1)) fun (x : Int) => some (IntKind.wrap IntKind.i64 (r_4 + (1 : Int)))) fun (r_7 : List Int) => Option.bind
  (chkM r_1.2.1 ↑(nat_lit 8)) fun (r_8 : Unit) => Option.bind (idxM r_7 (↑(nat_lit 0) + r_1.2.1 * ↑(nat_lit 10) + (8 : Int))) fun (r_9 : Int) => Option.bind
  (chkM r_1.2.1 ↑(nat_lit 8)) fun (r_10 : Unit) => Option.bind (setM r_7 (↑(nat_lit 0) + r_1.2.1 * ↑(nat_lit 10) + (8 : Int)) fun (x : Int) => some
  (IntKind.wrap IntKind.i64 (r_9 + r_1.2.2.1))) fun (r_11 : List Int) => Option.bind (chkM r_1.2.1 ↑(nat_lit 8)) fun (r_12 : Unit) => Option.bind (idxM r_11
  (↑(nat_lit 0) + r_1.2.1 * ↑(nat_lit 10) + (9 : Int))) fun (r_13 : Int) => Option.bind (chkM r_1.2.1 ↑(nat_lit 8)) fun (r_14 : Unit) => Option.bind (setM r_11
  (↑(nat_lit 0) + r_1.2.1 * ↑(nat_lit 10) + (9 : Int)) fun (x : Int) => some (IntKind.wrap IntKind.i64 (r_13 + r_1.2.2.2.1))) fun (r_15 : List Int) => bif ltM
  r_1.1 x.1 then Option.bind (chkM r_1.2.1 ↑(nat_lit 8)) fun (r_16 : Unit) => Option.bind (chkM r_1.1 ↑(nat_lit 10)) fun (r_17 : Unit) => Option.bind (idxM r_15
  (↑(nat_lit 0) + r_1.2.1 * ↑(nat_lit 10) + r_1.1 * ↑(nat_lit 1))) fun (r_18 : Int) => Option.bind (chkM r_1.2.1 ↑(nat_lit 8)) fun (r_19 : Unit) => Option.bind
  (chkM r_1.1 ↑(nat_lit 10)) fun (r_20 : Unit) => Option.bind (setM r_15 (↑(nat_lit 0) + r_1.2.1 * ↑(nat_lit 10) + r_1.1 * ↑(nat_lit 1)) fun (x : Int) => some
  (IntKind.wrap IntKind.i64 (r_18 - (1 : Int)))) fun (r : List Int) => some r else some r_15) fun (ov : List Int) => Option.bind (bif eqM r_1.1 x.1 then some ov
  else Option.bind (chkM r_1.1 ↑(nat_lit 8)) fun (r_2 : Unit) => Option.bind (chkM r_1.1 ↑(nat_lit 10)) fun (r_3 : Unit) => Option.bind (idxM ov (↑(nat_lit 0) +
  r_1.1 * ↑(nat_lit 10) + r_1.1 * ↑(nat_lit 1))) fun (r_4 : Int) => Option.bind (chkM r_1.1 ↑(nat_lit 8)) fun (r_5 : Unit) => Option.bind (chkM r_1.1 ↑(nat_lit
  10)) fun (r_6 : Unit) => Option.bind (setM ov (↑(nat_lit 0) + r_1.1 * ↑(nat_lit 10) + r_1.1 * ↑(nat_lit 1)) fun (x : Int) => some (IntKind.wrap IntKind.i64
  (r_4 + (1 : Int)))) fun (r_7 : List Int) => Option.bind (chkM r_1.1 ↑(nat_lit 8)) fun (r_8 : Unit) => Option.bind (idxM r_7 (↑(nat_lit 0) + r_1.1 * ↑(nat_lit
  10) + (8 : Int))) fun (r_9 : Int) => Option.bind (chkM r_1.1 ↑(nat_lit 8)) fun (r_10 : Unit) => Option.bind (setM r_7 (↑(nat_lit 0) + r_1.1 * ↑(nat_lit 10) +
  (8 : Int)) fun (x : Int) => some (IntKind.wrap IntKind.i64 (r_9 + IntKind.wrap IntKind.i64 (negM r_1.2.2.1)))) fun (r_11 : List Int) => Option.bind (chkM
  r_1.1 ↑(nat_lit 8)) fun (r_12 : Unit) => Option.bind (idxM r_11 (↑(nat_lit 0) + r_1.1 * ↑(nat_lit 10) + (9 : Int))) fun (r_13 : Int) => Option.bind (chkM
  r_1.1 ↑(nat_lit 8)) fun (r_14 : Unit) => Option.bind (setM r_11 (↑(nat_lit 0) + r_1.1 * ↑(nat_lit 10) + (9 : Int)) fun (x : Int) => some (IntKind.wrap
  IntKind.i64 (r_13 + IntKind.wrap IntKind.i64 (negM r_1.2.2.2.1)))) fun (r_15 : List Int) => bif ltM r_1.2.1 x.1 then Option.bind (chkM r_1.1 ↑(nat_lit 8)) fun
  (r_16 : Unit) => Option.bind (chkM r_1.2.1 ↑(nat_lit 10)) fun (r_17 : Unit) => Option.bind (idxM r_15 (↑(nat_lit 0) + r_1.1 * ↑(nat_lit 10) + r_1.2.1 *
  ↑(nat_lit 1))) fun (r_18 : Int) => Option.bind (chkM r_1.1 ↑(nat_lit 8)) fun (r_19 : Unit) => Option.bind (chkM r_1.2.1 ↑(nat_lit 10)) fun (r_20 : Unit) =>
  Option.bind (setM r_15 (↑(nat_lit 0) + r_1.1 * ↑(nat_lit 10) + r_1.2.1 * ↑(nat_lit 1)) fun (x : Int) => some (IntKind.wrap IntKind.i64 (r_18 - (1 : Int))))
  fun (r : List Int) => some r else some r_15) fun (ov : List Int) => some (Sum.inl (IntKind.wrap IntKind.i64 (s.1 + (1 : Int)), ov)) else some (Sum.inr s.2))
  ((0 : Int), o)) fun (o_1 : List Int) => Option.bind (Option.bind (loopF (fun (s : Int × Int × List Int) => bif ltM s.2.1 x.1 then Option.bind (loopF (fun (s_1
  : Int) => Option.bind (bif ltM s_1 x.1 then chkM s_1 ↑(nat_lit 8) else some ()) fun (r_1 : Unit) => Option.bind (bif ltM s_1 x.1 then chkM s.2.1 ↑(nat_lit 10)
  else some ()) fun (r_2 : Unit) => Option.bind (bif ltM s_1 x.1 then idxM s.2.2 (↑(nat_lit 0) + s_1 * ↑(nat_lit 10) + s.2.1 * ↑(nat_lit 1)) else some (0 :
  Int)) fun (r : Int) => bif PE.andM (ltM s_1 x.1) (eqM r (0 : Int)) then some (Sum.inl (IntKind.wrap IntKind.i64 (s_1 + (1 : Int)))) else some (Sum.inr s_1))
  s.2.1) fun (o_2 : Int) => bif eqM o_2 x.1 then some (Sum.inr (Sum.inr ((0 : Int), s.2.2))) else Option.bind (chkM s.2.1 ↑(nat_lit 8)) fun (r_1 : Unit) =>
  Option.bind (sliceM s.2.2 (↑(nat_lit 0) + s.2.1 * ↑(nat_lit 10)) (↑(nat_lit 0) + s.2.1 * ↑(nat_lit 10) + ↑(nat_lit 10))) fun (r_2 : List Int) => Option.bind
  (chkM o_2 ↑(nat_lit 8)) fun (r_3 : Unit) => Option.bind (sliceM s.2.2 (↑(nat_lit 0) + o_2 * ↑(nat_lit 10)) (↑(nat_lit 0) + o_2 * ↑(nat_lit 10) + ↑(nat_lit
  10))) fun (r_4 : List Int) => Option.bind (chkM o_2 ↑(nat_lit 8)) fun (r_5 : Unit) => Option.bind (putM s.2.2 (↑(nat_lit 0) + o_2 * ↑(nat_lit 10)) [nthD r_2
  (nat_lit 0) (0 : Int), nthD r_2 (nat_lit 1) (0 : Int), nthD r_2 (nat_lit 2) (0 : Int), nthD r_2 (nat_lit 3) (0 : Int), nthD r_2 (nat_lit 4) (0 : Int), nthD
  r_2 (nat_lit 5) (0 : Int), nthD r_2 (nat_lit 6) (0 : Int), nthD r_2 (nat_lit 7) (0 : Int), nthD r_2 (nat_lit 8) (0 : Int), nthD r_2 (nat_lit 9) (0 : Int)])
  fun (r_6 : List Int) => Option.bind (chkM s.2.1 ↑(nat_lit 8)) fun (r_7 : Unit) => Option.bind (putM r_6 (↑(nat_lit 0) + s.2.1 * ↑(nat_lit 10)) [nthD r_4
  (nat_lit 0) (0 : Int), nthD r_4 (nat_lit 1) (0 : Int), nthD r_4 (nat_lit 2) (0 : Int), nthD r_4 (nat_lit 3) (0 : Int), nthD r_4 (nat_lit 4) (0 : Int), nthD
  r_4 (nat_lit 5) (0 : Int), nthD r_4 (nat_lit 6) (0 : Int), nthD r_4 (nat_lit 7) (0 : Int), nthD r_4 (nat_lit 8) (0 : Int), nthD r_4 (nat_lit 9) (0 : Int)])
  fun (r_8 : List Int) => Option.bind (loopF (fun (s_1 : Int × List Int) => bif ltM s_1.1 x.1 then Option.bind (bif eqM s_1.1 s.2.1 then some s_1.2 else
  Option.bind (chkM s_1.1 ↑(nat_lit 8)) fun (r_9 : Unit) => Option.bind (chkM s.2.1 ↑(nat_lit 10)) fun (r_10 : Unit) => Option.bind (idxM s_1.2 (↑(nat_lit 0) +
  s_1.1 * ↑(nat_lit 10) + s.2.1 * ↑(nat_lit 1))) fun (r_11 : Int) => Option.bind (loopF (fun (s_2 : Int × List Int) => bif ltM s_2.1 (10 : Int) then Option.bind
  (chkM s_1.1 ↑(nat_lit 8)) fun (r_12 : Unit) => Option.bind (chkM s_2.1 ↑(nat_lit 10)) fun (r_13 : Unit) => Option.bind (idxM s_2.2 (↑(nat_lit 0) + s_1.1 *
  ↑(nat_lit 10) + s_2.1 * ↑(nat_lit 1))) fun (r_14 : Int) => Option.bind (chkM s.2.1 ↑(nat_lit 8)) fun (r_15 : Unit) => Option.bind (chkM s.2.1 ↑(nat_lit 10))
  fun (r_16 : Unit) => Option.bind (idxM s_2.2 (↑(nat_lit 0) + s.2.1 * ↑(nat_lit 10) + s.2.1 * ↑(nat_lit 1))) fun (r_17 : Int) => Option.bind (chkM s.2.1
  ↑(nat_lit 8)) fun (r_18 : Unit) => Option.bind (chkM s_2.1 ↑(nat_lit 10)) fun (r_19 : Unit) => Option.bind (idxM s_2.2 (↑(nat_lit 0) + s.2.1 * ↑(nat_lit 10) +
  s_2.1 * ↑(nat_lit 1))) fun (r_20 : Int) => Option.bind (divM IntKind.i64 (IntKind.wrap IntKind.i64 (IntKind.wrap IntKind.i64 (r_14 * r_17) - IntKind.wrap
  IntKind.i64 (r_11 * r_20))) s.1) fun (r_21 : Int) => Option.bind (chkM s_1.1 ↑(nat_lit 8)) fun (r_22 : Unit) => Option.bind (chkM s_2.1 ↑(nat_lit 10)) fun
  (r_23 : Unit) => Option.bind (setM s_2.2 (↑(nat_lit 0) + s_1.1 * ↑(nat_lit 10) + s_2.1 * ↑(nat_lit 1)) fun (x : Int) => some r_21) fun (r : List Int) => some
  (Sum.inl (IntKind.wrap IntKind.i64 (s_2.1 + (1 : Int)), r)) else some (Sum.inr s_2.2)) ((0 : Int), s_1.2)) fun (o : List Int) => some o) fun (o : List Int) =>
  some (Sum.inl (IntKind.wrap IntKind.i64 (s_1.1 + (1 : Int)), o)) else some (Sum.inr s_1.2)) ((0 : Int), r_8)) fun (o_3 : List Int) => Option.bind (chkM s.2.1
  ↑(nat_lit 8)) fun (r_9 : Unit) => Option.bind (chkM s.2.1 ↑(nat_lit 10)) fun (r_10 : Unit) => Option.bind (idxM o_3 (↑(nat_lit 0) + s.2.1 * ↑(nat_lit 10) +
  s.2.1 * ↑(nat_lit 1))) fun (r : Int) => some (Sum.inl (r, IntKind.wrap IntKind.i64 (s.2.1 + (1 : Int)), o_3)) else some (Sum.inr (Sum.inl (s.1, s.2.2)))) ((1
  : Int), (0 : Int), o_1)) fun (o : Int × List Int ⊕ Int × List Int) => Sum.elim (fun (t : Int × List Int) => some (t.1, t.2)) (fun (t : Int × List Int) => some
  (t.1, t.2)) o) fun (ov : Int × List Int) => bif eqM ov.1 (0 : Int) then some (([], [], (0 : Int)), (100 : Int)) else Option.bind (loopF (fun (s : Int × Int ×
  Int × List Int × List Int) => bif ltM s.2.1 x.1 then Option.bind (chkM s.2.1 ↑(nat_lit 8)) fun (r_1 : Unit) => Option.bind (idxM ov.2 (↑(nat_lit 0) + s.2.1 *
  ↑(nat_lit 10) + (8 : Int))) fun (r_2 : Int) => Option.bind (appM (nat_lit 8) s.2.2.2.1 [r_2]) fun (r_3 : List Int) => Option.bind (chkM s.2.1 ↑(nat_lit 8))
  fun (r_4 : Unit) => Option.bind (idxM ov.2 (↑(nat_lit 0) + s.2.1 * ↑(nat_lit 10) + (9 : Int))) fun (r_5 : Int) => Option.bind (appM (nat_lit 8) s.2.2.2.2
  [r_5]) fun (r_6 : List Int) => Option.bind (chkM s.2.1 (lenM r_3)) fun (r_7 : Unit) => Option.bind (idxM r_3 s.2.1) fun (r_8 : Int) => Option.bind (m52F (s.1,
  r_8)) fun (r_9 : Int) => Option.bind (chkM s.2.1 (lenM r_6)) fun (r_10 : Unit) => Option.bind (idxM r_6 s.2.1) fun (r_11 : Int) => Option.bind (m52F (r_9,
  r_11)) fun (r : Int) => some (Sum.inl (r, IntKind.wrap IntKind.i64 (s.2.1 + (1 : Int)), s.2.2.1, r_3, r_6)) else some (Sum.inr (s.1, s.2.2.1, s.2.2.2.1,
  s.2.2.2.2))) (ov.1, (0 : Int), ov.1, [], [])) fun (o_2 : Int × Int × List Int × List Int) => Option.bind (bif ltM ov.1 (0 : Int) then some (IntKind.wrap
  IntKind.i64 (negM o_2.1)) else some o_2.1) fun (o_3 : Int) => Option.bind (divM IntKind.i64 o_2.2.1 o_3) fun (r_1 : Int) => Option.bind (loopF (fun (s : Int ×
  List Int × List Int) => bif ltM s.1 x.1 then Option.bind (chkM s.1 (lenM s.2.1)) fun (r_2 : Unit) => Option.bind (idxM s.2.1 s.1) fun (r_3 : Int) =>
  Option.bind (divM IntKind.i64 r_3 o_3) fun (r_4 : Int) => Option.bind (chkM s.1 (lenM s.2.1)) fun (r_5 : Unit) => Option.bind (setM s.2.1 s.1 fun (x : Int) =>
  some r_4) fun (r_6 : List Int) => Option.bind (chkM s.1 (lenM s.2.2)) fun (r_7 : Unit) => Option.bind (idxM s.2.2 s.1) fun (r_8 : Int) => Option.bind (divM
  IntKind.i64 r_8 o_3) fun (r_9 : Int) => Option.bind (chkM s.1 (lenM s.2.2)) fun (r_10 : Unit) => Option.bind (setM s.2.2 s.1 fun (x : Int) => some r_9) fun (r
  : List Int) => some (Sum.inl (IntKind.wrap IntKind.i64 (s.1 + (1 : Int)), r_6, r)) else some (Sum.inr (s.2.1, s.2.2))) ((0 : Int), o_2.2.2.1, o_2.2.2.2)) fun
  (o : List Int × List Int) => some ((o.1, o.2, r_1), (0 : Int))
theorem le25 (x) : Le (m25F x) (m25 x) := by
  unfold m25F m25
  repeat' first | exact le18 _ | exact le52 _ | with_reducible exact Le.refl _ | intro _ | apply Le.bind | apply Le.cond | apply Le.nil | apply Le.loop | apply Le.elim
def m72F : (Int × Int) → Option (Int) :=
  fun (x : Int × Int) => some (1152921504606846976 : Int)
theorem le72 (x) : Le (m72F x) (m72 x) := by
  unfold m72F m72
  repeat' first | with_reducible exact Le.refl _ | intro _ | apply Le.bind | apply Le.cond | apply Le.nil | apply Le.loop | apply Le.elim
def m57F : ((Int × List (Int × Int × Int)) × List (List (List Int)) × Int × Int × Int × Int) → Option (List Int) :=
  fun (x : (Int × List (Int × Int × Int)) × List (List (List Int)) × Int × Int × Int × Int) => Option.bind (loopF (fun (s : Int × Int × Int × List Int) => bif ltM
  (0 : Int) s.2.1 then Option.bind (Option.bind (loopF (fun (s_1 : Int) => bif ltM s_1 (lenM x.1.2) then Option.bind (idxM x.1.2 s_1) fun (r : Int × Int × Int)
  => Option.bind (bif eqM r.1 s.1 then idxM x.2.1 (IntKind.wrap IntKind.i64 (s.2.1 - (1 : Int))) else some []) fun (r_1 : List (List Int)) => Option.bind (bif
  eqM r.1 s.1 then idxM r_1 r.2.1 else some []) fun (r_2 : List Int) => Option.bind (bif eqM r.1 s.1 then idxM r_2 x.2.2.2.1 else some (0 : Int)) fun (r_3 :
  Int) => Option.bind (bif eqM r.1 s.1 then m56F (r.2.2, r_3) else some (0 : Int)) fun (r_4 : Int) => bif PE.andM (eqM r.1 s.1) (leM r_4 s.2.2.1) then some
  (Sum.inr (Sum.inr s_1)) else some (Sum.inl (IntKind.wrap IntKind.i64 (s_1 + (1 : Int)))) else some (Sum.inr (Sum.inl ()))) (0 : Int)) fun (o : Unit ⊕ Int) =>
  Sum.elim (fun (t : Unit) => some (-1 : Int)) (fun (t : Int) => some t) o) fun (ov : Int) => Option.bind (idxM x.1.2 ov) fun (r : Int × Int × Int) =>
  Option.bind (idxM x.1.2 ov) fun (r_1 : Int × Int × Int) => Option.bind (appM (nat_lit 8) s.2.2.2 [ov]) fun (r_2 : List Int) => some (Sum.inl (r.2.1,
  IntKind.wrap IntKind.i64 (s.2.1 - (1 : Int)), IntKind.wrap IntKind.i64 (s.2.2.1 - r_1.2.2), r_2)) else some (Sum.inr (s.1, s.2.1, s.2.2.1, s.2.2.2)))
  (x.2.2.1, x.2.2.2.2.1, x.2.2.2.2.2, [])) fun (o : Int × Int × Int × List Int) => some o.2.2.2
theorem le57 (x) : Le (m57F x) (m57 x) := by
  unfold m57F m57
  repeat' first | exact le56 _ | with_reducible exact Le.refl _ | intro _ | apply Le.bind | apply Le.cond | apply Le.nil | apply Le.loop | apply Le.elim
def m33F : (Int × List (Int × Int × Int)) → Option (List Int × Bool) :=
  fun (x : Int × List (Int × Int × Int)) => Option.bind (m36F (x.1, x.2)) fun (r : Bool) => bif PE.notM r then some ([], false) else Option.bind (m37F (x.1, x.2))
  fun (r_1 : List (List Int) × Bool) => bif r_1.2 then some ([], false) else Option.bind (m64F x.1) fun (r_2 : List (List Int)) => Option.bind (loopF (fun (s :
  List (List Int) × List (List (List Int))) => Option.bind (appM (nat_lit 24) s.2 [s.1]) fun (r_3 : List (List (List Int))) => Option.bind (loopF (fun (s_1 :
  Int) => bif ltM s_1 (lenM x.2) then Option.bind (idxM x.2 s_1) fun (r_4 : Int × Int × Int) => Option.bind (bif ltM (0 : Int) (IntKind.wrap IntKind.i64 (lenM
  r_3 - (1 : Int))) then chkM (IntKind.wrap IntKind.i64 (IntKind.wrap IntKind.i64 (lenM r_3 - (1 : Int)) - (1 : Int))) (lenM r_3) else some ()) fun (r_5 : Unit)
  => Option.bind (bif ltM (0 : Int) (IntKind.wrap IntKind.i64 (lenM r_3 - (1 : Int))) then idxM r_3 (IntKind.wrap IntKind.i64 (IntKind.wrap IntKind.i64 (lenM
  r_3 - (1 : Int)) - (1 : Int))) else some []) fun (r_6 : List (List Int)) => Option.bind (bif ltM (0 : Int) (IntKind.wrap IntKind.i64 (lenM r_3 - (1 : Int)))
  then idxM r_6 r_4.2.1 else some []) fun (r_7 : List Int) => Option.bind (bif ltM (0 : Int) (IntKind.wrap IntKind.i64 (lenM r_3 - (1 : Int))) then idxM r_7
  r_4.1 else some (0 : Int)) fun (r_8 : Int) => Option.bind (bif ltM (0 : Int) (IntKind.wrap IntKind.i64 (lenM r_3 - (1 : Int))) then m56F (r_4.2.2, r_8) else
  some (0 : Int)) fun (r_9 : Int) => bif PE.andM (ltM (0 : Int) (IntKind.wrap IntKind.i64 (lenM r_3 - (1 : Int)))) (ltM r_9 (0 : Int)) then Option.bind (m57F
  ((x.1, x.2), r_3, r_4.2.1, r_4.1, IntKind.wrap IntKind.i64 (IntKind.wrap IntKind.i64 (lenM r_3 - (1 : Int)) - (1 : Int)), IntKind.wrap IntKind.i64 ((-1 : Int)
  - r_4.2.2))) fun (r_10 : List Int) => Option.bind (appM (nat_lit 8) [s_1] r_10) fun (r : List Int) => some (Sum.inr (Sum.inr (r, true, r_3))) else some
  (Sum.inl (IntKind.wrap IntKind.i64 (s_1 + (1 : Int)))) else some (Sum.inr (Sum.inl ()))) (0 : Int)) fun (o : Unit ⊕ List Int × Bool × List (List (List Int)))
  => Sum.elim (fun (t : Unit) => Option.bind (mkM x.1 x.1 (nat_lit 24) []) fun (r_4 : List (List Int)) => Option.bind (loopF (fun (s_1 : Int × List (List Int))
  => bif ltM s_1.1 x.1 then Option.bind (loopF (fun (s_2 : Int × List (List Int)) => bif ltM s_2.1 x.1 then Option.bind (chkM s_1.1 (lenM s_2.2)) fun (r_5 :
  Unit) => Option.bind (chkM s_1.1 (lenM s_2.2)) fun (r_6 : Unit) => Option.bind (m72F (s_1.1, s_2.1)) fun (r_7 : Int) => Option.bind (app2M (nat_lit 8) s_2.2
  s_1.1 [r_7]) fun (r_8 : List (List Int)) => Option.bind (chkM s_1.1 (lenM r_8)) fun (r_9 : Unit) => Option.bind (Option.bind (sameM s_1.1 s_1.1) fun (x :
  Unit) => Option.bind (sameM s_1.1 s_1.1) fun (x : Unit) => chkM s_1.1 (lenM r_8)) fun (r : Unit) => some (Sum.inl (IntKind.wrap IntKind.i64 (s_2.1 + (1 :
  Int)), r_8)) else some (Sum.inr s_2.2)) ((0 : Int), s_1.2)) fun (o : List (List Int)) => some (Sum.inl (IntKind.wrap IntKind.i64 (s_1.1 + (1 : Int)), o)) else
  some (Sum.inr s_1.2)) ((0 : Int), r_4)) fun (o : List (List Int)) => Option.bind (loopF (fun (s_1 : Int × List (List Int)) => bif ltM s_1.1 (lenM x.2) then
  Option.bind (idxM x.2 s_1.1) fun (r_5 : Int × Int × Int) => Option.bind (loopF (fun (s_2 : Int × List (List Int)) => bif ltM s_2.1 x.1 then Option.bind (chkM
  s_2.1 (lenM s_2.2)) fun (r_6 : Unit) => Option.bind (chkM s_2.1 (lenM s_2.2)) fun (r_7 : Unit) => Option.bind (chkM s_2.1 (lenM s_2.2)) fun (r_8 : Unit) =>
  Option.bind (chkM s_2.1 (lenM s_2.2)) fun (r_9 : Unit) => Option.bind (Option.bind (idxM s_2.2 s_2.1) fun (xs : List Int) => chkM r_5.2.1 (lenM xs)) fun (r_10
  : Unit) => Option.bind (Option.bind (idxM s_2.2 s_2.1) fun (xs : List Int) => Option.bind (idxM xs r_5.2.1) fun (x : Int) => some x) fun (r_11 : Int) =>
  Option.bind (idxM s.1 s_2.1) fun (r_12 : List Int) => Option.bind (idxM r_12 r_5.1) fun (r_13 : Int) => Option.bind (m56F (r_13, r_5.2.2)) fun (r_14 : Int) =>
  Option.bind (Option.bind (idxM s_2.2 s_2.1) fun (xs : List Int) => chkM r_5.2.1 (lenM xs)) fun (r_15 : Unit) => Option.bind (set2M s_2.2 s_2.1 r_5.2.1 fun (x
  : Int) => some (min r_11 r_14)) fun (r : List (List Int)) => some (Sum.inl (IntKind.wrap IntKind.i64 (s_2.1 + (1 : Int)), r)) else some (Sum.inr s_2.2)) ((0 :
  Int), s_1.2)) fun (o : List (List Int)) => some (Sum.inl (IntKind.wrap IntKind.i64 (s_1.1 + (1 : Int)), o)) else some (Sum.inr s_1.2)) ((0 : Int), o)) fun (o
  : List (List Int)) => some (Sum.inl (o, r_3))) (fun (t : List Int × Bool × List (List (List Int))) => some (Sum.inr (t.1, t.2.1, t.2.2))) o) (r_2, [])) fun (o
  : List Int × Bool × List (List (List Int))) => some (o.1, o.2.1)
theorem le33 (x) : Le (m33F x) (m33 x) := by
  unfold m33F m33
  repeat' first | exact le36 _ | exact le37 _ | exact le56 _ | exact le57 _ | exact le64 _ | exact le72 _ | with_reducible exact Le.refl _ | intro _ | apply Le.bind | apply Le.cond | apply Le.nil | apply Le.loop | apply Le.elim
def m10F : (Int × (List (Int × Int × Int × Int)) × List (Int × Int × Int × Int × Int)) → Option (List Int × Bool) :=
  fun (x : Int × List (Int × Int × Int × Int) × List (Int × Int × Int × Int × Int)) => Option.bind (m18F (x.1, x.2.1, x.2.2)) fun (r : Bool) => bif PE.notM r then
  some ([], false) else Option.bind (m32F (x.1, x.2.1, x.2.2)) fun (r_1 : (Int × List (Int × Int × Int)) × Int × List (Int × Int × Int)) => Option.bind
  (Option.bind (m33F (r_1.1.1, r_1.1.2)) fun (r : List Int × Bool) => bif PE.andM r.2 (PE.orM true (ltM (lenM r.1) (0 : Int))) then some (r.1, true) else some
  ([], false)) fun (o : List Int × Bool) => Option.bind (Option.bind (m33F (r_1.2.1, r_1.2.2)) fun (r : List Int × Bool) => bif PE.andM r.2 (PE.orM (PE.notM
  o.2) (ltM (lenM r.1) (lenM o.1))) then some (r.1, true) else some (o.1, o.2)) fun (o_1 : List Int × Bool) => Option.bind (loopF (fun (s : Int × List Int) =>
  bif ltM s.1 (lenM o_1.1) then Option.bind (idxM o_1.1 s.1) fun (r_2 : Int) => Option.bind (divM IntKind.i64 r_2 (2 : Int)) fun (r_3 : Int) => Option.bind
  (appM (nat_lit 8) s.2 [r_3]) fun (r : List Int) => some (Sum.inl (IntKind.wrap IntKind.i64 (s.1 + (1 : Int)), r)) else some (Sum.inr s.2)) ((0 : Int), []))
  fun (o_2 : List Int) => Option.bind (sortI o_2) fun (r_2 : List Int) => Option.bind (compI r_2) fun (r : List Int) => some (r, o_1.2)
theorem le10 (x) : Le (m10F x) (m10 x) := by
  unfold m10F m10
  repeat' first | exact le18 _ | exact le32 _ | exact le33 _ | with_reducible exact Le.refl _ | intro _ | apply Le.bind | apply Le.cond | apply Le.nil | apply Le.loop | apply Le.elim
def m49F : (List Int × List Int) → Option (Bool) :=
  fun (x : List Int × List Int) => bif PE.notM (eqM (lenM x.1) (lenM x.2)) then some false else Option.bind (loopF (fun (s : Int) => bif ltM s (lenM x.1) then
  Option.bind (idxM x.1 s) fun (r : Int) => Option.bind (idxM x.2 s) fun (r_1 : Int) => bif PE.notM (eqM r r_1) then some (Sum.inr (Sum.inr false)) else some
  (Sum.inl (IntKind.wrap IntKind.i64 (s + (1 : Int)))) else some (Sum.inr (Sum.inl ()))) (0 : Int)) fun (o : Unit ⊕ Bool) => Sum.elim (fun (t : Unit) => some
  true) (fun (t : Bool) => some t) o
theorem le49 (x) : Le (m49F x) (m49 x) := by
  unfold m49F m49
  repeat' first | with_reducible exact Le.refl _ | intro _ | apply Le.bind | apply Le.cond | apply Le.nil | apply Le.loop | apply Le.elim
def m24F : (List Int × List Int) → Option (Bool) :=
  fun (x : List Int × List Int) => Option.bind (m49F (x.1, x.2)) fun (r : Bool) => some r
theorem le24 (x) : Le (m24F x) (m24 x) := by
  unfold m24F m24
  repeat' first | exact le49 _ | with_reducible exact Le.refl _ | intro _ | apply Le.bind | apply Le.cond | apply Le.nil | apply Le.loop | apply Le.elim
def m26F : ((List Int × List Int × Int) × List Int × List Int × Int) → Option (Bool) :=
  fun (x : (List Int × List Int × Int) × List Int × List Int × Int) => Option.bind (m24F (x.1.1, x.2.1)) fun (r : Bool) => Option.bind (bif r then m24F (x.1.2.1,
  x.2.2.1) else some false) fun (r_1 : Bool) => some (PE.andM (PE.andM r r_1) (eqM x.1.2.2 x.2.2.2))
theorem le26 (x) : Le (m26F x) (m26 x) := by
  unfold m26F m26
  repeat' first | exact le24 _ | with_reducible exact Le.refl _ | intro _ | apply Le.bind | apply Le.cond | apply Le.nil | apply Le.loop | apply Le.elim
def m41F : (Int × Int) → Option (Bool) :=
  fun (x : Int × Int) => Option.bind (m42F (x.1, x.2, (1000000 : Int))) fun (r : Bool) => some (PE.notM r)
theorem le41 (x) : Le (m41F x) (m41 x) := by
  unfold m41F m41
  repeat' first | exact le42 _ | with_reducible exact Le.refl _ | intro _ | apply Le.bind | apply Le.cond | apply Le.nil | apply Le.loop | apply Le.elim
def m17F : ((Int × (List (Int × Int × Int × Int)) × List (Int × Int × Int × Int × Int)) × List (Int × Int)) → Option (Bool) :=
  fun (x : (Int × List (Int × Int × Int × Int) × List (Int × Int × Int × Int × Int)) × List (Int × Int)) => Option.bind (m18F (x.1.1, x.1.2.1, x.1.2.2)) fun (r :
  Bool) => Option.bind (bif PE.notM (PE.orM (PE.notM r) (PE.notM (eqM (lenM x.2) x.1.1))) then Option.bind (Option.bind (loopF (fun (s : Int) => bif ltM s (lenM
  x.2) then Option.bind (idxM x.2 s) fun (r_1 : Int × Int) => Option.bind (m41F (r_1.1, r_1.2)) fun (r : Bool) => bif r then some (Sum.inr (Sum.inr s)) else
  some (Sum.inl (IntKind.wrap IntKind.i64 (s + (1 : Int)))) else some (Sum.inr (Sum.inl ()))) (0 : Int)) fun (o : Unit ⊕ Int) => Sum.elim (fun (t : Unit) =>
  some (-1 : Int)) (fun (t : Int) => some t) o) fun (ov : Int) => some (leM (0 : Int) ov) else some false) fun (ov : Bool) => bif PE.orM (PE.orM (PE.notM r)
  (PE.notM (eqM (lenM x.2) x.1.1))) ov then some false else Option.bind (nilF x.2 (some []) (Option.bind (appM (nat_lit 16) [] x.2) fun (r : List (Int × Int))
  => some r)) fun (ov_1 : List (Int × Int)) => Option.bind (appM (nat_lit 16) ov_1 [((0 : Int), (0 : Int))]) fun (r_1 : List (Int × Int)) => Option.bind (loopF
  (fun (s : Int) => bif ltM s (lenM x.1.2.1) then Option.bind (idxM x.1.2.1 s) fun (r_2 : Int × Int × Int × Int) => Option.bind (chkM r_2.1 (lenM r_1)) fun (r_3
  : Unit) => Option.bind (Option.bind (idxM r_1 r_2.1) fun (x : Int × Int) => some x.1) fun (r_4 : Int) => Option.bind (chkM x.1.1 (lenM r_1)) fun (r_5 : Unit)
  => Option.bind (Option.bind (idxM r_1 x.1.1) fun (x : Int × Int) => some x.1) fun (r_6 : Int) => Option.bind (chkM r_2.1 (lenM r_1)) fun (r_7 : Unit) =>
  Option.bind (Option.bind (idxM r_1 r_2.1) fun (x : Int × Int) => some x.2) fun (r_8 : Int) => Option.bind (chkM x.1.1 (lenM r_1)) fun (r_9 : Unit) =>
  Option.bind (Option.bind (idxM r_1 x.1.1) fun (x : Int × Int) => some x.2) fun (r_10 : Int) => Option.bind (m42F (IntKind.wrap IntKind.i64 (IntKind.wrap
  IntKind.i64 (r_4 - r_6) - r_2.2.1), IntKind.wrap IntKind.i64 (IntKind.wrap IntKind.i64 (r_8 - r_10) - r_2.2.2.1), r_2.2.2.2)) fun (r : Bool) => bif PE.notM r
  then some (Sum.inr (Sum.inr false)) else some (Sum.inl (IntKind.wrap IntKind.i64 (s + (1 : Int)))) else some (Sum.inr (Sum.inl ()))) (0 : Int)) fun (o : Unit
  ⊕ Bool) => Sum.elim (fun (t : Unit) => Option.bind (loopF (fun (s : Int) => bif ltM s (lenM x.1.2.2) then Option.bind (idxM x.1.2.2 s) fun (r_2 : Int × Int ×
  Int × Int × Int) => Option.bind (chkM r_2.2.1 (lenM r_1)) fun (r_3 : Unit) => Option.bind (Option.bind (idxM r_1 r_2.2.1) fun (x : Int × Int) => some x.1) fun
  (r_4 : Int) => Option.bind (chkM r_2.1 (lenM r_1)) fun (r_5 : Unit) => Option.bind (Option.bind (idxM r_1 r_2.1) fun (x : Int × Int) => some x.1) fun (r_6 :
  Int) => Option.bind (chkM r_2.2.1 (lenM r_1)) fun (r_7 : Unit) => Option.bind (Option.bind (idxM r_1 r_2.2.1) fun (x : Int × Int) => some x.2) fun (r_8 : Int)
  => Option.bind (chkM r_2.1 (lenM r_1)) fun (r_9 : Unit) => Option.bind (Option.bind (idxM r_1 r_2.1) fun (x : Int × Int) => some x.2) fun (r_10 : Int) =>
  Option.bind (m42F (IntKind.wrap IntKind.i64 (IntKind.wrap IntKind.i64 (r_4 - r_6) - r_2.2.2.1), IntKind.wrap IntKind.i64 (IntKind.wrap IntKind.i64 (r_8 -
  r_10) - r_2.2.2.2.1), r_2.2.2.2.2)) fun (r : Bool) => bif PE.notM r then some (Sum.inr (Sum.inr false)) else some (Sum.inl (IntKind.wrap IntKind.i64 (s + (1 :
  Int)))) else some (Sum.inr (Sum.inl ()))) (0 : Int)) fun (o : Unit ⊕ Bool) => Sum.elim (fun (t : Unit) => some true) (fun (t : Bool) => some t) o) (fun (t :
  Bool) => some t) o
theorem le17 (x) : Le (m17F x) (m17 x) := by
  unfold m17F m17
  repeat' first | exact le18 _ | exact le41 _ | exact le42 _ | with_reducible exact Le.refl _ | intro _ | apply Le.bind | apply Le.cond | apply Le.nil | apply Le.loop | apply Le.elim
def m8F : Unit → Option (Bool) :=
  fun (x : Unit) => Option.bind (appM (nat_lit 40) [] [((0 : Int), (1 : Int), (100 : Int), (0 : Int), (3 : Int)), ((1 : Int), (2 : Int), (0 : Int), (50 : Int), (1
  : Int)), ((0 : Int), (2 : Int), (104 : Int), (48 : Int), (2 : Int))]) fun (r : List (Int × Int × Int × Int × Int)) => Option.bind (chkM (2 : Int) (lenM r))
  fun (r_1 : Unit) => Option.bind (setM r (2 : Int) fun (x : Int × Int × Int × Int × Int) => some (x.1, x.2.1, (111 : Int), x.2.2.2)) fun (r_2 : List (Int × Int
  × Int × Int × Int)) => Option.bind (m14F (((3 : Int), [((0 : Int), (0 : Int), (0 : Int), (2 : Int))], [((0 : Int), (1 : Int), (100 : Int), (0 : Int), (3 :
  Int)), ((1 : Int), (2 : Int), (0 : Int), (50 : Int), (1 : Int)), ((0 : Int), (2 : Int), (104 : Int), (48 : Int), (2 : Int))]), (0 : Int))) fun (r_3 : (Int ×
  Int × Int × Int) × Int) => Option.bind (m14F (((3 : Int), [((0 : Int), (0 : Int), (0 : Int), (2 : Int))], [((0 : Int), (1 : Int), (100 : Int), (0 : Int), (3 :
  Int)), ((1 : Int), (2 : Int), (0 : Int), (50 : Int), (1 : Int)), ((0 : Int), (2 : Int), (104 : Int), (48 : Int), (2 : Int))]), (1 : Int))) fun (r_4 : (Int ×
  Int × Int × Int) × Int) => Option.bind (m14F (((3 : Int), [((0 : Int), (0 : Int), (0 : Int), (2 : Int))], [((0 : Int), (1 : Int), (100 : Int), (0 : Int), (3 :
  Int)), ((1 : Int), (2 : Int), (0 : Int), (50 : Int), (1 : Int)), ((0 : Int), (2 : Int), (104 : Int), (48 : Int), (2 : Int))]), (2 : Int))) fun (r_5 : (Int ×
  Int × Int × Int) × Int) => Option.bind (m22F (((3 : Int), [((0 : Int), (0 : Int), (0 : Int), (2 : Int))], [((0 : Int), (1 : Int), (100 : Int), (0 : Int), (3 :
  Int)), ((1 : Int), (2 : Int), (0 : Int), (50 : Int), (1 : Int)), ((0 : Int), (2 : Int), (104 : Int), (48 : Int), (2 : Int))]), (0 : Int), (2 : Int))) fun (r_6
  : (Int × Int × Int × Int) × Int) => Option.bind (m25F ((3 : Int), [((0 : Int), (0 : Int), (0 : Int), (2 : Int))], [((0 : Int), (1 : Int), (100 : Int), (0 :
  Int), (3 : Int)), ((1 : Int), (2 : Int), (0 : Int), (50 : Int), (1 : Int)), ((0 : Int), (2 : Int), (104 : Int), (48 : Int), (2 : Int))])) fun (r_7 : (List Int
  × List Int × Int) × Int) => Option.bind (m10F ((3 : Int), [((0 : Int), (0 : Int), (0 : Int), (2 : Int))], r_2)) fun (r_8 : List Int × Bool) => Option.bind
  (m10F ((3 : Int), [((0 : Int), (0 : Int), (0 : Int), (2 : Int))], [((0 : Int), (1 : Int), (100 : Int), (0 : Int), (3 : Int)), ((1 : Int), (2 : Int), (0 :
  Int), (50 : Int), (1 : Int)), ((0 : Int), (2 : Int), (104 : Int), (48 : Int), (2 : Int))])) fun (r_9 : List Int × Bool) => Option.bind (m14F (((3 : Int), [((0
  : Int), (0 : Int), (0 : Int), (2 : Int))], r_2), (0 : Int))) fun (r_10 : (Int × Int × Int × Int) × Int) => bif PE.orM (PE.orM (PE.orM (PE.orM (PE.orM (PE.orM
  (PE.orM (PE.notM (eqM r_3.2 (0 : Int))) (PE.notM (eqM r_4.2 (0 : Int)))) (PE.notM (eqM r_5.2 (0 : Int)))) (PE.notM (eqM r_6.2 (0 : Int)))) (PE.notM (eqM r_7.2
  (0 : Int)))) (PE.notM (eqM r_10.2 (100 : Int)))) (PE.notM r_8.2)) r_9.2 then some false else Option.bind (m26F ((r_7.1.1, r_7.1.2.1, r_7.1.2.2), [(0 : Int),
  (304 : Int), (308 : Int)], [(0 : Int), (-2 : Int), (146 : Int)], (3 : Int))) fun (r_11 : Bool) => Option.bind (m17F (((3 : Int), [((0 : Int), (0 : Int), (0 :
  Int), (2 : Int))], [((0 : Int), (1 : Int), (100 : Int), (0 : Int), (3 : Int)), ((1 : Int), (2 : Int), (0 : Int), (50 : Int), (1 : Int)), ((0 : Int), (2 :
  Int), (104 : Int), (48 : Int), (2 : Int))]), [((0 : Int), (0 : Int)), ((101 : Int), (-1 : Int)), ((102 : Int), (48 : Int))])) fun (r_12 : Bool) => Option.bind
  (bif r_12 then m17F (((3 : Int), [((0 : Int), (0 : Int), (0 : Int), (2 : Int))], [((0 : Int), (1 : Int), (100 : Int), (0 : Int), (3 : Int)), ((1 : Int), (2 :
  Int), (0 : Int), (50 : Int), (1 : Int)), ((0 : Int), (2 : Int), (104 : Int), (48 : Int), (2 : Int))]), [((0 : Int), (0 : Int)), ((104 : Int), (-1 : Int)),
  ((103 : Int), (48 : Int))]) else some false) fun (r_13 : Bool) => Option.bind (bif PE.andM (PE.andM (PE.andM (PE.andM (PE.andM (PE.andM (eqM r_3.1.1 (-2 :
  Int)) (PE.andM (eqM r_3.1.2.1 (2 : Int)) (PE.andM (eqM r_3.1.2.2.1 (-2 : Int)) (eqM r_3.1.2.2.2 (2 : Int))))) (PE.andM (eqM r_4.1.1 (99 : Int)) (PE.andM (eqM
  r_4.1.2.1 (105 : Int)) (PE.andM (eqM r_4.1.2.2.1 (-5 : Int)) (eqM r_4.1.2.2.2 (3 : Int)))))) (PE.andM (eqM r_5.1.1 (100 : Int)) (PE.andM (eqM r_5.1.2.1 (106 :
  Int)) (PE.andM (eqM r_5.1.2.2.1 (44 : Int)) (eqM r_5.1.2.2.2 (52 : Int)))))) (PE.andM (eqM r_6.1.1 (102 : Int)) (PE.andM (eqM r_6.1.2.1 (104 : Int)) (PE.andM
  (eqM r_6.1.2.2.1 (46 : Int)) (eqM r_6.1.2.2.2 (50 : Int)))))) r_11) (PE.andM r_12 (PE.notM r_13)) then m24F (r_8.1, [(1 : Int), (2 : Int), (3 : Int)]) else
  some false) fun (r_14 : Bool) => Option.bind (bif PE.andM (PE.andM (PE.andM (PE.andM (PE.andM (PE.andM (PE.andM (eqM r_3.1.1 (-2 : Int)) (PE.andM (eqM
  r_3.1.2.1 (2 : Int)) (PE.andM (eqM r_3.1.2.2.1 (-2 : Int)) (eqM r_3.1.2.2.2 (2 : Int))))) (PE.andM (eqM r_4.1.1 (99 : Int)) (PE.andM (eqM r_4.1.2.1 (105 :
  Int)) (PE.andM (eqM r_4.1.2.2.1 (-5 : Int)) (eqM r_4.1.2.2.2 (3 : Int)))))) (PE.andM (eqM r_5.1.1 (100 : Int)) (PE.andM (eqM r_5.1.2.1 (106 : Int)) (PE.andM
  (eqM r_5.1.2.2.1 (44 : Int)) (eqM r_5.1.2.2.2 (52 : Int)))))) (PE.andM (eqM r_6.1.1 (102 : Int)) (PE.andM (eqM r_6.1.2.1 (104 : Int)) (PE.andM (eqM
  r_6.1.2.2.1 (46 : Int)) (eqM r_6.1.2.2.2 (50 : Int)))))) r_11) (PE.andM r_12 (PE.notM r_13))) r_14 then m18F ((3 : Int), [((0 : Int), (0 : Int), (0 : Int), (2
  : Int))], [((0 : Int), (1 : Int), (100 : Int), (0 : Int), (3 : Int)), ((1 : Int), (2 : Int), (0 : Int), (50 : Int), (1 : Int)), ((0 : Int), (2 : Int), (104 :
  Int), (48 : Int), (2 : Int))]) else some false) fun (r_15 : Bool) => Option.bind (bif PE.andM (PE.andM (PE.andM (PE.andM (PE.andM (PE.andM (PE.andM (PE.andM
  (eqM r_3.1.1 (-2 : Int)) (PE.andM (eqM r_3.1.2.1 (2 : Int)) (PE.andM (eqM r_3.1.2.2.1 (-2 : Int)) (eqM r_3.1.2.2.2 (2 : Int))))) (PE.andM (eqM r_4.1.1 (99 :
  Int)) (PE.andM (eqM r_4.1.2.1 (105 : Int)) (PE.andM (eqM r_4.1.2.2.1 (-5 : Int)) (eqM r_4.1.2.2.2 (3 : Int)))))) (PE.andM (eqM r_5.1.1 (100 : Int)) (PE.andM
  (eqM r_5.1.2.1 (106 : Int)) (PE.andM (eqM r_5.1.2.2.1 (44 : Int)) (eqM r_5.1.2.2.2 (52 : Int)))))) (PE.andM (eqM r_6.1.1 (102 : Int)) (PE.andM (eqM r_6.1.2.1
  (104 : Int)) (PE.andM (eqM r_6.1.2.2.1 (46 : Int)) (eqM r_6.1.2.2.2 (50 : Int)))))) r_11) (PE.andM r_12 (PE.notM r_13))) r_14) r_15 then m18F ((9 : Int), [],
  []) else some false) fun (r : Bool) => some (PE.andM (PE.andM (PE.andM (PE.andM (PE.andM (PE.andM (PE.andM (PE.andM (PE.andM (eqM r_3.1.1 (-2 : Int)) (PE.andM
  (eqM r_3.1.2.1 (2 : Int)) (PE.andM (eqM r_3.1.2.2.1 (-2 : Int)) (eqM r_3.1.2.2.2 (2 : Int))))) (PE.andM (eqM r_4.1.1 (99 : Int)) (PE.andM (eqM r_4.1.2.1 (105
  : Int)) (PE.andM (eqM r_4.1.2.2.1 (-5 : Int)) (eqM r_4.1.2.2.2 (3 : Int)))))) (PE.andM (eqM r_5.1.1 (100 : Int)) (PE.andM (eqM r_5.1.2.1 (106 : Int)) (PE.andM
  (eqM r_5.1.2.2.1 (44 : Int)) (eqM r_5.1.2.2.2 (52 : Int)))))) (PE.andM (eqM r_6.1.1 (102 : Int)) (PE.andM (eqM r_6.1.2.1 (104 : Int)) (PE.andM (eqM
  r_6.1.2.2.1 (46 : Int)) (eqM r_6.1.2.2.2 (50 : Int)))))) r_11) (PE.andM r_12 (PE.notM r_13))) r_14) r_15) (PE.notM r))
theorem le8 (x) : Le (m8F x) (m8 x) := by
  unfold m8F m8
  repeat' first | exact le10 _ | exact le14 _ | exact le17 _ | exact le18 _ | exact le22 _ | exact le24 _ | exact le25 _ | exact le26 _ | with_reducible exact Le.refl _ | intro _ | apply Le.bind | apply Le.cond | apply Le.nil | apply Le.loop | apply Le.elim
end Go.Proofs.Ytklddmmnggcffaa
/-
  Network: the self-test of the laws answers true.
  No conditions.
-/
namespace Go.Proofs.Ytklddmmnggcffaa
open Go Go.Abs Go.PE
set_option maxRecDepth 100000 in
theorem saneF : m8F () = some true := by kernel_rfl
theorem sane_ok : m8 () = some true := (le8 ()).out saneF
end Go.Proofs.Ytklddmmnggcffaa
/-
  Network: what is valid, and the bounds of both axes.
  No conditions.
-/
namespace Go.Proofs.Ytklddmmnggcffaa
open Go Go.Abs Go.PE
set_option linter.unusedVariables false
abbrev Fix := Int × Int × Int × Int
abbrev Sgt := Int × Int × Int × Int × Int
abbrev Net := Int × List Fix × List Sgt
def inB (a b c : Int) : Bool := decide (b ≤ a) && decide (a ≤ c)
theorem inB_iff {a b c : Int} : inB a b c = true ↔ b ≤ a ∧ a ≤ c := by simp [inB]
def nearB (x y l : Int) : Bool := inB x (-l) l && inB y (-l) l
def fixB (n : Int) (f : Fix) : Bool := inB f.1 0 (n - 1) && nearB f.2.1 f.2.2.1 10000 && inB f.2.2.2 0 1000
def sgtB (n : Int) (s : Sgt) : Bool := inB s.1 0 (n - 1) && inB s.2.1 0 (n - 1) && !decide (s.1 = s.2.1) && nearB s.2.2.1 s.2.2.2.1 10000 && inB s.2.2.2.2 0 1000
def nval (c : Net) : Bool := (inB c.1 0 8 && decide (c.2.1.length ≤ 8) && decide (c.2.2.length ≤ 20)) && (c.2.1.all (fixB c.1) && c.2.2.all (sgtB c.1))
theorem m38_eq (a b c : Int) : m38 (a, b, c) = some (inB a b c) := rfl
theorem m42_eq {x y l : Int} (h1 : -9223372036854775808 < l) (h2 : l ≤ 9223372036854775807) : m42 (x, y, l) = some (nearB x y l) := by
  have e : IntKind.wrap IntKind.i64 (negM l) = -l := wrap_in (n := -l) (by omega) (by omega)
  unfold m42 nearB
  dsimp only
  rw [e, m38_eq, m38_eq, Option.bind_some]
  cases inB x (-l) l <;> rfl
theorem not_any {α : Type} (xs : List α) (p : α → Bool) : (!xs.any fun x => !p x) = xs.all p := by
  rw [List.not_any_eq_all_not]
  simp
theorem m18_eq (c : Net) : m18 c = some (nval c) := by
  obtain ⟨n, fs, ss⟩ := c
  unfold m18 nval
  dsimp only
  rw [m38_eq, Option.bind_some]
  by_cases h : inB n 0 8 = true ∧ fs.length ≤ 8 ∧ ss.length ≤ 20
  · obtain ⟨h1, h2, h3⟩ := h
    have hn := inB_iff.1 h1
    have e0 : IntKind.wrap IntKind.i64 (n - 1) = n - 1 := wrap_in (by omega) (by omega)
    rw [h1, geI (a := 8) (by show (fs.length : Int) ≤ 8; omega), geI (a := 20) (by show (ss.length : Int) ≤ 20; omega), decide_eq_true h2, decide_eq_true h3]
    show Option.bind _ _ = _
    have L1 := any_loop (xs := fs) (fun f => !fixB n f) (body := fun (s : Int) =>
                bif ltM s (lenM fs) then
                  Option.bind (idxM fs s) fun (r_1 : Int × Int × Int × Int) =>
                    Option.bind (m38 (r_1.1, (0 : Int), IntKind.wrap IntKind.i64 (n - (1 : Int)))) fun (r_2 : Bool) =>
                      Option.bind (bif PE.notM (PE.notM r_2) then m42 (r_1.2.1, r_1.2.2.1, (10000 : Int)) else some false)
                        fun (r_3 : Bool) =>
                        Option.bind
                          (bif PE.notM (PE.orM (PE.notM r_2) (PE.notM r_3)) then m38 (r_1.2.2.2, (0 : Int), (1000 : Int))
                          else some false)
                          fun (r : Bool) =>
                          bif PE.orM (PE.orM (PE.notM r_2) (PE.notM r_3)) (PE.notM r) then some (Sum.inr (Sum.inr s))
                          else some (Sum.inl (IntKind.wrap IntKind.i64 (s + (1 : Int))))
                else some (Sum.inr (Sum.inl ()))) (fun k hk => by
        rw [ltI (by show (k : Int) < (fs.length : Int); omega), cond_true, idxM_lt hk, Option.bind_some, m38_eq, Option.bind_some, m42_eq (by omega) (by omega), m38_eq, e0, wrap_in (n := (k : Int) + 1) (by omega) (by omega)]
        unfold fixB
        generalize fs[k] = f
        cases inB f.1 0 (n - 1) <;> cases nearB f.2.1 f.2.2.1 10000 <;> cases inB f.2.2.2 0 1000 <;> rfl) (by rw [geI (by show (fs.length : Int) ≤ (fs.length : Int); omega), cond_false])
    have L2 := any_loop (xs := ss) (fun f => !sgtB n f) (body := fun (s : Int) =>
                      bif ltM s (lenM ss) then
                        Option.bind (idxM ss s) fun (r_1 : Int × Int × Int × Int × Int) =>
                          Option.bind (m38 (r_1.1, (0 : Int), IntKind.wrap IntKind.i64 (n - (1 : Int))))
                            fun (r_2 : Bool) =>
                            Option.bind
                              (bif PE.notM (PE.notM r_2) then
                                m38 (r_1.2.1, (0 : Int), IntKind.wrap IntKind.i64 (n - (1 : Int)))
                              else some false)
                              fun (r_3 : Bool) =>
                              Option.bind
                                (bif PE.notM (PE.orM (PE.orM (PE.notM r_2) (PE.notM r_3)) (eqM r_1.1 r_1.2.1)) then
                                  m42 (r_1.2.2.1, r_1.2.2.2.1, (10000 : Int))
                                else some false)
                                fun (r_4 : Bool) =>
                                Option.bind
                                  (bif
                                      PE.notM
                                        (PE.orM (PE.orM (PE.orM (PE.notM r_2) (PE.notM r_3)) (eqM r_1.1 r_1.2.1))
                                          (PE.notM r_4)) then
                                    m38 (r_1.2.2.2.2, (0 : Int), (1000 : Int))
                                  else some false)
                                  fun (r : Bool) =>
                                  bif
                                      PE.orM
                                        (PE.orM (PE.orM (PE.orM (PE.notM r_2) (PE.notM r_3)) (eqM r_1.1 r_1.2.1))
                                          (PE.notM r_4))
                                        (PE.notM r) then
                                    some (Sum.inr (Sum.inr s))
                                  else some (Sum.inl (IntKind.wrap IntKind.i64 (s + (1 : Int))))
                      else some (Sum.inr (Sum.inl ()))) (fun k hk => by
        rw [ltI (by show (k : Int) < (ss.length : Int); omega), cond_true, idxM_lt hk, Option.bind_some, m38_eq, Option.bind_some, m38_eq, m42_eq (by omega) (by omega), m38_eq, e0, wrap_in (n := (k : Int) + 1) (by omega) (by omega)]
        unfold sgtB
        generalize ss[k] = f
        have ee : eqM f.1 f.2.1 = decide (f.1 = f.2.1) := rfl
        rw [ee]
        cases inB f.1 0 (n - 1) <;> cases inB f.2.1 0 (n - 1) <;> cases decide (f.1 = f.2.1) <;> cases nearB f.2.2.1 f.2.2.2.1 10000 <;> cases inB f.2.2.2.2 0 1000 <;> rfl) (by rw [geI (by show (ss.length : Int) ≤ (ss.length : Int); omega), cond_false])
    obtain ⟨ov, hov, hb⟩ := Option.bind_eq_some_iff.1 L1
    have hb := Option.some.inj hb
    refine bind_of hov ?_
    rw [hb]
    have e9 : ∀ b : Bool, (Option.bind (bif PE.notM b then (some (ss.any fun f => !sgtB n f)) else some false) fun (ov_1 : Bool) => some (PE.andM (PE.notM b) (PE.notM ov_1))) = some (!b && !ss.any fun f => !sgtB n f) := fun b => by cases b <;> rfl
    rw [L2, e9]
    rw [← not_any fs (fixB n), ← not_any ss (sgtB n)]
    rfl
  · have e1 : PE.orM (PE.orM (PE.notM (inB n 0 8)) (ltM 8 (lenM fs))) (ltM 20 (lenM ss)) = !(inB n 0 8 && decide (fs.length ≤ 8) && decide (ss.length ≤ 20)) := by
      have a1 : ltM 8 (lenM fs) = !decide (fs.length ≤ 8) := by
        by_cases h8 : fs.length ≤ 8
        · rw [geI (by show (fs.length : Int) ≤ 8; omega), decide_eq_true h8]; rfl
        · rw [ltI (by show (8 : Int) < (fs.length : Int); omega), decide_eq_false h8]; rfl
      have a2 : ltM 20 (lenM ss) = !decide (ss.length ≤ 20) := by
        by_cases h8 : ss.length ≤ 20
        · rw [geI (by show (ss.length : Int) ≤ 20; omega), decide_eq_true h8]; rfl
        · rw [ltI (by show (20 : Int) < (ss.length : Int); omega), decide_eq_false h8]; rfl
      rw [a1, a2]
      cases inB n 0 8 <;> cases decide (fs.length ≤ 8) <;> cases decide (ss.length ≤ 20) <;> rfl
    have e2 : (inB n 0 8 && decide (fs.length ≤ 8) && decide (ss.length ≤ 20)) = false := by
      rw [Bool.eq_false_iff]
      intro hh
      simp only [Bool.and_eq_true, decide_eq_true_eq] at hh
      exact h ⟨hh.1.1, hh.1.2, hh.2⟩
    rw [e1, e2]
    rfl
end Go.Proofs.Ytklddmmnggcffaa
