/-
  Texts of this proof, put together: M2, M3, PA, PB.
  No conditions.
-/
import Derived.Test.YtadcohacnmicjaaZ3
import Derived.IntWalk
set_option linter.all false
/-
  Models of the functions of this seat, and that the functions compute them (printed by gen_models.py). No conditions.
-/
namespace Go.Proofs.Ytadcohacnmicjaa
open Go Go.Abs Go.PE Go.Proofs
set_option linter.unusedVariables false
set_option maxRecDepth 100000

/-! putlog/putlogref09.Solve -/
def as19 : List Ty := [(.pair tI (.list (.pair tI (.pair tI tI))))]
def rs19 : List Ty := [(.list tI), tI]
noncomputable def an19 : Ann := .seq (.a) (.seq (.a) (.seq (.a) (.seq (.a) (.seq (.seq (.a) (.block (.loop ⟨[(7, .r (.c (.d (.d tI))))], [8, 20, 21, 22, 23, 24, 25, 26, 27, 28, 29, 30, 31, 32, 33, 34, 35, 36, 37, 38, 39, 40, 41, 42, 43, 44, 45, 46], [(1, .arr tI)], []⟩ [(.exit 0, ⟨[], [7, 8, 20, 21, 22, 23, 24, 25, 26, 27, 28, 29, 30, 31, 32, 33, 34, 35, 36, 37, 38, 39, 40, 41, 42, 43, 44, 45, 46], [(1, .arr tI)], []⟩)] (.seq (.a) (.seq (.block (.seq (.a) (.block (.loop ⟨[(8, .r (.c (.d (.d tI))))], [26, 27, 28, 29, 30, 31, 32, 33, 34, 35, 36, 37, 38, 39, 40, 41, 42, 43, 44, 45, 46], [(1, .arr tI)], []⟩ [(.exit 2, ⟨[], [8, 26, 27, 28, 29, 30, 31, 32, 33, 34, 35, 36, 37, 38, 39, 40, 41, 42, 43, 44, 45, 46], [(1, .arr tI)], []⟩)] (.seq (.a) (.seq (.block (.reg [0, 0, 0, 0, 12, 28, 0, 0, 192, 448, 0, 1984, 4032, 8188, 16383, 32767] [0, 1, 2, 3, 4, 5, 6, 7, 8, 9, 10, 11, 12, 13, 14, 15] [.s [] [], .s [] [], .s [] [], .s [] [], .s [1] [], .s [1] [], .s [] [], .s [] [], .s [] [], .s [] [], .s [] [], .s [] [], .s [] [], .s [] [], .s [1] [], .s [1] [1]] (.a))) (.a))))))) (.a)))))) (.a)))))
noncomputable def m19 : (Int × List (Int × Int × Int)) → Option (List Int × Int) :=
  fun (x : Int × List (Int × Int × Int)) =>
    Option.bind (m17 (x.1, x.2)) fun (r : List (List Int) × Int) =>
      bif PE.notM (eqM r.2 (0 : Int)) then some ([], r.2)
      else
        Option.bind (mkM x.1 x.1 (nat_lit 8) (0 : Int)) fun (r_1 : List Int) =>
          Option.bind
            (loopM
              (fun (s : Int × List Int) =>
                bif ltM s.1 x.1 then
                  Option.bind
                    (loopM
                      (fun (s_1 : Int × List Int) =>
                        bif ltM s_1.1 x.1 then
                          Option.bind (chkM s_1.1 (lenM s_1.2)) fun (r_2 : Unit) =>
                            Option.bind (idxM s_1.2 s_1.1) fun (r_3 : Int) =>
                              Option.bind (idxM r.1 s.1) fun (r_4 : List Int) =>
                                Option.bind (idxM r_4 s_1.1) fun (r_5 : Int) =>
                                  Option.bind (chkM s_1.1 (lenM s_1.2)) fun (r_6 : Unit) =>
                                    Option.bind (setM s_1.2 s_1.1 fun (x : Int) => some (min r_3 r_5))
                                      fun (r : List Int) =>
                                      some (Sum.inl (IntKind.wrap IntKind.i64 (s_1.1 + (1 : Int)), r))
                        else some (Sum.inr s_1.2))
                      ((0 : Int), s.2))
                    fun (o : List Int) => some (Sum.inl (IntKind.wrap IntKind.i64 (s.1 + (1 : Int)), o))
                else some (Sum.inr s.2))
              ((0 : Int), r_1))
            fun (o : List Int) => some (o, (0 : Int))
theorem c19 : SpecOK Try.prog 19 ⟨as19, rs19, m19⟩ :=
  fnM_ok (own := []) (an := an19) (n := 400) tabs17OK (F := OPS) OPS_sound OPS_nice (f := 19) (fn := Try.f19) (code := Try.f19.body.getD .skip) (by kernel_rfl) (by kernel_rfl) (by kernel_rfl) fun x => by kernel_rfl
noncomputable def tabs19 : Tabs := Tabs.add tabs17 19 ⟨as19, rs19, m19⟩
theorem tabs19OK : TabOK Try.prog tabs19 := TabOK.add tabs17OK c19 Try.call19

/-! putlog/putlogref09.first -/
def as45 : List Ty := [(.pair tI (.list (.pair tI (.pair tI tI)))), (.list (.list (.list tI))), tI, tI, tI, tI]
def rs45 : List Ty := [(.list tI), .bool]
noncomputable def an45 : Ann := .seq (.a) (.seq (.a) (.seq (.a) (.seq (.block (.loop ⟨[(2, .r (.c (.d (.d tI)))), (4, .r (.c (.d (.d tI)))), (5, .r (.c (.d (.d tI)))), (14, .r (.c (.h 1)))], [15, 16, 29, 30, 31, 32, 33, 34, 35, 36, 37, 38, 39, 40, 41, 42, 43, 44, 45, 46, 47, 48, 49, 50, 51, 52, 53, 54, 55, 56, 57, 58, 59, 60, 61, 62, 63, 64, 65, 66, 67, 68, 69, 70, 71, 72, 73, 74, 75, 76, 77, 78, 79, 80, 81, 82, 83, 84, 85, 86, 87, 88, 89, 90, 91, 92], [], [.arr tI]⟩ [(.exit 0, ⟨[(14, .r (.c (.h 1)))], [2, 4, 5, 15, 16, 29, 30, 31, 32, 33, 34, 35, 36, 37, 38, 39, 40, 41, 42, 43, 44, 45, 46, 47, 48, 49, 50, 51, 52, 53, 54, 55, 56, 57, 58, 59, 60, 61, 62, 63, 64, 65, 66, 67, 68, 69, 70, 71, 72, 73, 74, 75, 76, 77, 78, 79, 80, 81, 82, 83, 84, 85, 86, 87, 88, 89, 90, 91, 92], [], [.arr tI]⟩)] (.seq (.a) (.block (.seq (.seq (.a) (.block (.loop ⟨[(15, .r (.c (.d (.d tI))))], [16, 31, 32, 33, 34, 35, 36, 37, 38, 39, 40, 41, 42, 43, 44, 45, 46, 47, 48, 49, 50, 51, 52, 53, 54, 55, 56, 57, 58, 59, 60, 61, 62, 63, 64, 65, 66, 67, 68, 69, 70, 71, 72, 73, 74, 75, 76, 77, 78, 79, 80], [], []⟩ [(.exit 2, ⟨[], [15, 16, 31, 32, 33, 34, 35, 36, 37, 38, 39, 40, 41, 42, 43, 44, 45, 46, 47, 48, 49, 50, 51, 52, 53, 54, 55, 56, 57, 58, 59, 60, 61, 62, 63, 64, 65, 66, 67, 68, 69, 70, 71, 72, 73, 74, 75, 76, 77, 78, 79, 80], [], []⟩), (.exit 2, ⟨[(2, .r (.c (.d (.d tI)))), (5, .r (.c (.d (.d tI)))), (14, .r (.c (.h 2)))], [15, 16, 31, 32, 33, 34, 35, 36, 37, 38, 39, 40, 41, 42, 43, 44, 45, 46, 47, 48, 49, 50, 51, 52, 53, 54, 55, 56, 57, 58, 59, 60, 61, 62, 63, 64, 65, 66, 67, 68, 69, 70, 71, 72, 73, 74, 75, 76, 77, 78, 79, 80, 81, 82, 83, 84, 85, 86, 87, 88, 89, 90], [(1, .gone)], [.arr tI]⟩)] (.seq (.a) (.seq (.block (.seq (.a) (.seq (.seq (.reg [0, 1, 0, 7, 15, 31, 31, 95, 255, 511, 31, 1055, 4095, 8191, 31, 32767, 65535, 131071, 262143, 524287, 1048575, 2097151, 1048575, 1048575, 9437183, 30408703, 63963135, 1048575, 135266303, 533725183, 1070596095, 1048575, 4291821567, 8586788863, 17179869183, 1048575, 68719476735, 137438953471] [0, 1, 2, 3, 4, 5, 6, 7, 8, 9, 10, 11, 12, 13, 14, 15, 16, 17, 18, 19, 20, 21, 22, 23, 24, 25, 26, 27, 28, 29, 30, 31, 32, 33, 34, 35, 36, 37] [.s [] [], .s [2] [], .s [] [], .s [] [], .s [] [], .s [] [], .s [] [], .s [] [], .s [] [], .s [] [], .s [] [], .s [2] [], .s [] [], .s [] [], .s [] [], .s [] [], .s [] [], .s [] [], .s [] [], .s [] [], .s [] [], .s [2] [], .s [] [], .s [] [], .s [] [], .s [] [], .s [] [], .s [] [], .s [2] [], .s [] [], .s [] [], .s [] [], .s [] [], .s [] [], .s [] [], .s [] [], .s [] [], .s [] []] (.a)) (.a)) (.a)))) (.a)))))) (.a)))))) (.a))))
noncomputable def m45 : ((Int × List (Int × Int × Int)) × List (List (List Int)) × Int × Int × Int × Int) → Option (List Int × Bool) :=
  fun (x : (Int × List (Int × Int × Int)) × List (List (List Int)) × Int × Int × Int × Int) =>
    Option.bind (idxM x.2.1 x.2.2.2.2.1) fun (r : List (List Int)) =>
      Option.bind (idxM r x.2.2.1) fun (r_1 : List Int) =>
        Option.bind (idxM r_1 x.2.2.2.1) fun (r_2 : Int) =>
          bif ltM x.2.2.2.2.2 r_2 then some ([], false)
          else
            Option.bind
              (loopM
                (fun (s : Int × Int × Int × List Int) =>
                  bif ltM (0 : Int) s.2.1 then
                    Option.bind
                      (loopM
                        (fun (s_1 : Int) =>
                          bif ltM s_1 (lenM x.1.2) then
                            Option.bind (idxM x.1.2 s_1) fun (r_3 : Int × Int × Int) =>
                              Option.bind
                                (bif PE.notM (PE.notM (eqM r_3.1 s.1)) then
                                  idxM x.2.1 (IntKind.wrap IntKind.i64 (s.2.1 - (1 : Int)))
                                else some [])
                                fun (r_4 : List (List Int)) =>
                                Option.bind (bif PE.notM (PE.notM (eqM r_3.1 s.1)) then idxM r_4 r_3.2.1 else some [])
                                  fun (r_5 : List Int) =>
                                  Option.bind
                                    (bif PE.notM (PE.notM (eqM r_3.1 s.1)) then idxM r_5 x.2.2.2.1 else some (0 : Int))
                                    fun (r_6 : Int) =>
                                    Option.bind
                                      (bif
                                          PE.notM
                                            (PE.orM (PE.notM (eqM r_3.1 s.1)) (eqM r_6 (1152921504606846976 : Int))) then
                                        idxM x.2.1 (IntKind.wrap IntKind.i64 (s.2.1 - (1 : Int)))
                                      else some [])
                                      fun (r_7 : List (List Int)) =>
                                      Option.bind
                                        (bif
                                            PE.notM
                                              (PE.orM (PE.notM (eqM r_3.1 s.1))
                                                (eqM r_6 (1152921504606846976 : Int))) then
                                          idxM r_7 r_3.2.1
                                        else some [])
                                        fun (r_8 : List Int) =>
                                        Option.bind
                                          (bif
                                              PE.notM
                                                (PE.orM (PE.notM (eqM r_3.1 s.1))
                                                  (eqM r_6 (1152921504606846976 : Int))) then
                                            idxM r_8 x.2.2.2.1
                                          else some (0 : Int))
                                          fun (r_9 : Int) =>
                                          bif
                                              PE.orM
                                                (PE.orM (PE.notM (eqM r_3.1 s.1)) (eqM r_6 (1152921504606846976 : Int)))
                                                (ltM s.2.2.1 (IntKind.wrap IntKind.i64 (r_3.2.2 + r_9))) then
                                            some (Sum.inl (IntKind.wrap IntKind.i64 (s_1 + (1 : Int))))
                                          else
                                            Option.bind (appM (nat_lit 8) s.2.2.2 [s_1]) fun (r : List Int) =>
                                              some
                                                (Sum.inr
                                                  (Sum.inr (r_3.2.1, IntKind.wrap IntKind.i64 (s.2.2.1 - r_3.2.2), r)))
                          else some (Sum.inr (Sum.inl ())))
                        (0 : Int))
                      fun (o : Unit ⊕ Int × Int × List Int) =>
                      Sum.elim
                        (fun (t : Unit) =>
                          some (Sum.inl (s.1, IntKind.wrap IntKind.i64 (s.2.1 - (1 : Int)), s.2.2.1, s.2.2.2)))
                        (fun (t : Int × Int × List Int) =>
                          some (Sum.inl (t.1, IntKind.wrap IntKind.i64 (s.2.1 - (1 : Int)), t.2.1, t.2.2)))
                        o
                  else some (Sum.inr s.2.2.2))
                (x.2.2.1, x.2.2.2.2.1, x.2.2.2.2.2, []))
              fun (o : List Int) => some (o, true)
theorem c45 : SpecOK Try.prog 45 ⟨as45, rs45, m45⟩ :=
  fnM_ok (own := []) (an := an45) (n := 400) tabs19OK (F := OPS) OPS_sound OPS_nice (f := 45) (fn := Try.f45) (code := Try.f45.body.getD .skip) (by kernel_rfl) (by kernel_rfl) (by kernel_rfl) fun x => by kernel_rfl
noncomputable def tabs45 : Tabs := Tabs.add tabs19 45 ⟨as45, rs45, m45⟩
theorem tabs45OK : TabOK Try.prog tabs45 := TabOK.add tabs19OK c45 Try.call45

/-! putlog/putlogref09.Before -/
def as46 : List Ty := [(.list tI), (.list tI)]
def rs46 : List Ty := [.bool]
noncomputable def an46 : Ann := .seq (.a) (.seq (.seq (.a) (.block (.loop ⟨[(5, .r (.c (.d (.d tI))))], [6, 7, 8, 9, 10, 11, 12, 13, 14, 15, 16, 17, 18, 19, 20, 21, 22, 23, 24, 25, 26], [], []⟩ [(.exit 0, ⟨[], [5, 6, 7, 8, 9, 10, 11, 12, 13, 14, 15, 16, 17, 18, 19, 20, 21, 22, 23, 24, 25, 26], [], []⟩), (.ret, ⟨[(4, .r (.c (.d (.d .bool))))], [5, 6, 7, 8, 9, 10, 11, 12, 13, 14, 15, 16, 17, 18, 19, 20, 21, 22, 23, 24, 25, 26, 27, 28, 29, 30, 31, 32, 33, 34, 35], [], []⟩)] (.seq (.a) (.seq (.block (.seq (.reg [0, 0, 3, 7, 0, 0, 48, 112, 255] [0, 1, 2, 3, 4, 5, 6, 7, 8] [.s [] [], .s [] [], .s [] [], .s [] [], .s [] [], .s [] [], .s [] [], .s [] [], .s [] []] (.a)) (.cond (.seq (.reg [0, 0, 3, 7, 0, 0, 48, 112, 255, 511] [0, 1, 2, 3, 4, 5, 6, 7, 8, 9] [.s [] [], .s [] [], .s [] [], .s [] [], .s [] [], .s [] [], .s [] [], .s [] [], .s [] [], .s [] []] (.a)) (.a)) (.a)))) (.a)))))) (.a))
noncomputable def m46 : (List Int × List Int) → Option (Bool) :=
  fun (x : List Int × List Int) =>
    Option.bind
      (loopM
        (fun (s : Int) =>
          bif PE.andM (ltM s (lenM x.1)) (ltM s (lenM x.2)) then
            Option.bind (idxM x.1 s) fun (r : Int) =>
              Option.bind (idxM x.2 s) fun (r_1 : Int) =>
                bif PE.notM (eqM r r_1) then
                  Option.bind (idxM x.1 s) fun (r_2 : Int) =>
                    Option.bind (idxM x.2 s) fun (r : Int) => some (Sum.inr (Sum.inr (ltM r_2 r)))
                else some (Sum.inl (IntKind.wrap IntKind.i64 (s + (1 : Int))))
          else some (Sum.inr (Sum.inl ())))
        (0 : Int))
      fun (o : Unit ⊕ Bool) => Sum.elim (fun (t : Unit) => some false) (fun (t : Bool) => some t) o
theorem c46 : SpecOK Try.prog 46 ⟨as46, rs46, m46⟩ :=
  fnM_ok (own := []) (an := an46) (n := 400) tabs45OK (F := OPS) OPS_sound OPS_nice (f := 46) (fn := Try.f46) (code := Try.f46.body.getD .skip) (by kernel_rfl) (by kernel_rfl) (by kernel_rfl) fun x => by kernel_rfl
noncomputable def tabs46 : Tabs := Tabs.add tabs45 46 ⟨as46, rs46, m46⟩
theorem tabs46OK : TabOK Try.prog tabs46 := TabOK.add tabs45OK c46 Try.call46

/-! putlog/putlogref09.Cycle -/
def as21 : List Ty := [(.pair tI (.list (.pair tI (.pair tI tI))))]
def rs21 : List Ty := [(.list tI), .bool]
noncomputable def an21 : Ann := .seq (.a) (.seq (.a) (.seq (.a) (.seq (.seq (.a) (.block (.loop ⟨[(5, .r (.c (.d (.d tI))))], [6, 7, 8, 9, 15, 16, 17, 18, 19, 20, 21, 22, 23, 24, 25, 26, 27, 28, 29, 30, 31, 32, 33, 34, 35, 36, 37, 38, 39, 40, 41, 42, 43, 44, 45, 46, 47, 48], [], []⟩ [(.exit 0, ⟨[], [5, 6, 7, 8, 9, 15, 16, 17, 18, 19, 20, 21, 22, 23, 24, 25, 26, 27, 28, 29, 30, 31, 32, 33, 34, 35, 36, 37, 38, 39, 40, 41, 42, 43, 44, 45, 46, 47, 48], [], []⟩), (.ret, ⟨[(2, .r (.c (.d (.n tI)))), (3, .r (.c (.d (.d .bool))))], [5, 6, 7, 8, 9, 15, 16, 17, 18, 19, 20, 21, 22, 23, 24, 25, 26, 27, 28, 29, 30, 31, 32, 33, 34, 35, 36, 37, 38, 39, 40, 41, 42, 43, 44, 45, 46, 47, 48, 49], [], []⟩)] (.seq (.a) (.seq (.block (.seq (.a) (.seq (.seq (.a) (.block (.loop ⟨[(6, .r (.c (.d (.n tI)))), (7, .r (.c (.d (.d tI))))], [8, 9, 21, 22, 23, 24, 25, 26, 27, 28, 29, 30, 31, 32, 33, 34, 35, 36, 37, 38, 39, 40, 41, 42, 43, 44, 45, 46], [], []⟩ [(.exit 2, ⟨[(6, .r (.c (.d (.n tI))))], [7, 8, 9, 21, 22, 23, 24, 25, 26, 27, 28, 29, 30, 31, 32, 33, 34, 35, 36, 37, 38, 39, 40, 41, 42, 43, 44, 45, 46], [], []⟩)] (.seq (.a) (.seq (.join [(.norm, ⟨[(6, .r (.c (.d (.n tI))))], [8, 9, 27, 28, 29, 30, 31, 32, 33, 34, 35, 36, 37, 38, 39, 40, 41, 42, 43, 44, 45, 46], [], []⟩)] (.a)) (.a)))))) (.a)))) (.a)))))) (.a))))
noncomputable def m21 : (Int × List (Int × Int × Int)) → Option (List Int × Bool) :=
  fun (x : Int × List (Int × Int × Int)) =>
    Option.bind (m23 (x.1, x.2)) fun (r : Bool) =>
      bif PE.notM r then some ([], false)
      else
        Option.bind (m41 (x.1, x.2)) fun (r_1 : List (List (List Int))) =>
          Option.bind
            (loopM
              (fun (s : Int) =>
                bif leM s x.1 then
                  Option.bind
                    (loopM
                      (fun (s_1 : Option (List Int) × Int) =>
                        bif ltM s_1.2 x.1 then
                          Option.bind
                            (Option.bind (m45 ((x.1, x.2), r_1, s_1.2, s_1.2, s, (-1 : Int)))
                              fun (r_2 : List Int × Bool) =>
                              Option.bind
                                (bif PE.andM r_2.2 (PE.notM (Option.isNone s_1.1)) then m46 (r_2.1, getL s_1.1)
                                else some false)
                                fun (r_3 : Bool) =>
                                bif PE.andM r_2.2 (PE.orM (Option.isNone s_1.1) r_3) then
                                  Option.bind (neM r_2.1) fun (r : List Int) => some (some r)
                                else some s_1.1)
                            fun (o : Option (List Int)) =>
                            some (Sum.inl (o, IntKind.wrap IntKind.i64 (s_1.2 + (1 : Int))))
                        else some (Sum.inr s_1.1))
                      (none, (0 : Int)))
                    fun (o : Option (List Int)) =>
                    bif PE.notM (Option.isNone o) then some (Sum.inr (Sum.inr (o, true)))
                    else some (Sum.inl (IntKind.wrap IntKind.i64 (s + (1 : Int))))
                else some (Sum.inr (Sum.inl ())))
              (1 : Int))
            fun (o : Unit ⊕ Option (List Int) × Bool) =>
            Sum.elim (fun (t : Unit) => some ([], false)) (fun (t : Option (List Int) × Bool) => some (getL t.1, t.2)) o
theorem c21 : SpecOK Try.prog 21 ⟨as21, rs21, m21⟩ :=
  fnM_ok (own := [6, 6]) (an := an21) (n := 400) tabs46OK (F := OPS) OPS_sound OPS_nice (f := 21) (fn := Try.f21) (code := Try.f21.body.getD .skip) (by kernel_rfl) (by kernel_rfl) (by kernel_rfl) fun x => by kernel_rfl
noncomputable def tabs21 : Tabs := Tabs.add tabs46 21 ⟨as21, rs21, m21⟩
theorem tabs21OK : TabOK Try.prog tabs21 := TabOK.add tabs46OK c21 Try.call21

/-! putlog/putlogref09.Allowed -/
def as28 : List Ty := [(.pair tI (.list (.pair tI (.pair tI tI)))), (.list tI)]
def rs28 : List Ty := [.bool]
noncomputable def an28 : Ann := .seq (.a) (.seq (.a) (.seq (.seq (.a) (.block (.loop ⟨[(5, .r (.c (.d (.d tI))))], [17, 18, 19, 20, 21, 22, 23, 24, 25, 26, 27, 28], [], []⟩ [(.exit 0, ⟨[], [5, 17, 18, 19, 20, 21, 22, 23, 24, 25, 26, 27, 28], [], []⟩), (.ret, ⟨[(4, .r (.c (.d (.d .bool))))], [5, 17, 18, 19, 20, 21, 22, 23, 24, 25, 26, 27, 28], [], []⟩)] (.a)))) (.seq (.seq (.a) (.block (.loop ⟨[(6, .r (.c (.d (.d tI))))], [29, 30, 31, 32, 33, 34, 35, 36, 37, 38, 39, 40, 41, 42, 43, 44, 45, 46, 47, 48, 49, 50, 51, 52, 53, 54, 55, 56, 57, 58, 59, 60, 61], [], []⟩ [(.exit 2, ⟨[], [6, 29, 30, 31, 32, 33, 34, 35, 36, 37, 38, 39, 40, 41, 42, 43, 44, 45, 46, 47, 48, 49, 50, 51, 52, 53, 54, 55, 56, 57, 58, 59, 60, 61], [], []⟩), (.ret, ⟨[(4, .r (.c (.d (.d .bool))))], [6, 29, 30, 31, 32, 33, 34, 35, 36, 37, 38, 39, 40, 41, 42, 43, 44, 45, 46, 47, 48, 49, 50, 51, 52, 53, 54, 55, 56, 57, 58, 59, 60, 61], [], []⟩)] (.seq (.a) (.seq (.block (.seq (.reg [0, 0, 2, 0, 14, 30, 62, 127, 255, 0, 0, 1024, 0, 7168, 15360, 31744, 65024, 130560, 262143, 0, 524288, 0, 3670016, 7864320, 16252928, 33554431] [0, 1, 2, 3, 4, 5, 6, 7, 8, 9, 10, 11, 12, 13, 14, 15, 16, 17, 18, 19, 20, 21, 22, 23, 24, 25] [.s [] [], .s [] [], .s [0] [], .s [] [], .s [] [], .s [] [], .s [] [], .s [] [], .s [] [], .s [] [], .s [] [], .s [0] [], .s [] [], .s [] [], .s [] [], .s [] [], .s [] [], .s [] [], .s [] [], .s [] [], .s [0] [], .s [] [], .s [] [], .s [] [], .s [] [], .s [] []] (.a)) (.a))) (.a)))))) (.a))))
noncomputable def m28 : ((Int × List (Int × Int × Int)) × List Int) → Option (Bool) :=
  fun (x : (Int × List (Int × Int × Int)) × List Int) =>
    Option.bind (m23 (x.1.1, x.1.2)) fun (r : Bool) =>
      bif PE.orM (PE.notM r) (PE.notM (eqM (lenM x.2) x.1.1)) then some false
      else
        Option.bind
          (loopM
            (fun (s : Int) =>
              bif ltM s (lenM x.2) then
                Option.bind (idxM x.2 s) fun (r_1 : Int) =>
                  Option.bind (m51 (r_1, (-1000000000000 : Int), (1000000000000 : Int))) fun (r : Bool) =>
                    bif PE.notM r then some (Sum.inr (Sum.inr false))
                    else some (Sum.inl (IntKind.wrap IntKind.i64 (s + (1 : Int))))
              else some (Sum.inr (Sum.inl ())))
            (0 : Int))
          fun (o : Unit ⊕ Bool) =>
          Sum.elim
            (fun (t : Unit) =>
              Option.bind
                (loopM
                  (fun (s : Int) =>
                    bif ltM s (lenM x.1.2) then
                      Option.bind (idxM x.1.2 s) fun (r_1 : Int × Int × Int) =>
                        Option.bind (idxM x.2 r_1.2.1) fun (r_2 : Int) =>
                          Option.bind (idxM x.1.2 s) fun (r_3 : Int × Int × Int) =>
                            Option.bind (idxM x.2 r_3.1) fun (r_4 : Int) =>
                              Option.bind (idxM x.1.2 s) fun (r : Int × Int × Int) =>
                                bif ltM r.2.2 (IntKind.wrap IntKind.i64 (r_2 - r_4)) then some (Sum.inr (Sum.inr false))
                                else some (Sum.inl (IntKind.wrap IntKind.i64 (s + (1 : Int))))
                    else some (Sum.inr (Sum.inl ())))
                  (0 : Int))
                fun (o : Unit ⊕ Bool) => Sum.elim (fun (t : Unit) => some true) (fun (t : Bool) => some t) o)
            (fun (t : Bool) => some t) o
theorem c28 : SpecOK Try.prog 28 ⟨as28, rs28, m28⟩ :=
  fnM_ok (own := []) (an := an28) (n := 400) tabs21OK (F := OPS) OPS_sound OPS_nice (f := 28) (fn := Try.f28) (code := Try.f28.body.getD .skip) (by kernel_rfl) (by kernel_rfl) (by kernel_rfl) fun x => by kernel_rfl
noncomputable def tabs28 : Tabs := Tabs.add tabs21 28 ⟨as28, rs28, m28⟩
theorem tabs28OK : TabOK Try.prog tabs28 := TabOK.add tabs21OK c28 Try.call28

/-! putlog/putlogref09.follow -/
def as57 : List Ty := [(.pair tI (.list (.pair tI (.pair tI tI)))), tI, (.list tI)]
def rs57 : List Ty := [tI, tI, .bool]
noncomputable def an57 : Ann := .seq (.a) (.seq (.a) (.seq (.seq (.a) (.block (.loop ⟨[(1, .r (.c (.d (.d tI)))), (9, .r (.c (.d (.d tI)))), (10, .r (.c (.d (.d tI))))], [11, 12, 13, 14, 15, 16, 17, 18, 19, 20, 21, 22, 23, 24, 25, 26, 27, 28, 29, 30, 31, 32, 33, 34, 35, 36, 37, 38, 39, 40, 41, 42, 43, 44, 45, 46, 47, 48, 49, 50], [], []⟩ [(.exit 0, ⟨[(1, .r (.c (.d (.d tI)))), (9, .r (.c (.d (.d tI))))], [10, 11, 12, 13, 14, 15, 16, 17, 18, 19, 20, 21, 22, 23, 24, 25, 26, 27, 28, 29, 30, 31, 32, 33, 34, 35, 36, 37, 38, 39, 40, 41, 42, 43, 44, 45, 46, 47, 48, 49, 50], [], []⟩), (.ret, ⟨[(6, .r (.c (.d (.d tI)))), (7, .r (.c (.d (.d tI)))), (8, .r (.c (.d (.d .bool))))], [1, 9, 10, 11, 12, 13, 14, 15, 16, 17, 18, 19, 20, 21, 22, 23, 24, 25, 26, 27, 28, 29, 30, 31, 32, 33, 34, 35, 36, 37, 38, 39, 40, 41, 42, 43, 44, 45, 46, 47, 48, 49, 50], [], []⟩)] (.seq (.a) (.seq (.block (.seq (.seq (.reg [0, 0, 3, 7, 0, 16, 48, 112, 255, 511, 1023, 2047, 4095, 8191, 16383] [0, 1, 2, 3, 4, 5, 6, 7, 8, 9, 10, 11, 12, 13, 14] [.s [] [], .s [] [], .s [] [], .s [] [], .s [] [], .s [0] [], .s [] [], .s [] [], .s [] [], .s [] [], .s [] [], .s [] [], .s [] [], .s [] [], .s [] []] (.a)) (.a)) (.seq (.reg [0, 1, 0, 0, 12, 28, 63, 127, 0, 511] [0, 1, 2, 3, 4, 5, 6, 7, 8, 9] [.s [] [], .s [0] [], .s [] [], .s [] [], .s [] [], .s [] [], .s [] [], .s [] [], .s [] [1], .s [1] [1]] (.a)) (.a)))) (.a)))))) (.a)))
noncomputable def m57 : ((Int × List (Int × Int × Int)) × Int × List Int) → Option (Int × Int × Bool) :=
  fun (x : (Int × List (Int × Int × Int)) × Int × List Int) =>
    Option.bind
      (loopM
        (fun (s : Int × Int × Int) =>
          bif ltM s.2.2 (lenM x.2.2) then
            Option.bind (idxM x.2.2 s.2.2) fun (r : Int) =>
              Option.bind (m51 (r, (0 : Int), IntKind.wrap IntKind.i64 (lenM x.1.2 - (1 : Int)))) fun (r_1 : Bool) =>
                bif PE.orM (PE.notM r_1) (ltM (60 : Int) (lenM x.2.2)) then
                  some (Sum.inr (Sum.inr ((0 : Int), (0 : Int), false)))
                else
                  Option.bind (idxM x.2.2 s.2.2) fun (r_2 : Int) =>
                    Option.bind (idxM x.1.2 r_2) fun (r : Int × Int × Int) =>
                      bif PE.notM (eqM r.1 s.1) then some (Sum.inr (Sum.inr ((0 : Int), (0 : Int), false)))
                      else
                        some
                          (Sum.inl
                            (r.2.1, IntKind.wrap IntKind.i64 (s.2.1 + r.2.2),
                              IntKind.wrap IntKind.i64 (s.2.2 + (1 : Int))))
          else some (Sum.inr (Sum.inl (s.1, s.2.1))))
        (x.2.1, (0 : Int), (0 : Int)))
      fun (o : Int × Int ⊕ Int × Int × Bool) =>
      Sum.elim (fun (t : Int × Int) => some (t.1, t.2, true)) (fun (t : Int × Int × Bool) => some (t.1, t.2.1, t.2.2)) o
theorem c57 : SpecOK Try.prog 57 ⟨as57, rs57, m57⟩ :=
  fnM_ok (own := []) (an := an57) (n := 400) tabs28OK (F := OPS) OPS_sound OPS_nice (f := 57) (fn := Try.f57) (code := Try.f57.body.getD .skip) (by kernel_rfl) (by kernel_rfl) (by kernel_rfl) fun x => by kernel_rfl
noncomputable def tabs57 : Tabs := Tabs.add tabs28 57 ⟨as57, rs57, m57⟩
theorem tabs57OK : TabOK Try.prog tabs57 := TabOK.add tabs28OK c57 Try.call57

/-! putlog/putlogref09.CheckCycle -/
def as30 : List Ty := [(.pair tI (.list (.pair tI (.pair tI tI)))), (.list tI)]
def rs30 : List Ty := [.bool]
noncomputable def an30 : Ann := .seq (.a) (.seq (.a) (.seq (.seq (.a) (.block (.loop ⟨[(5, .r (.c (.d (.d tI))))], [6, 7, 8, 17, 18, 19, 20, 21, 22, 23, 24, 25, 26, 27, 28, 29, 30, 31, 32, 33, 34, 35, 36, 37, 38, 39, 40], [], []⟩ [(.exit 0, ⟨[], [5, 6, 7, 8, 17, 18, 19, 20, 21, 22, 23, 24, 25, 26, 27, 28, 29, 30, 31, 32, 33, 34, 35, 36, 37, 38, 39, 40], [], []⟩), (.ret, ⟨[(4, .r (.c (.d (.d .bool))))], [5, 6, 7, 8, 17, 18, 19, 20, 21, 22, 23, 24, 25, 26, 27, 28, 29, 30, 31, 32, 33, 34, 35, 36, 37, 38, 39, 40], [], []⟩)] (.a)))) (.a)))
noncomputable def m30 : ((Int × List (Int × Int × Int)) × List Int) → Option (Bool) :=
  fun (x : (Int × List (Int × Int × Int)) × List Int) =>
    Option.bind (m23 (x.1.1, x.1.2)) fun (r : Bool) =>
      bif PE.orM (PE.notM r) (eqM (lenM x.2) (0 : Int)) then some false
      else
        Option.bind
          (loopM
            (fun (s : Int) =>
              bif ltM s x.1.1 then
                Option.bind (m57 ((x.1.1, x.1.2), s, x.2)) fun (r : Int × Int × Bool) =>
                  bif PE.andM (PE.andM r.2.2 (eqM r.1 s)) (ltM r.2.1 (0 : Int)) then some (Sum.inr (Sum.inr true))
                  else some (Sum.inl (IntKind.wrap IntKind.i64 (s + (1 : Int))))
              else some (Sum.inr (Sum.inl ())))
            (0 : Int))
          fun (o : Unit ⊕ Bool) => Sum.elim (fun (t : Unit) => some false) (fun (t : Bool) => some t) o
theorem c30 : SpecOK Try.prog 30 ⟨as30, rs30, m30⟩ :=
  fnM_ok (own := []) (an := an30) (n := 400) tabs57OK (F := OPS) OPS_sound OPS_nice (f := 30) (fn := Try.f30) (code := Try.f30.body.getD .skip) (by kernel_rfl) (by kernel_rfl) (by kernel_rfl) fun x => by kernel_rfl
noncomputable def tabs30 : Tabs := Tabs.add tabs57 30 ⟨as30, rs30, m30⟩
theorem tabs30OK : TabOK Try.prog tabs30 := TabOK.add tabs57OK c30 Try.call30

/-! putlog/putlogref09.CheckChain -/
def as32 : List Ty := [(.pair tI (.list (.pair tI (.pair tI tI)))), (.pair tI (.pair tI tI)), (.list tI)]
def rs32 : List Ty := [.bool]
noncomputable def an32 : Ann := .a
noncomputable def m32 : ((Int × List (Int × Int × Int)) × (Int × Int × Int) × List Int) → Option (Bool) :=
  fun (x : (Int × List (Int × Int × Int)) × (Int × Int × Int) × List Int) =>
    Option.bind (m23 (x.1.1, x.1.2)) fun (r : Bool) =>
      Option.bind (bif PE.notM (PE.notM r) then m52 (x.1.1, x.2.1.1, x.2.1.2.1, x.2.1.2.2) else some false)
        fun (r_1 : Bool) =>
        bif PE.orM (PE.notM r) (PE.notM r_1) then some false
        else
          Option.bind (m57 ((x.1.1, x.1.2), x.2.1.1, x.2.2)) fun (r : Int × Int × Bool) =>
            some (PE.andM (PE.andM r.2.2 (eqM r.1 x.2.1.2.1)) (leM r.2.1 x.2.1.2.2))
theorem c32 : SpecOK Try.prog 32 ⟨as32, rs32, m32⟩ :=
  fnM_ok (own := []) (an := an32) (n := 400) tabs30OK (F := OPS) OPS_sound OPS_nice (f := 32) (fn := Try.f32) (code := Try.f32.body.getD .skip) (by kernel_rfl) (by kernel_rfl) (by kernel_rfl) fun x => by kernel_rfl
noncomputable def tabs32 : Tabs := Tabs.add tabs30 32 ⟨as32, rs32, m32⟩
theorem tabs32OK : TabOK Try.prog tabs32 := TabOK.add tabs30OK c32 Try.call32

/-! putlog/putlogref09.Implied -/
def as34 : List Ty := [(.pair tI (.list (.pair tI (.pair tI tI)))), (.pair tI (.pair tI tI))]
def rs34 : List Ty := [(.list tI), .bool]
noncomputable def an34 : Ann := .seq (.a) (.seq (.a) (.seq (.a) (.seq (.a) (.seq (.seq (.a) (.block (.loop ⟨[(7, .r (.c (.d (.d tI))))], [8, 9, 24, 25, 26, 27, 28, 29, 30, 31, 32, 33, 34, 35, 36, 37, 38, 39, 40, 41, 42, 43], [], []⟩ [(.exit 0, ⟨[], [7, 8, 9, 24, 25, 26, 27, 28, 29, 30, 31, 32, 33, 34, 35, 36, 37, 38, 39, 40, 41, 42, 43], [], []⟩), (.ret, ⟨[(4, .r (.c (.d (.d (.list tI))))), (5, .r (.c (.d (.d .bool))))], [7, 8, 9, 24, 25, 26, 27, 28, 29, 30, 31, 32, 33, 34, 35, 36, 37, 38, 39, 40, 41, 42, 43, 44], [], []⟩)] (.a)))) (.a)))))
noncomputable def m34 : ((Int × List (Int × Int × Int)) × Int × Int × Int) → Option (List Int × Bool) :=
  fun (x : (Int × List (Int × Int × Int)) × Int × Int × Int) =>
    Option.bind (m23 (x.1.1, x.1.2)) fun (r : Bool) =>
      Option.bind (bif PE.notM (PE.notM r) then m52 (x.1.1, x.2.1, x.2.2.1, x.2.2.2) else some false) fun (r_1 : Bool) =>
        bif PE.orM (PE.notM r) (PE.notM r_1) then some ([], false)
        else
          Option.bind (m40 (x.1.1, x.1.2)) fun (r_2 : Bool) =>
            bif r_2 then some ([], false)
            else
              Option.bind (m41 (x.1.1, x.1.2)) fun (r_3 : List (List (List Int))) =>
                Option.bind
                  (loopM
                    (fun (s : Int) =>
                      bif leM s x.1.1 then
                        Option.bind (m45 ((x.1.1, x.1.2), r_3, x.2.1, x.2.2.1, s, x.2.2.2)) fun (r : List Int × Bool) =>
                          bif r.2 then some (Sum.inr (Sum.inr (r.1, true)))
                          else some (Sum.inl (IntKind.wrap IntKind.i64 (s + (1 : Int))))
                      else some (Sum.inr (Sum.inl ())))
                    (0 : Int))
                  fun (o : Unit ⊕ List Int × Bool) =>
                  Sum.elim (fun (t : Unit) => some ([], false)) (fun (t : List Int × Bool) => some (t.1, t.2)) o
theorem c34 : SpecOK Try.prog 34 ⟨as34, rs34, m34⟩ :=
  fnM_ok (own := []) (an := an34) (n := 400) tabs32OK (F := OPS) OPS_sound OPS_nice (f := 34) (fn := Try.f34) (code := Try.f34.body.getD .skip) (by kernel_rfl) (by kernel_rfl) (by kernel_rfl) fun x => by kernel_rfl
noncomputable def tabs34 : Tabs := Tabs.add tabs32 34 ⟨as34, rs34, m34⟩
theorem tabs34OK : TabOK Try.prog tabs34 := TabOK.add tabs32OK c34 Try.call34

/-! putlog/putloglaw09.BetweenMatchesReference -/
def as3 : List Ty := [(.pair tI (.pair (.list tI) (.pair (.list (.pair tI (.pair tI tI))) tI))), (.pair tI (.list (.pair tI (.pair tI tI)))), tI, tI, tI, (.pair tI (.pair tI tI)), (.list tI)]
def rs3 : List Ty := [.bool]
noncomputable def an3 : Ann := .seq (.a) (.seq (.a) (.seq (.a) (.seq (.a) (.seq (.reg [0, 1, 0, 4, 15, 0, 32, 0, 128, 511, 0, 1024, 4095, 8191, 16383, 0, 65535] [0, 1, 2, 3, 4, 5, 6, 7, 8, 9, 10, 11, 12, 13, 14, 15, 16] [.s [] [], .s [2] [], .s [] [], .s [3] [], .s [] [], .s [] [], .s [2] [], .s [] [], .s [3] [], .s [] [], .s [] [], .s [2] [], .s [] [], .s [] [], .s [] [], .s [] [4], .s [4] [4]] (.a)) (.seq (.seq (.reg [0, 0, 0, 0, 0, 30, 0, 126, 255, 511, 0] [0, 1, 2, 3, 4, 5, 6, 7, 8, 9, 10] [.s [3] [], .s [3] [], .s [] [], .s [] [], .s [] [], .s [] [], .s [1] [], .s [] [], .s [] [], .s [] [], .s [] []] (.a)) (.block (.loop ⟨[(70, .r (.c (.d (.d tI))))], [19, 20, 21, 22, 23, 24, 25, 26, 27, 28, 29, 30, 31, 33, 35, 36, 37, 38, 39, 71, 72, 73, 74, 75, 76, 77, 78, 79, 80, 81, 82, 83, 84, 85, 86, 87, 88, 89, 90, 91, 92, 93, 94, 95, 96, 97, 98, 99, 100, 101, 102, 103, 104, 105, 106, 107, 108, 109, 110, 111, 112, 113, 114, 115, 116, 117, 118, 119, 120, 121, 122, 123, 124, 125, 126, 127, 128, 129, 130, 131, 132, 133, 134, 135, 136, 137, 138, 139, 140, 141, 142, 143, 144, 145, 146, 147, 148, 149, 150, 151, 152, 153, 154, 155, 156, 157, 158, 159, 160, 161, 162, 163, 164, 165, 166, 167, 168, 169, 170, 171, 172, 173, 174, 175, 176, 177, 178, 179, 180, 181, 182, 183, 184, 185, 186, 187, 188, 189, 190, 191, 192, 193, 194, 195, 196, 197, 198, 199, 200, 201, 202, 203, 204, 205, 206, 207, 208, 209, 210, 211, 212, 213, 214, 215, 216, 217, 218, 219, 220, 221, 222], [], []⟩ [(.exit 0, ⟨[], [19, 20, 21, 22, 23, 24, 25, 26, 27, 28, 29, 30, 31, 33, 35, 36, 37, 38, 39, 70, 71, 72, 73, 74, 75, 76, 77, 78, 79, 80, 81, 82, 83, 84, 85, 86, 87, 88, 89, 90, 91, 92, 93, 94, 95, 96, 97, 98, 99, 100, 101, 102, 103, 104, 105, 106, 107, 108, 109, 110, 111, 112, 113, 114, 115, 116, 117, 118, 119, 120, 121, 122, 123, 124, 125, 126, 127, 128, 129, 130, 131, 132, 133, 134, 135, 136, 137, 138, 139, 140, 141, 142, 143, 144, 145, 146, 147, 148, 149, 150, 151, 152, 153, 154, 155, 156, 157, 158, 159, 160, 161, 162, 163, 164, 165, 166, 167, 168, 169, 170, 171, 172, 173, 174, 175, 176, 177, 178, 179, 180, 181, 182, 183, 184, 185, 186, 187, 188, 189, 190, 191, 192, 193, 194, 195, 196, 197, 198, 199, 200, 201, 202, 203, 204, 205, 206, 207, 208, 209, 210, 211, 212, 213, 214, 215, 216, 217, 218, 219, 220, 221, 222], [], []⟩), (.ret, ⟨[(14, .r (.c (.d (.d .bool))))], [19, 20, 21, 22, 23, 24, 25, 26, 27, 28, 29, 30, 31, 33, 35, 36, 37, 38, 39, 70, 71, 72, 73, 74, 75, 76, 77, 78, 79, 80, 81, 82, 83, 84, 85, 86, 87, 88, 89, 90, 91, 92, 93, 94, 95, 96, 97, 98, 99, 100, 101, 102, 103, 104, 105, 106, 107, 108, 109, 110, 111, 112, 113, 114, 115, 116, 117, 118, 119, 120, 121, 122, 123, 124, 125, 126, 127, 128, 129, 130, 131, 132, 133, 134, 135, 136, 137, 138, 139, 140, 141, 142, 143, 144, 145, 146, 147, 148, 149, 150, 151, 152, 153, 154, 155, 156, 157, 158, 159, 160, 161, 162, 163, 164, 165, 166, 167, 168, 169, 170, 171, 172, 173, 174, 175, 176, 177, 178, 179, 180, 181, 182, 183, 184, 185, 186, 187, 188, 189, 190, 191, 192, 193, 194, 195, 196, 197, 198, 199, 200, 201, 202, 203, 204, 205, 206, 207, 208, 209, 210, 211, 212, 213, 214, 215, 216, 217, 218, 219, 220, 221, 222], [], []⟩)] (.seq (.a) (.seq (.a) (.seq (.block (.seq (.a) (.seq (.a) (.seq (.a) (.seq (.a) (.seq (.a) (.seq (.a) (.seq (.a) (.seq (.seq (.reg [0, 1, 0, 7, 15, 31, 63, 63, 255, 511, 1023, 2047, 2047, 8191, 16383, 32767, 65535, 65535, 262143, 524287, 1048575, 2097151, 2097151, 8388607, 16777215, 33554431, 67108863, 134217727, 134217727, 536870911, 1073741823, 2147483647, 4294967295, 8589934591, 8589934591, 34359738367, 68719476735, 137438953471] [0, 1, 2, 3, 4, 5, 6, 7, 8, 9, 10, 11, 12, 13, 14, 15, 16, 17, 18, 19, 20, 21, 22, 23, 24, 25, 26, 27, 28, 29, 30, 31, 32, 33, 34, 35, 36, 37] [.s [5] [], .s [] [], .s [5] [], .s [] [], .s [] [], .s [] [], .s [] [], .s [] [], .s [] [], .s [] [], .s [] [], .s [] [], .s [] [], .s [] [], .s [] [], .s [] [], .s [] [], .s [] [], .s [] [], .s [] [], .s [] [], .s [] [], .s [] [], .s [] [], .s [] [], .s [] [], .s [] [], .s [] [], .s [] [], .s [] [], .s [] [], .s [] [], .s [] [], .s [] [], .s [] [], .s [] [], .s [] [], .s [] []] (.a)) (.a)) (.seq (.seq (.a) (.block (.loop ⟨[(149, .r (.c (.d (.d tI))))], [33, 150, 151, 152, 153, 154, 155, 156, 157, 158, 159, 160, 161, 162, 163, 164, 165, 166, 167, 168, 169, 170, 171, 172, 173, 174, 175, 176, 177, 178, 179, 180], [], []⟩ [(.exit 2, ⟨[], [33, 149, 150, 151, 152, 153, 154, 155, 156, 157, 158, 159, 160, 161, 162, 163, 164, 165, 166, 167, 168, 169, 170, 171, 172, 173, 174, 175, 176, 177, 178, 179, 180], [], []⟩), (.ret, ⟨[(14, .r (.c (.d (.d .bool))))], [33, 149, 150, 151, 152, 153, 154, 155, 156, 157, 158, 159, 160, 161, 162, 163, 164, 165, 166, 167, 168, 169, 170, 171, 172, 173, 174, 175, 176, 177, 178, 179, 180], [], []⟩)] (.seq (.a) (.seq (.a) (.seq (.block (.seq (.a) (.seq (.reg [0, 0, 3, 0, 0, 31, 63, 127, 255, 255, 1023, 255, 255, 8191, 16383, 32767, 65535, 131071, 131071, 131071, 1048575, 131071, 131071, 131071, 16777215, 33554431, 67108863] [0, 1, 2, 3, 4, 5, 6, 7, 8, 9, 10, 11, 12, 13, 14, 15, 16, 17, 18, 19, 20, 21, 22, 23, 24, 25, 26] [.s [5] [], .s [] [], .s [] [], .s [5] [], .s [] [], .s [] [], .s [] [], .s [] [], .s [5] [], .s [] [], .s [] [], .s [5] [], .s [] [], .s [] [], .s [] [], .s [] [], .s [] [], .s [5] [], .s [2] [], .s [] [], .s [] [], .s [5] [], .s [2] [], .s [] [], .s [] [], .s [] [], .s [] []] (.a)) (.a)))) (.a))))))) (.seq (.a) (.block (.loop ⟨[(185, .r (.c (.d (.d tI))))], [35, 36, 37, 38, 39, 186, 187, 188, 189, 190, 191, 192, 193, 194, 195, 196, 197, 198, 199, 200, 201, 202, 203, 204, 205, 206, 207, 208, 209, 210, 211, 212, 213, 214, 215, 216, 217, 218, 219, 220, 221], [], []⟩ [(.exit 4, ⟨[], [35, 36, 37, 38, 39, 185, 186, 187, 188, 189, 190, 191, 192, 193, 194, 195, 196, 197, 198, 199, 200, 201, 202, 203, 204, 205, 206, 207, 208, 209, 210, 211, 212, 213, 214, 215, 216, 217, 218, 219, 220, 221], [], []⟩), (.ret, ⟨[(14, .r (.c (.d (.d .bool))))], [35, 36, 37, 38, 39, 185, 186, 187, 188, 189, 190, 191, 192, 193, 194, 195, 196, 197, 198, 199, 200, 201, 202, 203, 204, 205, 206, 207, 208, 209, 210, 211, 212, 213, 214, 215, 216, 217, 218, 219, 220, 221], [], []⟩)] (.seq (.a) (.seq (.a) (.seq (.block (.seq (.a) (.seq (.a) (.seq (.a) (.seq (.reg [0, 0, 3, 7, 15, 15, 63, 127, 255, 511, 1023, 1023, 1023, 8191, 1023, 1023, 1023, 131071, 262143, 524287] [0, 1, 2, 3, 4, 5, 6, 7, 8, 9, 10, 11, 12, 13, 14, 15, 16, 17, 18, 19] [.s [] [], .s [] [], .s [] [], .s [] [], .s [] [], .s [] [], .s [] [], .s [] [], .s [] [], .s [] [], .s [5] [], .s [6] [], .s [] [], .s [] [], .s [5] [], .s [6] [], .s [] [], .s [] [], .s [] [], .s [] []] (.a)) (.a)))))) (.a))))))))))))))))) (.a))))))) (.a))))))
noncomputable def m3 : ((Int × List Int × (List (Int × Int × Int)) × Int) × (Int × List (Int × Int × Int)) × Int × Int × Int × (Int × Int × Int) × List Int) → Option (Bool) :=
  fun
      (x :
        (Int × List Int × List (Int × Int × Int) × Int) ×
          (Int × List (Int × Int × Int)) × Int × Int × Int × (Int × Int × Int) × List Int) =>
    Option.bind (m10 ()) fun (r : Bool) =>
      Option.bind (m11 x.2.2.2.2.2.2) fun (r_1 : List Int) =>
        Option.bind (m12 (x.1.1, x.1.2.1, x.1.2.2.1, x.1.2.2.2)) fun (r_2 : Int × List (Int × Int × Int)) =>
          Option.bind (m13 (x.2.2.2.2.2.1.1, r_2.1)) fun (r_3 : Int) =>
            Option.bind (m13 (x.2.2.2.2.2.1.2.1, r_2.1)) fun (r_4 : Int) =>
              Option.bind (m13 (x.2.2.2.2.2.1.2.2, (400 : Int))) fun (r_5 : Int) =>
                Option.bind (m14 ((r_2.1, r_2.2), x.2.2.1, x.2.2.2.1, x.2.2.2.2.1))
                  fun (r_6 : Int × List (Int × Int × Int)) =>
                  Option.bind (m15 (x.2.1.1, x.2.1.2)) fun (r_7 : Int × List (Int × Int × Int)) =>
                    Option.bind
                      (loopM
                        (fun (s : Int) =>
                          bif ltM s (lenM [(r_2.1, r_2.2), (r_6.1, r_6.2), (r_7.1, r_7.2)]) then
                            Option.bind (idxM [(r_2.1, r_2.2), (r_6.1, r_6.2), (r_7.1, r_7.2)] s)
                              fun (r_8 : Int × List (Int × Int × Int)) =>
                              Option.bind (m16 (r_8.1, r_8.2)) fun (r_9 : List (List Int) × Int) =>
                                Option.bind (m17 (r_8.1, r_8.2)) fun (r_10 : List (List Int) × Int) =>
                                  Option.bind (m18 (r_8.1, r_8.2)) fun (r_11 : List Int × Int) =>
                                    Option.bind (m19 (r_8.1, r_8.2)) fun (r_12 : List Int × Int) =>
                                      Option.bind (m20 (r_8.1, r_8.2)) fun (r_13 : List Int × Bool) =>
                                        Option.bind (m21 (r_8.1, r_8.2)) fun (r_14 : List Int × Bool) =>
                                          Option.bind (m22 (r_8.1, r_8.2)) fun (r_15 : Bool) =>
                                            Option.bind (m23 (r_8.1, r_8.2)) fun (r_16 : Bool) =>
                                              Option.bind
                                                (bif
                                                    PE.notM
                                                      (PE.orM
                                                        (PE.orM
                                                          (PE.orM (PE.notM (eqbM r_15 r_16)) (PE.notM (eqM r_9.2 r_10.2)))
                                                          (PE.notM (eqM r_11.2 r_12.2)))
                                                        (PE.notM (eqbM r_13.2 r_14.2))) then
                                                  m24 (r_9.1, r_10.1)
                                                else some false)
                                                fun (r_17 : Bool) =>
                                                Option.bind
                                                  (bif
                                                      PE.notM
                                                        (PE.orM
                                                          (PE.orM
                                                            (PE.orM
                                                              (PE.orM (PE.notM (eqbM r_15 r_16))
                                                                (PE.notM (eqM r_9.2 r_10.2)))
                                                              (PE.notM (eqM r_11.2 r_12.2)))
                                                            (PE.notM (eqbM r_13.2 r_14.2)))
                                                          (PE.notM r_17)) then
                                                    m25 (r_11.1, r_12.1)
                                                  else some false)
                                                  fun (r_18 : Bool) =>
                                                  Option.bind
                                                    (bif
                                                        PE.notM
                                                          (PE.orM
                                                            (PE.orM
                                                              (PE.orM
                                                                (PE.orM
                                                                  (PE.orM (PE.notM (eqbM r_15 r_16))
                                                                    (PE.notM (eqM r_9.2 r_10.2)))
                                                                  (PE.notM (eqM r_11.2 r_12.2)))
                                                                (PE.notM (eqbM r_13.2 r_14.2)))
                                                              (PE.notM r_17))
                                                            (PE.notM r_18)) then
                                                      m25 (r_13.1, r_14.1)
                                                    else some false)
                                                    fun (r_19 : Bool) =>
                                                    bif
                                                        PE.orM
                                                          (PE.orM
                                                            (PE.orM
                                                              (PE.orM
                                                                (PE.orM
                                                                  (PE.orM (PE.notM (eqbM r_15 r_16))
                                                                    (PE.notM (eqM r_9.2 r_10.2)))
                                                                  (PE.notM (eqM r_11.2 r_12.2)))
                                                                (PE.notM (eqbM r_13.2 r_14.2)))
                                                              (PE.notM r_17))
                                                            (PE.notM r_18))
                                                          (PE.notM r_19) then
                                                      some (Sum.inr (Sum.inr false))
                                                    else
                                                      Option.bind (m26 (x.1.1, x.1.2.1, x.1.2.2.1, x.1.2.2.2))
                                                        fun (r_20 : List Int) =>
                                                        Option.bind
                                                          (loopM
                                                            (fun (s_1 : Int) =>
                                                              bif ltM s_1 (lenM [r_1, r_14.1, r_20, r_12.1]) then
                                                                Option.bind (idxM [r_1, r_14.1, r_20, r_12.1] s_1)
                                                                  fun (r_21 : List Int) =>
                                                                  Option.bind (m27 ((r_8.1, r_8.2), r_21))
                                                                    fun (r_22 : Bool) =>
                                                                    Option.bind (m28 ((r_8.1, r_8.2), r_21))
                                                                      fun (r_23 : Bool) =>
                                                                      Option.bind
                                                                        (bif PE.notM (PE.notM (eqbM r_22 r_23)) then
                                                                          m29 ((r_8.1, r_8.2), r_21)
                                                                        else some false)
                                                                        fun (r_24 : Bool) =>
                                                                        Option.bind
                                                                          (bif PE.notM (PE.notM (eqbM r_22 r_23)) then
                                                                            m30 ((r_8.1, r_8.2), r_21)
                                                                          else some false)
                                                                          fun (r_25 : Bool) =>
                                                                          Option.bind
                                                                            (bif
                                                                                PE.notM
                                                                                  (PE.orM (PE.notM (eqbM r_22 r_23))
                                                                                    (PE.notM (eqbM r_24 r_25))) then
                                                                              m31
                                                                                ((r_8.1, r_8.2),
                                                                                  (x.2.2.2.2.2.1.1, x.2.2.2.2.2.1.2.1,
                                                                                    x.2.2.2.2.2.1.2.2),
                                                                                  r_21)
                                                                            else some false)
                                                                            fun (r_26 : Bool) =>
                                                                            Option.bind
                                                                              (bif
                                                                                  PE.notM
                                                                                    (PE.orM (PE.notM (eqbM r_22 r_23))
                                                                                      (PE.notM (eqbM r_24 r_25))) then
                                                                                m32
                                                                                  ((r_8.1, r_8.2),
                                                                                    (x.2.2.2.2.2.1.1, x.2.2.2.2.2.1.2.1,
                                                                                      x.2.2.2.2.2.1.2.2),
                                                                                    r_21)
                                                                              else some false)
                                                                              fun (r : Bool) =>
                                                                              bif
                                                                                  PE.orM
                                                                                    (PE.orM (PE.notM (eqbM r_22 r_23))
                                                                                      (PE.notM (eqbM r_24 r_25)))
                                                                                    (PE.notM (eqbM r_26 r)) then
                                                                                some (Sum.inr (Sum.inr false))
                                                                              else
                                                                                some
                                                                                  (Sum.inl
                                                                                    (IntKind.wrap IntKind.i64
                                                                                      (s_1 + (1 : Int))))
                                                              else some (Sum.inr (Sum.inl ())))
                                                            (0 : Int))
                                                          fun (o : Unit ⊕ Bool) =>
                                                          Sum.elim
                                                            (fun (t : Unit) =>
                                                              Option.bind
                                                                (loopM
                                                                  (fun (s_1 : Int) =>
                                                                    bif
                                                                        ltM s_1
                                                                          (lenM
                                                                            [(x.2.2.2.2.2.1.1, x.2.2.2.2.2.1.2.1,
                                                                                x.2.2.2.2.2.1.2.2),
                                                                              (r_3, r_4,
                                                                                IntKind.wrap IntKind.i64
                                                                                  (r_5 - (200 : Int)))]) then
                                                                      Option.bind
                                                                        (idxM
                                                                          [(x.2.2.2.2.2.1.1, x.2.2.2.2.2.1.2.1,
                                                                              x.2.2.2.2.2.1.2.2),
                                                                            (r_3, r_4,
                                                                              IntKind.wrap IntKind.i64
                                                                                (r_5 - (200 : Int)))]
                                                                          s_1)
                                                                        fun (r_21 : Int × Int × Int) =>
                                                                        Option.bind
                                                                          (m33
                                                                            ((r_8.1, r_8.2), r_21.1, r_21.2.1, r_21.2.2))
                                                                          fun (r_22 : List Int × Bool) =>
                                                                          Option.bind
                                                                            (m34
                                                                              ((r_8.1, r_8.2), r_21.1, r_21.2.1,
                                                                                r_21.2.2))
                                                                            fun (r_23 : List Int × Bool) =>
                                                                            Option.bind
                                                                              (bif
                                                                                  PE.notM
                                                                                    (PE.notM (eqbM r_22.2 r_23.2)) then
                                                                                m25 (r_22.1, r_23.1)
                                                                              else some false)
                                                                              fun (r_24 : Bool) =>
                                                                              Option.bind
                                                                                (bif
                                                                                    PE.notM
                                                                                      (PE.orM
                                                                                        (PE.notM (eqbM r_22.2 r_23.2))
                                                                                        (PE.notM r_24)) then
                                                                                  m31
                                                                                    ((r_8.1, r_8.2),
                                                                                      (r_21.1, r_21.2.1, r_21.2.2),
                                                                                      r_23.1)
                                                                                else some false)
                                                                                fun (r_25 : Bool) =>
                                                                                Option.bind
                                                                                  (bif
                                                                                      PE.notM
                                                                                        (PE.orM
                                                                                          (PE.notM (eqbM r_22.2 r_23.2))
                                                                                          (PE.notM r_24)) then
                                                                                    m32
                                                                                      ((r_8.1, r_8.2),
                                                                                        (r_21.1, r_21.2.1, r_21.2.2),
                                                                                        r_23.1)
                                                                                  else some false)
                                                                                  fun (r : Bool) =>
                                                                                  bif
                                                                                      PE.orM
                                                                                        (PE.orM
                                                                                          (PE.notM (eqbM r_22.2 r_23.2))
                                                                                          (PE.notM r_24))
                                                                                        (PE.notM (eqbM r_25 r)) then
                                                                                    some (Sum.inr (Sum.inr false))
                                                                                  else
                                                                                    some
                                                                                      (Sum.inl
                                                                                        (IntKind.wrap IntKind.i64
                                                                                          (s_1 + (1 : Int))))
                                                                    else some (Sum.inr (Sum.inl ())))
                                                                  (0 : Int))
                                                                fun (o : Unit ⊕ Bool) =>
                                                                Sum.elim
                                                                  (fun (t : Unit) =>
                                                                    some
                                                                      (Sum.inl
                                                                        (IntKind.wrap IntKind.i64 (s + (1 : Int)))))
                                                                  (fun (t : Bool) => some (Sum.inr (Sum.inr t))) o)
                                                            (fun (t : Bool) => some (Sum.inr (Sum.inr t))) o
                          else some (Sum.inr (Sum.inl ())))
                        (0 : Int))
                      fun (o : Unit ⊕ Bool) => Sum.elim (fun (t : Unit) => some r) (fun (t : Bool) => some t) o
theorem c3 : SpecOK Try.prog 3 ⟨as3, rs3, m3⟩ :=
  fnM_ok (own := []) (an := an3) (n := 400) tabs34OK (F := OPS) OPS_sound OPS_nice (f := 3) (fn := Try.f3) (code := Try.f3.body.getD .skip) (by kernel_rfl) (by kernel_rfl) (by kernel_rfl) fun x => by kernel_rfl
noncomputable def tabs3 : Tabs := Tabs.add tabs34 3 ⟨as3, rs3, m3⟩
theorem tabs3OK : TabOK Try.prog tabs3 := TabOK.add tabs34OK c3 Try.call3

/-! putlog/putloglaw09.BetweenLeast -/
def as4 : List Ty := [(.pair tI (.pair (.list tI) (.pair (.list (.pair tI (.pair tI tI))) tI))), tI]
def rs4 : List Ty := [.bool]
noncomputable def an4 : Ann := .seq (.a) (.seq (.a) (.seq (.a) (.seq (.a) (.seq (.a) (.seq (.a) (.seq (.a) (.seq (.a) (.seq (.a) (.seq (.seq (.a) (.block (.loop ⟨[(11, .r (.c (.h 2))), (12, .r (.c (.d (.d tI))))], [66, 67, 68, 69, 70, 71, 72, 73, 74, 75, 76, 77, 78, 79, 80, 81, 82, 83, 84, 85, 86, 87, 88, 89, 90, 91, 92, 93, 94, 95, 96, 97, 98, 99, 100, 101, 102, 103, 104, 105], [], [.arr tI]⟩ [(.exit 0, ⟨[(11, .r (.c (.h 2)))], [12, 66, 67, 68, 69, 70, 71, 72, 73, 74, 75, 76, 77, 78, 79, 80, 81, 82, 83, 84, 85, 86, 87, 88, 89, 90, 91, 92, 93, 94, 95, 96, 97, 98, 99, 100, 101, 102, 103, 104, 105], [], [.arr tI]⟩), (.ret, ⟨[(4, .r (.c (.d (.d .bool))))], [11, 12, 66, 67, 68, 69, 70, 71, 72, 73, 74, 75, 76, 77, 78, 79, 80, 81, 82, 83, 84, 85, 86, 87, 88, 89, 90, 91, 92, 93, 94, 95, 96, 97, 98, 99, 100, 101, 102, 103, 104, 105], [], []⟩)] (.seq (.a) (.seq (.join [(.ret, ⟨[(4, .r (.c (.d (.d .bool))))], [72, 73, 74, 75, 76, 77, 78, 79], [], []⟩), (.norm, ⟨[(11, .r (.c (.h 3)))], [72, 73, 74, 75, 76, 77, 78, 79, 80, 81, 82, 83, 84, 85, 86, 87, 88, 89, 90, 91, 92, 93, 94, 95, 96, 97, 98, 99, 100, 101, 102, 103, 104, 105], [(2, .gone)], [.arr tI]⟩)] (.block (.seq (.seq (.reg [0, 0, 3, 7, 15, 0, 32, 127] [0, 1, 2, 3, 4, 5, 6, 7] [.s [] [], .s [] [], .s [] [], .s [] [], .s [] [], .s [] [], .s [1] [], .s [] []] (.a)) (.a)) (.a)))) (.a)))))) (.seq (.a) (.seq (.seq (.a) (.block (.loop ⟨[(123, .r (.c (.d (.d tI))))], [14, 15, 16, 124, 125, 126, 127, 128, 129, 130, 131, 132, 133, 134, 135, 136, 137, 138, 139, 140, 141, 142, 143, 144, 145, 146, 147, 148, 149, 150, 151, 152, 153, 154, 155, 156, 157, 158, 159, 160], [], []⟩ [(.exit 2, ⟨[], [14, 15, 16, 123, 124, 125, 126, 127, 128, 129, 130, 131, 132, 133, 134, 135, 136, 137, 138, 139, 140, 141, 142, 143, 144, 145, 146, 147, 148, 149, 150, 151, 152, 153, 154, 155, 156, 157, 158, 159, 160], [], []⟩), (.ret, ⟨[(4, .r (.c (.d (.d .bool))))], [14, 15, 16, 123, 124, 125, 126, 127, 128, 129, 130, 131, 132, 133, 134, 135, 136, 137, 138, 139, 140, 141, 142, 143, 144, 145, 146, 147, 148, 149, 150, 151, 152, 153, 154, 155, 156, 157, 158, 159, 160], [], []⟩)] (.seq (.a) (.seq (.a) (.seq (.join [(.norm, ⟨[], [14, 15, 16, 125, 126, 127, 128, 129, 130, 131, 132, 133, 134, 135, 136, 137, 138, 139, 140, 141, 142, 143, 144, 145, 146, 147, 148, 149, 150, 151, 152, 153, 154, 155, 156, 157, 158, 159], [], []⟩), (.ret, ⟨[(4, .r (.c (.d (.d .bool))))], [14, 15, 16, 125, 126, 127, 128, 129, 130, 131, 132, 133, 134, 135, 136, 137, 138, 139, 140, 141, 142, 143, 144, 145, 146, 147, 148, 149, 150, 151, 152, 153, 154, 155, 156, 157, 158, 159], [], []⟩)] (.block (.seq (.a) (.seq (.a) (.seq (.a) (.block (.loop ⟨[(15, .r (.c (.d (.d tI))))], [16, 131, 132, 133, 134, 135, 136, 137, 138, 139, 140, 141, 142, 143, 144, 145, 146, 147, 148, 149, 150, 151, 152, 153, 154, 155, 156, 157, 158, 159], [], []⟩ [(.exit 4, ⟨[], [15, 16, 131, 132, 133, 134, 135, 136, 137, 138, 139, 140, 141, 142, 143, 144, 145, 146, 147, 148, 149, 150, 151, 152, 153, 154, 155, 156, 157, 158, 159], [], []⟩), (.ret, ⟨[(4, .r (.c (.d (.d .bool))))], [15, 16, 131, 132, 133, 134, 135, 136, 137, 138, 139, 140, 141, 142, 143, 144, 145, 146, 147, 148, 149, 150, 151, 152, 153, 154, 155, 156, 157, 158, 159], [], []⟩)] (.seq (.a) (.seq (.block (.seq (.a) (.block (.loop ⟨[(16, .r (.c (.d (.d tI))))], [137, 138, 139, 140, 141, 142, 143, 144, 145, 146, 147, 148, 149, 150, 151, 152, 153, 154, 155, 156, 157, 158, 159], [], []⟩ [(.exit 6, ⟨[], [16, 137, 138, 139, 140, 141, 142, 143, 144, 145, 146, 147, 148, 149, 150, 151, 152, 153, 154, 155, 156, 157, 158, 159], [], []⟩), (.ret, ⟨[(4, .r (.c (.d (.d .bool))))], [16, 137, 138, 139, 140, 141, 142, 143, 144, 145, 146, 147, 148, 149, 150, 151, 152, 153, 154, 155, 156, 157, 158, 159], [], []⟩)] (.seq (.a) (.seq (.block (.seq (.reg [0, 0, 3, 7, 0, 0, 48, 112, 255, 0, 0, 1536, 3584, 0, 15872, 32256, 65535] [0, 1, 2, 3, 4, 5, 6, 7, 8, 9, 10, 11, 12, 13, 14, 15, 16] [.s [] [], .s [] [], .s [] [], .s [] [], .s [] [], .s [] [], .s [] [], .s [] [], .s [] [], .s [] [], .s [] [], .s [] [], .s [] [], .s [] [], .s [] [], .s [] [], .s [] []] (.a)) (.a))) (.a))))))) (.a)))))))))) (.a))))))) (.a))))))))))))
noncomputable def m4 : ((Int × List Int × (List (Int × Int × Int)) × Int) × Int) → Option (Bool) :=
  fun (x : (Int × List Int × List (Int × Int × Int) × Int) × Int) =>
    Option.bind (m10 ()) fun (r : Bool) =>
      bif PE.notM r then some false
      else
        Option.bind (m12 (x.1.1, x.1.2.1, x.1.2.2.1, x.1.2.2.2)) fun (r_1 : Int × List (Int × Int × Int)) =>
          Option.bind (m16 (r_1.1, r_1.2)) fun (r_2 : List (List Int) × Int) =>
            Option.bind (m18 (r_1.1, r_1.2)) fun (r_3 : List Int × Int) =>
              bif PE.orM (PE.notM (eqM r_2.2 r_3.2)) (PE.notM (eqM r_2.2 (0 : Int))) then
                Option.bind (bif eqM r_2.2 r_3.2 then m35 (x.1.1, x.1.2.1, x.1.2.2.1, x.1.2.2.2) else some false)
                  fun (r : Bool) => some (PE.andM (PE.andM (eqM r_2.2 r_3.2) r) (eqM (lenM r_2.1) (0 : Int)))
              else
                bif PE.orM (PE.notM (eqM (lenM r_2.1) r_1.1)) (PE.notM (eqM (lenM r_3.1) r_1.1)) then some false
                else
                  Option.bind (m13 (x.2, r_1.1)) fun (r_4 : Int) =>
                    Option.bind
                      (loopM
                        (fun (s : Int × List Int) =>
                          bif ltM s.1 r_1.1 then
                            Option.bind
                              (Option.bind (idxM r_2.1 s.1) fun (r_5 : List Int) =>
                                bif PE.notM (eqM (lenM r_5) r_1.1) then some (Sum.inl false)
                                else
                                  Option.bind (idxM r_2.1 r_4) fun (r_6 : List Int) =>
                                    Option.bind (idxM r_6 s.1) fun (r_7 : Int) =>
                                      bif eqM r_7 (1152921504606846976 : Int) then
                                        Option.bind (idxM r_3.1 s.1) fun (r_8 : Int) =>
                                          Option.bind
                                            (appM (nat_lit 8) s.2 [IntKind.wrap IntKind.i64 ((1000000000 : Int) + r_8)])
                                            fun (r : List Int) => some (Sum.inr r)
                                      else
                                        Option.bind (idxM r_2.1 r_4) fun (r_8 : List Int) =>
                                          Option.bind (idxM r_8 s.1) fun (r_9 : Int) =>
                                            Option.bind (appM (nat_lit 8) s.2 [r_9]) fun (r : List Int) =>
                                              some (Sum.inr r))
                              fun (o : Bool ⊕ List Int) =>
                              Sum.elim (fun (t : Bool) => some (Sum.inr (Sum.inr t)))
                                (fun (t : List Int) => some (Sum.inl (IntKind.wrap IntKind.i64 (s.1 + (1 : Int)), t))) o
                          else some (Sum.inr (Sum.inl s.2)))
                        ((0 : Int), []))
                      fun (o : List Int ⊕ Bool) =>
                      Sum.elim
                        (fun (t : List Int) =>
                          Option.bind (chkM r_4 (lenM t)) fun (r_5 : Unit) =>
                            Option.bind (idxM t r_4) fun (r_6 : Int) =>
                              Option.bind
                                (bif PE.notM (PE.notM (eqM r_6 (0 : Int))) then m27 ((r_1.1, r_1.2), t) else some false)
                                fun (r_7 : Bool) =>
                                bif PE.orM (PE.notM (eqM r_6 (0 : Int))) (PE.notM r_7) then some false
                                else
                                  Option.bind (m26 (x.1.1, x.1.2.1, x.1.2.2.1, x.1.2.2.2)) fun (r_8 : List Int) =>
                                    Option.bind
                                      (loopM
                                        (fun (s : Int) =>
                                          bif ltM s (lenM [r_3.1, r_8, t]) then
                                            Option.bind
                                              (Option.bind (idxM [r_3.1, r_8, t] s) fun (r_9 : List Int) =>
                                                Option.bind (m27 ((r_1.1, r_1.2), r_9)) fun (r_10 : Bool) =>
                                                  bif PE.notM r_10 then some (Sum.inl ())
                                                  else
                                                    Option.bind
                                                      (loopM
                                                        (fun (s_1 : Int) =>
                                                          bif ltM s_1 r_1.1 then
                                                            Option.bind
                                                              (loopM
                                                                (fun (s_2 : Int) =>
                                                                  bif ltM s_2 r_1.1 then
                                                                    Option.bind (idxM r_9 s_2) fun (r_11 : Int) =>
                                                                      Option.bind (idxM r_9 s_1) fun (r_12 : Int) =>
                                                                        Option.bind (idxM r_2.1 s_1)
                                                                          fun (r_13 : List Int) =>
                                                                          Option.bind (idxM r_13 s_2) fun (r : Int) =>
                                                                            bif
                                                                                ltM r
                                                                                  (IntKind.wrap IntKind.i64
                                                                                    (r_11 - r_12)) then
                                                                              some (Sum.inr (Sum.inr false))
                                                                            else
                                                                              some
                                                                                (Sum.inl
                                                                                  (IntKind.wrap IntKind.i64
                                                                                    (s_2 + (1 : Int))))
                                                                  else some (Sum.inr (Sum.inl ())))
                                                                (0 : Int))
                                                              fun (o : Unit ⊕ Bool) =>
                                                              Sum.elim
                                                                (fun (t : Unit) =>
                                                                  some
                                                                    (Sum.inl
                                                                      (IntKind.wrap IntKind.i64 (s_1 + (1 : Int)))))
                                                                (fun (t : Bool) => some (Sum.inr (Sum.inr t))) o
                                                          else some (Sum.inr (Sum.inl ())))
                                                        (0 : Int))
                                                      fun (o : Unit ⊕ Bool) =>
                                                      Sum.elim (fun (t : Unit) => some (Sum.inl ()))
                                                        (fun (t : Bool) => some (Sum.inr t)) o)
                                              fun (o : Unit ⊕ Bool) =>
                                              Sum.elim
                                                (fun (t : Unit) =>
                                                  some (Sum.inl (IntKind.wrap IntKind.i64 (s + (1 : Int)))))
                                                (fun (t : Bool) => some (Sum.inr (Sum.inr t))) o
                                          else some (Sum.inr (Sum.inl ())))
                                        (0 : Int))
                                      fun (o : Unit ⊕ Bool) =>
                                      Sum.elim (fun (t : Unit) => some true) (fun (t : Bool) => some t) o)
                        (fun (t : Bool) => some t) o
theorem c4 : SpecOK Try.prog 4 ⟨as4, rs4, m4⟩ :=
  fnM_ok (own := []) (an := an4) (n := 400) tabs3OK (F := OPS) OPS_sound OPS_nice (f := 4) (fn := Try.f4) (code := Try.f4.body.getD .skip) (by kernel_rfl) (by kernel_rfl) (by kernel_rfl) fun x => by kernel_rfl
noncomputable def tabs4 : Tabs := Tabs.add tabs3 4 ⟨as4, rs4, m4⟩
theorem tabs4OK : TabOK Try.prog tabs4 := TabOK.add tabs3OK c4 Try.call4
end Go.Proofs.Ytadcohacnmicjaa
/-
  Models of the functions of this seat, and that the functions compute them (printed by gen_models.py). No conditions.
-/
namespace Go.Proofs.Ytadcohacnmicjaa
open Go Go.Abs Go.PE Go.Proofs
set_option linter.unusedVariables false
set_option maxRecDepth 100000

/-! putlog/putloglaw09.BetweenContradicts -/
def as5 : List Ty := [(.pair tI (.pair (.list tI) (.pair (.list (.pair tI (.pair tI tI))) tI))), tI, (.list tI), (.list tI)]
def rs5 : List Ty := [.bool]
noncomputable def an5 : Ann := .seq (.a) (.seq (.a) (.seq (.a) (.seq (.a) (.seq (.a) (.seq (.a) (.seq (.a) (.seq (.reg [0, 0, 3, 7, 15, 15, 47, 127, 255, 511] [0, 1, 2, 3, 4, 5, 6, 7, 8, 9] [.s [1] [], .s [] [], .s [] [], .s [] [], .s [1] [], .s [] [], .s [] [], .s [] [], .s [] [], .s [] []] (.a)) (.seq (.seq (.reg [0, 1, 3, 7, 15, 31, 31, 95, 255, 511, 1023, 2047, 2047, 6143, 16383, 32767, 65535] [0, 1, 2, 3, 4, 5, 6, 7, 8, 9, 10, 11, 12, 13, 14, 15, 16] [.s [] [], .s [] [], .s [] [], .s [] [], .s [] [], .s [1] [], .s [] [], .s [] [], .s [] [], .s [] [], .s [] [], .s [1] [], .s [0] [], .s [] [], .s [] [], .s [] [], .s [] []] (.a)) (.a)) (.seq (.a) (.seq (.a) (.seq (.a) (.seq (.a) (.seq (.seq (.a) (.block (.loop ⟨[(18, .r (.c (.d (.d tI))))], [104, 105, 106, 107, 108, 109, 110, 111, 112, 113, 114, 115, 116, 117, 118, 119, 120, 121, 122, 123, 124, 125, 126, 127, 128, 129, 130, 131, 132, 133, 134, 135, 136, 137, 138], [(2, .box [.d (.d tI), .h 4]), (3, .box [.d (.d tI), .h 5])], [.arr (.pair tI (.pair tI tI)), .arr (.pair tI (.pair tI tI))]⟩ [(.exit 0, ⟨[], [18, 104, 105, 106, 107, 108, 109, 110, 111, 112, 113, 114, 115, 116, 117, 118, 119, 120, 121, 122, 123, 124, 125, 126, 127, 128, 129, 130, 131, 132, 133, 134, 135, 136, 137, 138], [(2, .box [.d (.d tI), .h 4]), (3, .box [.d (.d tI), .h 5])], [.arr (.pair tI (.pair tI tI)), .arr (.pair tI (.pair tI tI))]⟩)] (.seq (.a) (.seq (.block (.seq (.reg [0, 1, 0, 4, 0, 0, 48, 112, 252, 508, 1020, 2047, 4095, 8191] [0, 1, 2, 3, 4, 5, 6, 7, 8, 9, 10, 11, 12, 13] [.s [] [], .s [3] [], .s [] [], .s [1] [], .s [] [], .s [] [], .s [] [], .s [] [], .s [] [], .s [] [], .s [] [], .s [5] [6, 5], .s [] [], .s [3, 6] [3]] (.a)) (.seq (.a) (.cond (.reg [0, 1, 0, 4, 0, 0, 48, 112, 252, 508, 1020, 2047, 4095, 8191] [0, 1, 2, 3, 4, 5, 6, 7, 8, 9, 10, 11, 12, 13] [.s [] [], .s [2] [], .s [] [], .s [1] [], .s [] [], .s [] [], .s [] [], .s [] [], .s [] [], .s [] [], .s [] [], .s [4] [7, 4], .s [] [], .s [2, 7] [2]] (.a)) (.a))))) (.a)))))) (.a))))))))))))))
noncomputable def m5 : ((Int × List Int × (List (Int × Int × Int)) × Int) × Int × List Int × List Int) → Option (Bool) :=
  fun (x : (Int × List Int × List (Int × Int × Int) × Int) × Int × List Int × List Int) =>
    Option.bind (m10 ()) fun (r : Bool) =>
      bif PE.notM r then some false
      else
        Option.bind (m12 (x.1.1, x.1.2.1, x.1.2.2.1, x.1.2.2.2)) fun (r_1 : Int × List (Int × Int × Int)) =>
          Option.bind (m20 (r_1.1, r_1.2)) fun (r_2 : List Int × Bool) =>
            Option.bind (m18 (r_1.1, r_1.2)) fun (r_3 : List Int × Int) =>
              Option.bind
                (bif PE.andM (PE.notM (eqbM r_2.2 (eqM r_3.2 (0 : Int)))) (eqM r_3.2 (0 : Int)) then
                  m27 ((r_1.1, r_1.2), r_3.1)
                else some false)
                fun (r_4 : Bool) =>
                bif PE.orM (eqbM r_2.2 (eqM r_3.2 (0 : Int))) (PE.andM (eqM r_3.2 (0 : Int)) (PE.notM r_4)) then
                  some false
                else
                  Option.bind (bif r_2.2 then m35 (x.1.1, x.1.2.1, x.1.2.2.1, x.1.2.2.2) else some false)
                    fun (r_5 : Bool) =>
                    Option.bind
                      (bif PE.andM r_2.2 (PE.notM (PE.notM r_5)) then m29 ((r_1.1, r_1.2), r_2.1) else some false)
                      fun (r_6 : Bool) =>
                      bif PE.andM r_2.2 (PE.orM (PE.notM r_5) (PE.notM r_6)) then some false
                      else
                        Option.bind (m29 ((r_1.1, r_1.2), r_2.1)) fun (r_7 : Bool) =>
                          Option.bind (bif PE.notM r_7 then m11 x.2.2.1 else some []) fun (r_8 : List Int) =>
                            Option.bind (bif PE.notM r_7 then m29 ((r_1.1, r_1.2), r_8) else some false)
                              fun (r_9 : Bool) =>
                              Option.bind
                                (bif PE.andM (PE.orM r_7 r_9) (PE.notM (eqM r_3.2 (0 : Int))) then m11 x.2.2.2
                                else some [])
                                fun (r_10 : List Int) =>
                                Option.bind
                                  (bif PE.andM (PE.orM r_7 r_9) (PE.notM (eqM r_3.2 (0 : Int))) then
                                    m27 ((r_1.1, r_1.2), r_10)
                                  else some false)
                                  fun (r_11 : Bool) =>
                                  Option.bind
                                    (bif PE.andM (PE.orM r_7 r_9) (PE.notM (PE.orM (eqM r_3.2 (0 : Int)) r_11)) then
                                      m26 (x.1.1, x.1.2.1, x.1.2.2.1, x.1.2.2.2)
                                    else some [])
                                    fun (r_12 : List Int) =>
                                    Option.bind
                                      (bif PE.andM (PE.orM r_7 r_9) (PE.notM (PE.orM (eqM r_3.2 (0 : Int)) r_11)) then
                                        m27 ((r_1.1, r_1.2), r_12)
                                      else some false)
                                      fun (r_13 : Bool) =>
                                      bif PE.andM (PE.orM r_7 r_9) (PE.orM (PE.orM (eqM r_3.2 (0 : Int)) r_11) r_13) then
                                        some false
                                      else
                                        bif PE.notM r_2.2 then some (eqM (lenM r_2.1) (0 : Int))
                                        else
                                          Option.bind (m13 (x.2.1, lenM r_2.1)) fun (r_14 : Int) =>
                                            Option.bind
                                              (loopM
                                                (fun
                                                    (s :
                                                      Int ×
                                                        Int × Int × List (Int × Int × Int) × List (Int × Int × Int)) =>
                                                  bif ltM s.1 (lenM r_2.1) then
                                                    Option.bind (idxM r_2.1 s.1) fun (r_15 : Int) =>
                                                      Option.bind (idxM r_1.2 r_15) fun (r_16 : Int × Int × Int) =>
                                                        Option.bind
                                                          (appM (nat_lit 24) s.2.2.2.2 [(r_16.1, r_16.2.1, r_16.2.2)])
                                                          fun (r_17 : List (Int × Int × Int)) =>
                                                          bif PE.notM (eqM s.1 r_14) then
                                                            Option.bind (idxM r_2.1 s.1) fun (r_18 : Int) =>
                                                              Option.bind (idxM r_1.2 r_18)
                                                                fun (r_19 : Int × Int × Int) =>
                                                                Option.bind
                                                                  (appM (nat_lit 24) s.2.2.2.1
                                                                    [(r_19.1, r_19.2.1, r_19.2.2)])
                                                                  fun (r : List (Int × Int × Int)) =>
                                                                  some
                                                                    (Sum.inl
                                                                      (IntKind.wrap IntKind.i64 (s.1 + (1 : Int)), s.2.1,
                                                                        s.2.2.1, r, r_17))
                                                          else
                                                            some
                                                              (Sum.inl
                                                                (IntKind.wrap IntKind.i64 (s.1 + (1 : Int)), s.2.1,
                                                                  s.2.2.1, s.2.2.2.1, r_17))
                                                  else some (Sum.inr (s.2.1, s.2.2.1, s.2.2.2.1, s.2.2.2.2)))
                                                ((0 : Int), r_1.1, r_1.1, [], []))
                                              fun (o : Int × Int × List (Int × Int × Int) × List (Int × Int × Int)) =>
                                              Option.bind (m18 (o.1, o.2.2.1)) fun (r_15 : List Int × Int) =>
                                                Option.bind (m18 (o.2.1, o.2.2.2)) fun (r : List Int × Int) =>
                                                  some (PE.andM (eqM r_15.2 (0 : Int)) (eqM r.2 (90 : Int)))
theorem c5 : SpecOK Try.prog 5 ⟨as5, rs5, m5⟩ :=
  fnM_ok (own := []) (an := an5) (n := 400) tabs4OK (F := OPS) OPS_sound OPS_nice (f := 5) (fn := Try.f5) (code := Try.f5.body.getD .skip) (by kernel_rfl) (by kernel_rfl) (by kernel_rfl) fun x => by kernel_rfl
noncomputable def tabs5 : Tabs := Tabs.add tabs4 5 ⟨as5, rs5, m5⟩
theorem tabs5OK : TabOK Try.prog tabs5 := TabOK.add tabs4OK c5 Try.call5

/-! putlog/putlogref09.With -/
def as36 : List Ty := [(.pair tI (.list (.pair tI (.pair tI tI)))), (.pair tI (.pair tI tI))]
def rs36 : List Ty := [(.pair tI (.list (.pair tI (.pair tI tI))))]
noncomputable def an36 : Ann := .seq (.a) (.seq (.reg [0, 1, 0, 0, 8, 28, 0, 64, 252, 511, 1023] [0, 1, 2, 3, 4, 5, 6, 7, 8, 9, 10] [.s [] [], .s [0] [], .s [] [], .s [] [], .s [0] [], .s [] [3], .s [1] [], .s [] [], .s [3] [4, 3], .s [] [], .s [2, 4] [2]] (.a)) (.a))
noncomputable def m36 : ((Int × List (Int × Int × Int)) × Int × Int × Int) → Option (Int × List (Int × Int × Int)) :=
  fun (x : (Int × List (Int × Int × Int)) × Int × Int × Int) =>
    Option.bind (appM (nat_lit 24) [] x.1.2) fun (r : List (Int × Int × Int)) =>
      Option.bind (appM (nat_lit 24) r [(x.2.1, x.2.2.1, x.2.2.2)]) fun (r : List (Int × Int × Int)) => some (x.1.1, r)
theorem c36 : SpecOK Try.prog 36 ⟨as36, rs36, m36⟩ :=
  fnM_ok (own := []) (an := an36) (n := 400) tabs5OK (F := OPS) OPS_sound OPS_nice (f := 36) (fn := Try.f36) (code := Try.f36.body.getD .skip) (by kernel_rfl) (by kernel_rfl) (by kernel_rfl) fun x => by kernel_rfl
noncomputable def tabs36 : Tabs := Tabs.add tabs5 36 ⟨as36, rs36, m36⟩
theorem tabs36OK : TabOK Try.prog tabs36 := TabOK.add tabs5OK c36 Try.call36

/-! putlog/putloglaw09.BetweenImplies -/
def as6 : List Ty := [(.pair tI (.pair (.list tI) (.pair (.list (.pair tI (.pair tI tI))) tI))), (.pair tI (.pair tI tI)), (.list tI)]
def rs6 : List Ty := [.bool]
noncomputable def an6 : Ann := .seq (.a) (.seq (.a) (.seq (.a) (.seq (.a) (.seq (.a) (.seq (.reg [0, 1, 0, 4, 15, 0, 32, 0, 128, 511, 1023, 0, 4095] [0, 1, 2, 3, 4, 5, 6, 7, 8, 9, 10, 11, 12] [.s [] [], .s [1] [], .s [] [], .s [2] [], .s [] [], .s [] [], .s [1] [], .s [] [], .s [2] [], .s [] [], .s [] [], .s [] [3], .s [3] [3]] (.a)) (.seq (.reg [0, 0, 2, 7, 15, 0, 0, 64, 224, 480, 1023, 0, 2048, 6144, 16383, 32767, 65535, 131071] [0, 1, 2, 3, 4, 5, 6, 7, 8, 9, 10, 11, 12, 13, 14, 15, 16, 17] [.s [] [], .s [] [], .s [3] [], .s [] [], .s [] [], .s [] [], .s [] [], .s [3] [], .s [] [], .s [] [], .s [] [], .s [] [], .s [1] [], .s [] [], .s [] [], .s [] [], .s [] [], .s [3] [3]] (.a)) (.seq (.a) (.seq (.a) (.seq (.a) (.seq (.reg [0, 0, 2, 7, 15, 0, 0, 64, 224, 480, 1023, 0, 2048, 8191, 16383, 32767, 32767, 98303, 262143, 524287, 32767, 32767, 2129919, 7372799, 15761407, 33554431, 32767, 67141631, 268435455, 536870911, 1073741823] [0, 1, 2, 3, 4, 5, 6, 7, 8, 9, 10, 11, 12, 13, 14, 15, 16, 17, 18, 19, 20, 21, 22, 23, 24, 25, 26, 27, 28, 29, 30] [.s [] [], .s [] [], .s [3] [], .s [] [], .s [] [], .s [] [], .s [] [], .s [3] [], .s [] [], .s [] [], .s [] [], .s [] [], .s [3] [], .s [] [], .s [] [], .s [] [], .s [] [], .s [3] [], .s [] [], .s [] [], .s [] [], .s [] [], .s [3] [], .s [] [], .s [] [], .s [] [], .s [] [], .s [3] [], .s [] [], .s [] [], .s [] []] (.a)) (.seq (.seq (.reg [0, 0, 0, 4, 15, 31, 63, 127, 255, 511, 1023, 2047, 4095] [0, 1, 2, 3, 4, 5, 6, 7, 8, 9, 10, 11, 12] [.s [2] [], .s [3] [], .s [] [], .s [] [], .s [] [], .s [] [], .s [] [], .s [] [], .s [] [], .s [] [], .s [] [], .s [] [], .s [] []] (.a)) (.a)) (.seq (.a) (.seq (.a) (.seq (.a) (.seq (.reg [0, 1, 3, 7, 15, 31, 63, 127, 255, 255, 1023, 2047, 4095, 8191, 8191, 24575, 65535, 131071, 8191, 8191, 532479, 1843199, 3940351, 8388607, 8191, 16785407, 67108863, 134217727, 268435455] [0, 1, 2, 3, 4, 5, 6, 7, 8, 9, 10, 11, 12, 13, 14, 15, 16, 17, 18, 19, 20, 21, 22, 23, 24, 25, 26, 27, 28] [.s [] [], .s [] [], .s [] [], .s [] [], .s [] [], .s [] [], .s [] [], .s [] [], .s [2] [], .s [] [], .s [] [], .s [] [], .s [] [], .s [] [], .s [] [], .s [3] [], .s [] [], .s [] [], .s [] [], .s [] [], .s [3] [], .s [] [], .s [] [], .s [] [], .s [] [], .s [3] [], .s [] [], .s [] [], .s [] []] (.a)) (.a))))))))))))))))
noncomputable def m6 : ((Int × List Int × (List (Int × Int × Int)) × Int) × (Int × Int × Int) × List Int) → Option (Bool) :=
  fun (x : (Int × List Int × List (Int × Int × Int) × Int) × (Int × Int × Int) × List Int) =>
    Option.bind (m10 ()) fun (r : Bool) =>
      bif PE.notM r then some false
      else
        Option.bind (m12 (x.1.1, x.1.2.1, x.1.2.2.1, (0 : Int))) fun (r_1 : Int × List (Int × Int × Int)) =>
          Option.bind (m26 (x.1.1, x.1.2.1, x.1.2.2.1, (0 : Int))) fun (r_2 : List Int) =>
            Option.bind (m13 (x.2.1.1, r_1.1)) fun (r_3 : Int) =>
              Option.bind (m13 (x.2.1.2.1, r_1.1)) fun (r_4 : Int) =>
                Option.bind (idxM r_2 r_4) fun (r_5 : Int) =>
                  Option.bind (idxM r_2 r_3) fun (r_6 : Int) =>
                    Option.bind (m13 (x.2.1.2.2, (60 : Int))) fun (r_7 : Int) =>
                      Option.bind
                        (m33
                          ((r_1.1, r_1.2), r_3, r_4,
                            IntKind.wrap IntKind.i64
                              (IntKind.wrap IntKind.i64 (IntKind.wrap IntKind.i64 (r_5 - r_6) + r_7) - (20 : Int))))
                        fun (r_8 : List Int × Bool) =>
                        Option.bind (m18 (r_1.1, r_1.2)) fun (r_9 : List Int × Int) =>
                          Option.bind
                            (bif PE.notM (PE.notM (eqM r_9.2 (0 : Int))) then m27 ((r_1.1, r_1.2), r_2) else some false)
                            fun (r_10 : Bool) =>
                            bif PE.orM (PE.notM (eqM r_9.2 (0 : Int))) (PE.notM r_10) then some false
                            else
                              Option.bind (idxM r_2 r_4) fun (r_11 : Int) =>
                                Option.bind (idxM r_2 r_3) fun (r_12 : Int) =>
                                  Option.bind
                                    (bif
                                        leM (IntKind.wrap IntKind.i64 (r_11 - r_12))
                                          (IntKind.wrap IntKind.i64
                                            (IntKind.wrap IntKind.i64 (IntKind.wrap IntKind.i64 (r_5 - r_6) + r_7) -
                                              (20 : Int))) then
                                      idxM r_9.1 r_4
                                    else some (0 : Int))
                                    fun (r_13 : Int) =>
                                    Option.bind
                                      (bif
                                          leM (IntKind.wrap IntKind.i64 (r_11 - r_12))
                                            (IntKind.wrap IntKind.i64
                                              (IntKind.wrap IntKind.i64 (IntKind.wrap IntKind.i64 (r_5 - r_6) + r_7) -
                                                (20 : Int))) then
                                        idxM r_9.1 r_3
                                      else some (0 : Int))
                                      fun (r_14 : Int) =>
                                      Option.bind (m11 x.2.2) fun (r_15 : List Int) =>
                                        Option.bind
                                          (m31
                                            ((r_1.1, r_1.2),
                                              (r_3, r_4,
                                                IntKind.wrap IntKind.i64
                                                  (IntKind.wrap IntKind.i64 (IntKind.wrap IntKind.i64 (r_5 - r_6) + r_7) -
                                                    (20 : Int))),
                                              r_15))
                                          fun (r_16 : Bool) =>
                                          bif
                                              PE.andM r_16
                                                (PE.orM (PE.notM r_8.2)
                                                  (PE.notM
                                                    (PE.andM
                                                      (leM (IntKind.wrap IntKind.i64 (r_11 - r_12))
                                                        (IntKind.wrap IntKind.i64
                                                          (IntKind.wrap IntKind.i64
                                                              (IntKind.wrap IntKind.i64 (r_5 - r_6) + r_7) -
                                                            (20 : Int))))
                                                      (leM (IntKind.wrap IntKind.i64 (r_13 - r_14))
                                                        (IntKind.wrap IntKind.i64
                                                          (IntKind.wrap IntKind.i64
                                                              (IntKind.wrap IntKind.i64 (r_5 - r_6) + r_7) -
                                                            (20 : Int))))))) then
                                            some false
                                          else
                                            bif r_8.2 then
                                              Option.bind
                                                (bif
                                                    PE.andM
                                                      (leM (IntKind.wrap IntKind.i64 (r_11 - r_12))
                                                        (IntKind.wrap IntKind.i64
                                                          (IntKind.wrap IntKind.i64
                                                              (IntKind.wrap IntKind.i64 (r_5 - r_6) + r_7) -
                                                            (20 : Int))))
                                                      (leM (IntKind.wrap IntKind.i64 (r_13 - r_14))
                                                        (IntKind.wrap IntKind.i64
                                                          (IntKind.wrap IntKind.i64
                                                              (IntKind.wrap IntKind.i64 (r_5 - r_6) + r_7) -
                                                            (20 : Int)))) then
                                                  m31
                                                    ((r_1.1, r_1.2),
                                                      (r_3, r_4,
                                                        IntKind.wrap IntKind.i64
                                                          (IntKind.wrap IntKind.i64
                                                              (IntKind.wrap IntKind.i64 (r_5 - r_6) + r_7) -
                                                            (20 : Int))),
                                                      r_8.1)
                                                else some false)
                                                fun (r : Bool) =>
                                                some
                                                  (PE.andM
                                                    (PE.andM
                                                      (leM (IntKind.wrap IntKind.i64 (r_11 - r_12))
                                                        (IntKind.wrap IntKind.i64
                                                          (IntKind.wrap IntKind.i64
                                                              (IntKind.wrap IntKind.i64 (r_5 - r_6) + r_7) -
                                                            (20 : Int))))
                                                      (leM (IntKind.wrap IntKind.i64 (r_13 - r_14))
                                                        (IntKind.wrap IntKind.i64
                                                          (IntKind.wrap IntKind.i64
                                                              (IntKind.wrap IntKind.i64 (r_5 - r_6) + r_7) -
                                                            (20 : Int)))))
                                                    r)
                                            else
                                              Option.bind
                                                (m36
                                                  ((r_1.1, r_1.2), r_4, r_3,
                                                    IntKind.wrap IntKind.i64
                                                      (IntKind.wrap IntKind.i64
                                                          (negM
                                                            (IntKind.wrap IntKind.i64
                                                              (IntKind.wrap IntKind.i64
                                                                  (IntKind.wrap IntKind.i64 (r_5 - r_6) + r_7) -
                                                                (20 : Int)))) -
                                                        (1 : Int))))
                                                fun (r_17 : Int × List (Int × Int × Int)) =>
                                                Option.bind (m18 (r_17.1, r_17.2)) fun (r_18 : List Int × Int) =>
                                                  Option.bind
                                                    (bif PE.andM (eqM (lenM r_8.1) (0 : Int)) (eqM r_18.2 (0 : Int)) then
                                                      m27 ((r_1.1, r_1.2), r_18.1)
                                                    else some false)
                                                    fun (r_19 : Bool) =>
                                                    Option.bind
                                                      (bif
                                                          PE.andM
                                                            (PE.andM (eqM (lenM r_8.1) (0 : Int)) (eqM r_18.2 (0 : Int)))
                                                            r_19 then
                                                        idxM r_18.1 r_4
                                                      else some (0 : Int))
                                                      fun (r_20 : Int) =>
                                                      Option.bind
                                                        (bif
                                                            PE.andM
                                                              (PE.andM (eqM (lenM r_8.1) (0 : Int))
                                                                (eqM r_18.2 (0 : Int)))
                                                              r_19 then
                                                          idxM r_18.1 r_3
                                                        else some (0 : Int))
                                                        fun (r : Int) =>
                                                        some
                                                          (PE.andM
                                                            (PE.andM
                                                              (PE.andM (eqM (lenM r_8.1) (0 : Int))
                                                                (eqM r_18.2 (0 : Int)))
                                                              r_19)
                                                            (ltM
                                                              (IntKind.wrap IntKind.i64
                                                                (IntKind.wrap IntKind.i64
                                                                    (IntKind.wrap IntKind.i64 (r_5 - r_6) + r_7) -
                                                                  (20 : Int)))
                                                              (IntKind.wrap IntKind.i64 (r_20 - r))))
theorem c6 : SpecOK Try.prog 6 ⟨as6, rs6, m6⟩ :=
  fnM_ok (own := []) (an := an6) (n := 400) tabs36OK (F := OPS) OPS_sound OPS_nice (f := 6) (fn := Try.f6) (code := Try.f6.body.getD .skip) (by kernel_rfl) (by kernel_rfl) (by kernel_rfl) fun x => by kernel_rfl
noncomputable def tabs6 : Tabs := Tabs.add tabs36 6 ⟨as6, rs6, m6⟩
theorem tabs6OK : TabOK Try.prog tabs6 := TabOK.add tabs36OK c6 Try.call6

/-! putlog/putloglaw09.BetweenSolves -/
def as7 : List Ty := [(.pair tI (.pair (.list tI) (.pair (.list (.pair tI (.pair tI tI))) tI))), tI]
def rs7 : List Ty := [.bool]
noncomputable def an7 : Ann := .seq (.a) (.seq (.a) (.seq (.a) (.seq (.a) (.seq (.a) (.seq (.a) (.seq (.a) (.seq (.a) (.seq (.seq (.a) (.block (.loop ⟨[(9, .r (.c (.d (.d tI)))), (10, .r (.c (.d (.d tI))))], [36, 37, 38, 39, 40, 41, 42, 43, 44, 45, 46, 47], [], []⟩ [(.exit 0, ⟨[(9, .r (.c (.d (.d tI))))], [10, 36, 37, 38, 39, 40, 41, 42, 43, 44, 45, 46, 47], [], []⟩)] (.a)))) (.seq (.a) (.seq (.seq (.a) (.block (.loop ⟨[(11, .r (.c (.d (.d .bool)))), (12, .r (.c (.d (.d tI))))], [51, 52, 53, 54, 55, 56, 57, 58, 59, 60, 61, 62, 63, 64, 65, 66, 67, 68, 69, 70, 71, 72, 73, 74, 75, 76, 77, 78, 79, 80, 81, 82, 83, 84, 85], [], []⟩ [(.exit 2, ⟨[(11, .r (.c (.d (.d .bool))))], [12, 51, 52, 53, 54, 55, 56, 57, 58, 59, 60, 61, 62, 63, 64, 65, 66, 67, 68, 69, 70, 71, 72, 73, 74, 75, 76, 77, 78, 79, 80, 81, 82, 83, 84, 85], [], []⟩), (.ret, ⟨[(4, .r (.c (.d (.d .bool))))], [11, 12, 51, 52, 53, 54, 55, 56, 57, 58, 59, 60, 61, 62, 63, 64, 65, 66, 67, 68, 69, 70, 71, 72, 73, 74, 75, 76, 77, 78, 79, 80, 81, 82, 83, 84, 85], [], []⟩)] (.seq (.a) (.seq (.block (.seq (.a) (.seq (.reg [0, 0, 3, 7, 15, 31, 63, 63, 255, 511, 63, 2047, 63, 4159, 16383, 63, 63, 98367, 229439, 524287, 1048575] [0, 1, 2, 3, 4, 5, 6, 7, 8, 9, 10, 11, 12, 13, 14, 15, 16, 17, 18, 19, 20] [.s [] [], .s [] [], .s [] [], .s [] [], .s [] [], .s [] [], .s [] [], .s [] [], .s [] [], .s [] [], .s [] [], .s [] [], .s [] [], .s [] [], .s [] [], .s [] [], .s [] [], .s [] [], .s [] [], .s [] [], .s [] []] (.a)) (.a)))) (.a)))))) (.a)))))))))))
noncomputable def m7 : ((Int × List Int × (List (Int × Int × Int)) × Int) × Int) → Option (Bool) :=
  fun (x : (Int × List Int × List (Int × Int × Int) × Int) × Int) =>
    Option.bind (m10 ()) fun (r : Bool) =>
      bif PE.notM r then some false
      else
        Option.bind (m12 (x.1.1, x.1.2.1, x.1.2.2.1, (0 : Int))) fun (r_1 : Int × List (Int × Int × Int)) =>
          Option.bind (m26 (x.1.1, x.1.2.1, x.1.2.2.1, (0 : Int))) fun (r_2 : List Int) =>
            Option.bind (m18 (r_1.1, r_1.2)) fun (r_3 : List Int × Int) =>
              Option.bind (bif PE.notM (PE.notM (eqM r_3.2 (0 : Int))) then m27 ((r_1.1, r_1.2), r_3.1) else some false)
                fun (r_4 : Bool) =>
                bif PE.orM (PE.notM (eqM r_3.2 (0 : Int))) (PE.notM r_4) then some false
                else
                  Option.bind (idxM r_2 (0 : Int)) fun (r_5 : Int) =>
                    Option.bind
                      (loopM
                        (fun (s : Int × Int) =>
                          bif ltM s.2 (lenM r_2) then
                            Option.bind (idxM r_2 s.2) fun (r : Int) =>
                              some (Sum.inl (max s.1 r, IntKind.wrap IntKind.i64 (s.2 + (1 : Int))))
                          else some (Sum.inr s.1))
                        (r_5, (0 : Int)))
                      fun (o : Int) =>
                      Option.bind
                        (loopM
                          (fun (s : Bool × Int) =>
                            bif ltM s.2 (lenM r_3.1) then
                              Option.bind (bif PE.notM s.1 then idxM r_3.1 s.2 else some (0 : Int)) fun (r_6 : Int) =>
                                Option.bind (idxM r_3.1 s.2) fun (r_7 : Int) =>
                                  Option.bind (bif PE.notM (ltM (0 : Int) r_7) then idxM r_2 s.2 else some (0 : Int))
                                    fun (r_8 : Int) =>
                                    Option.bind
                                      (bif PE.notM (ltM (0 : Int) r_7) then m13 (x.2, (50 : Int)) else some (0 : Int))
                                      fun (r_9 : Int) =>
                                      Option.bind
                                        (bif PE.notM (ltM (0 : Int) r_7) then idxM r_3.1 s.2 else some (0 : Int))
                                        fun (r : Int) =>
                                        bif
                                            PE.orM (ltM (0 : Int) r_7)
                                              (ltM r
                                                (IntKind.wrap IntKind.i64
                                                  (IntKind.wrap IntKind.i64 (r_8 - o) - r_9))) then
                                          some (Sum.inr (Sum.inr false))
                                        else
                                          some
                                            (Sum.inl
                                              (PE.orM s.1 (eqM r_6 (0 : Int)),
                                                IntKind.wrap IntKind.i64 (s.2 + (1 : Int))))
                            else some (Sum.inr (Sum.inl s.1)))
                          (eqM (lenM r_3.1) (0 : Int), (0 : Int)))
                        fun (o : Bool ⊕ Bool) => Sum.elim (fun (t : Bool) => some t) (fun (t : Bool) => some t) o
theorem c7 : SpecOK Try.prog 7 ⟨as7, rs7, m7⟩ :=
  fnM_ok (own := []) (an := an7) (n := 400) tabs6OK (F := OPS) OPS_sound OPS_nice (f := 7) (fn := Try.f7) (code := Try.f7.body.getD .skip) (by kernel_rfl) (by kernel_rfl) (by kernel_rfl) fun x => by kernel_rfl
noncomputable def tabs7 : Tabs := Tabs.add tabs6 7 ⟨as7, rs7, m7⟩
theorem tabs7OK : TabOK Try.prog tabs7 := TabOK.add tabs6OK c7 Try.call7

/-! putlog/putloglaw09.BetweenMore -/
def as8 : List Ty := [(.pair tI (.pair (.list tI) (.pair (.list (.pair tI (.pair tI tI))) tI))), (.pair tI (.pair tI tI))]
def rs8 : List Ty := [.bool]
noncomputable def an8 : Ann := .seq (.a) (.seq (.a) (.seq (.a) (.seq (.a) (.seq (.a) (.seq (.reg [0, 1, 0, 4, 15, 0, 32, 0, 128, 511, 1023, 0, 4095] [0, 1, 2, 3, 4, 5, 6, 7, 8, 9, 10, 11, 12] [.s [] [], .s [1] [], .s [] [], .s [2] [], .s [] [], .s [] [], .s [1] [], .s [] [], .s [2] [], .s [] [], .s [] [], .s [] [3], .s [3] [3]] (.a)) (.seq (.reg [0, 0, 2, 7, 15, 0, 0, 64, 224, 480, 1023, 0, 2048, 6144, 16383, 32767, 65535] [0, 1, 2, 3, 4, 5, 6, 7, 8, 9, 10, 11, 12, 13, 14, 15, 16] [.s [] [], .s [] [], .s [3] [], .s [] [], .s [] [], .s [] [], .s [] [], .s [3] [], .s [] [], .s [] [], .s [] [], .s [] [], .s [1] [], .s [] [], .s [] [], .s [] [], .s [3] [3]] (.a)) (.seq (.a) (.seq (.a) (.seq (.a) (.seq (.a) (.seq (.seq (.a) (.block (.loop ⟨[(14, .r (.c (.d (.d tI))))], [15, 88, 89, 90, 91, 92, 93, 94, 95, 96, 97, 98, 99, 100, 101, 102, 103, 104, 105, 106, 107, 108, 109, 110, 111, 112, 113, 114], [], []⟩ [(.exit 0, ⟨[], [14, 15, 88, 89, 90, 91, 92, 93, 94, 95, 96, 97, 98, 99, 100, 101, 102, 103, 104, 105, 106, 107, 108, 109, 110, 111, 112, 113, 114], [], []⟩), (.ret, ⟨[(4, .r (.c (.d (.d .bool))))], [14, 15, 88, 89, 90, 91, 92, 93, 94, 95, 96, 97, 98, 99, 100, 101, 102, 103, 104, 105, 106, 107, 108, 109, 110, 111, 112, 113, 114], [], []⟩)] (.seq (.a) (.seq (.block (.seq (.a) (.block (.loop ⟨[(15, .r (.c (.d (.d tI))))], [94, 95, 96, 97, 98, 99, 100, 101, 102, 103, 104, 105, 106, 107, 108, 109, 110, 111, 112, 113, 114], [], []⟩ [(.exit 2, ⟨[], [15, 94, 95, 96, 97, 98, 99, 100, 101, 102, 103, 104, 105, 106, 107, 108, 109, 110, 111, 112, 113, 114], [], []⟩), (.ret, ⟨[(4, .r (.c (.d (.d .bool))))], [15, 94, 95, 96, 97, 98, 99, 100, 101, 102, 103, 104, 105, 106, 107, 108, 109, 110, 111, 112, 113, 114], [], []⟩)] (.seq (.a) (.seq (.block (.seq (.reg [0, 0, 3, 7, 0, 31, 63, 0, 0, 384, 896, 0, 3968, 8064, 16383] [0, 1, 2, 3, 4, 5, 6, 7, 8, 9, 10, 11, 12, 13, 14] [.s [] [], .s [] [], .s [] [], .s [] [], .s [] [], .s [] [], .s [] [], .s [] [], .s [] [], .s [] [], .s [] [], .s [] [], .s [] [], .s [] [], .s [] []] (.a)) (.a))) (.a))))))) (.a)))))) (.a))))))))))))
noncomputable def m8 : ((Int × List Int × (List (Int × Int × Int)) × Int) × Int × Int × Int) → Option (Bool) :=
  fun (x : (Int × List Int × List (Int × Int × Int) × Int) × Int × Int × Int) =>
    Option.bind (m10 ()) fun (r : Bool) =>
      bif PE.notM r then some false
      else
        Option.bind (m12 (x.1.1, x.1.2.1, x.1.2.2.1, (0 : Int))) fun (r_1 : Int × List (Int × Int × Int)) =>
          Option.bind (m26 (x.1.1, x.1.2.1, x.1.2.2.1, (0 : Int))) fun (r_2 : List Int) =>
            Option.bind (m13 (x.2.1, r_1.1)) fun (r_3 : Int) =>
              Option.bind (m13 (x.2.2.1, r_1.1)) fun (r_4 : Int) =>
                Option.bind (idxM r_2 r_4) fun (r_5 : Int) =>
                  Option.bind (idxM r_2 r_3) fun (r_6 : Int) =>
                    Option.bind (m13 (x.2.2.2, (60 : Int))) fun (r_7 : Int) =>
                      Option.bind
                        (m33
                          ((r_1.1, r_1.2), r_3, r_4,
                            IntKind.wrap IntKind.i64 (IntKind.wrap IntKind.i64 (r_5 - r_6) + r_7)))
                        fun (r_8 : List Int × Bool) =>
                        Option.bind (m16 (r_1.1, r_1.2)) fun (r_9 : List (List Int) × Int) =>
                          Option.bind
                            (m36
                              ((r_1.1, r_1.2), r_3, r_4,
                                IntKind.wrap IntKind.i64 (IntKind.wrap IntKind.i64 (r_5 - r_6) + r_7)))
                            fun (r_10 : Int × List (Int × Int × Int)) =>
                            Option.bind (m16 (r_10.1, r_10.2)) fun (r_11 : List (List Int) × Int) =>
                              bif
                                  PE.orM
                                    (PE.orM (PE.orM (PE.notM (eqM r_9.2 (0 : Int))) (PE.notM (eqM r_11.2 (0 : Int))))
                                      (PE.notM (eqM (lenM r_9.1) r_1.1)))
                                    (PE.notM (eqM (lenM r_11.1) r_1.1)) then
                                some false
                              else
                                Option.bind
                                  (loopM
                                    (fun (s : Int) =>
                                      bif ltM s r_1.1 then
                                        Option.bind
                                          (loopM
                                            (fun (s_1 : Int) =>
                                              bif ltM s_1 r_1.1 then
                                                Option.bind (idxM r_11.1 s) fun (r_12 : List Int) =>
                                                  Option.bind (idxM r_12 s_1) fun (r_13 : Int) =>
                                                    Option.bind (idxM r_9.1 s) fun (r_14 : List Int) =>
                                                      Option.bind (idxM r_14 s_1) fun (r : Int) =>
                                                        bif ltM r r_13 then some (Sum.inr (Sum.inr false))
                                                        else some (Sum.inl (IntKind.wrap IntKind.i64 (s_1 + (1 : Int))))
                                              else some (Sum.inr (Sum.inl ())))
                                            (0 : Int))
                                          fun (o : Unit ⊕ Bool) =>
                                          Sum.elim
                                            (fun (t : Unit) => some (Sum.inl (IntKind.wrap IntKind.i64 (s + (1 : Int)))))
                                            (fun (t : Bool) => some (Sum.inr (Sum.inr t))) o
                                      else some (Sum.inr (Sum.inl ())))
                                    (0 : Int))
                                  fun (o : Unit ⊕ Bool) =>
                                  Sum.elim
                                    (fun (t : Unit) =>
                                      Option.bind (m24 (r_11.1, r_9.1)) fun (r : Bool) => some (eqbM r_8.2 r))
                                    (fun (t : Bool) => some t) o
theorem c8 : SpecOK Try.prog 8 ⟨as8, rs8, m8⟩ :=
  fnM_ok (own := []) (an := an8) (n := 400) tabs7OK (F := OPS) OPS_sound OPS_nice (f := 8) (fn := Try.f8) (code := Try.f8.body.getD .skip) (by kernel_rfl) (by kernel_rfl) (by kernel_rfl) fun x => by kernel_rfl
noncomputable def tabs8 : Tabs := Tabs.add tabs7 8 ⟨as8, rs8, m8⟩
theorem tabs8OK : TabOK Try.prog tabs8 := TabOK.add tabs7OK c8 Try.call8

/-! putlog/putloglaw09.BetweenMirrors -/
def as9 : List Ty := [(.pair tI (.pair (.list tI) (.pair (.list (.pair tI (.pair tI tI))) tI))), (.list tI), tI]
def rs9 : List Ty := [.bool]
noncomputable def an9 : Ann := .seq (.a) (.seq (.a) (.seq (.a) (.seq (.a) (.seq (.seq (.a) (.block (.loop ⟨[(9, .r (.c (.d (.d tI))))], [29, 30, 31, 32, 33, 34, 35, 36, 37, 38, 39, 40, 41, 42, 43, 44, 45, 46, 47, 48, 49, 50, 51, 52, 53, 54, 55, 56, 57, 58, 59], [(2, .box [.d (.d tI), .h 3])], [.arr (.pair tI (.pair tI tI))]⟩ [(.exit 0, ⟨[], [9, 29, 30, 31, 32, 33, 34, 35, 36, 37, 38, 39, 40, 41, 42, 43, 44, 45, 46, 47, 48, 49, 50, 51, 52, 53, 54, 55, 56, 57, 58, 59], [(2, .box [.d (.d tI), .h 3])], [.arr (.pair tI (.pair tI tI))]⟩)] (.seq (.a) (.seq (.block (.reg [0, 1, 0, 4, 0, 28, 60, 124, 0, 256, 0, 1792, 3840, 7936, 0, 16384, 0, 114688, 245760, 507904, 1048572, 2097148, 4194303, 8388607, 16777215] [0, 1, 2, 3, 4, 5, 6, 7, 8, 9, 10, 11, 12, 13, 14, 15, 16, 17, 18, 19, 20, 21, 22, 23, 24] [.s [] [], .s [2] [], .s [] [], .s [1] [], .s [] [], .s [] [], .s [] [], .s [] [], .s [] [], .s [1] [], .s [] [], .s [] [], .s [] [], .s [] [], .s [] [], .s [1] [], .s [] [], .s [] [], .s [] [], .s [] [], .s [] [], .s [] [], .s [3] [4, 3], .s [] [], .s [2, 4] [2]] (.a))) (.a)))))) (.seq (.reg [] [] [.s [0] [], .r, .s [] []] (.call [] [] (.seq (.a) (.seq (.a) (.seq (.seq (.a) (.block (.loop ⟨[(3, .r (.c (.h 5))), (4, .r (.c (.d (.d tI))))], [5, 6, 7, 8, 9, 10, 11, 12, 13, 14, 15, 16, 17, 18, 19, 20, 21, 22, 23, 24, 25, 26, 27, 28, 29], [], [.arr tI]⟩ [(.exit 0, ⟨[(3, .r (.c (.h 5)))], [4, 5, 6, 7, 8, 9, 10, 11, 12, 13, 14, 15, 16, 17, 18, 19, 20, 21, 22, 23, 24, 25, 26, 27, 28, 29], [], [.arr tI]⟩)] (.seq (.a) (.seq (.block (.seq (.a) (.seq (.join [(.norm, ⟨[(5, .r (.c (.d (.d tI))))], [14, 15, 16, 17, 18, 19, 20, 21, 22, 23, 24, 25], [], []⟩)] (.a)) (.a)))) (.a)))))) (.a)))) (.a))) (.seq (.seq (.a) (.block (.loop ⟨[(11, .r (.c (.d (.d tI))))], [62, 63, 64, 65, 66, 67, 68, 69, 70, 71, 72, 73, 74, 75, 76, 77, 78, 79, 80, 81, 82, 83, 84, 85, 86, 87], [(5, .arr tI)], []⟩ [(.exit 2, ⟨[], [11, 62, 63, 64, 65, 66, 67, 68, 69, 70, 71, 72, 73, 74, 75, 76, 77, 78, 79, 80, 81, 82, 83, 84, 85, 86, 87], [(5, .arr tI)], []⟩)] (.seq (.a) (.seq (.block (.reg [0, 0, 0, 0, 12, 28, 0, 0, 192, 448, 960, 2044, 4092, 8191, 16383] [0, 1, 2, 3, 4, 5, 6, 7, 8, 9, 10, 11, 12, 13, 14] [.s [] [], .s [] [], .s [] [], .s [] [], .s [5] [], .s [5] [], .s [] [], .s [] [], .s [] [], .s [] [], .s [] [], .s [] [], .s [] [], .s [5] [], .s [5] [5]] (.a))) (.a)))))) (.seq (.a) (.seq (.a) (.seq (.seq (.a) (.block (.loop ⟨[(12, .r (.c (.h 6))), (13, .r (.c (.h 7))), (14, .r (.c (.d (.d tI))))], [88, 89, 90, 91, 92, 93, 94, 95, 96, 97, 98, 99, 100, 101, 102, 103, 104, 105, 106, 107, 108, 109, 110, 111, 112], [], [.arr tI, .arr tI]⟩ [(.exit 4, ⟨[(12, .r (.c (.h 6))), (13, .r (.c (.h 7)))], [14, 88, 89, 90, 91, 92, 93, 94, 95, 96, 97, 98, 99, 100, 101, 102, 103, 104, 105, 106, 107, 108, 109, 110, 111, 112], [], [.arr tI, .arr tI]⟩)] (.seq (.a) (.seq (.block (.seq (.reg [0, 0, 0, 6, 14, 0, 32, 126, 254, 510, 1023, 2047] [0, 1, 2, 3, 4, 5, 6, 7, 8, 9, 10, 11] [.s [] [], .s [] [], .s [] [], .s [5] [], .s [5] [], .s [] [], .s [] [], .s [] [], .s [] [], .s [] [], .s [6] [8, 6], .s [] []] (.a)) (.a))) (.a)))))) (.seq (.a) (.seq (.a) (.seq (.a) (.seq (.a) (.seq (.a) (.seq (.seq (.a) (.block (.loop ⟨[(20, .r (.c (.d (.d tI))))], [21, 148, 149, 150, 151, 152, 153, 154, 155, 156, 157, 158, 159, 160, 161, 162, 163, 164, 165, 166, 167, 168, 169, 170, 171, 172, 173, 174, 175, 176, 177, 178, 179, 180, 181, 182, 183, 184, 185, 186, 187, 188, 189, 190, 191, 192, 193, 194], [], []⟩ [(.exit 6, ⟨[], [20, 21, 148, 149, 150, 151, 152, 153, 154, 155, 156, 157, 158, 159, 160, 161, 162, 163, 164, 165, 166, 167, 168, 169, 170, 171, 172, 173, 174, 175, 176, 177, 178, 179, 180, 181, 182, 183, 184, 185, 186, 187, 188, 189, 190, 191, 192, 193, 194], [], []⟩), (.ret, ⟨[(6, .r (.c (.d (.d .bool))))], [20, 21, 148, 149, 150, 151, 152, 153, 154, 155, 156, 157, 158, 159, 160, 161, 162, 163, 164, 165, 166, 167, 168, 169, 170, 171, 172, 173, 174, 175, 176, 177, 178, 179, 180, 181, 182, 183, 184, 185, 186, 187, 188, 189, 190, 191, 192, 193, 194], [], []⟩)] (.seq (.a) (.seq (.block (.seq (.a) (.block (.loop ⟨[(21, .r (.c (.d (.d tI))))], [154, 155, 156, 157, 158, 159, 160, 161, 162, 163, 164, 165, 166, 167, 168, 169, 170, 171, 172, 173, 174, 175, 176, 177, 178, 179, 180, 181, 182, 183, 184, 185, 186, 187, 188, 189, 190, 191, 192, 193, 194], [], []⟩ [(.exit 8, ⟨[], [21, 154, 155, 156, 157, 158, 159, 160, 161, 162, 163, 164, 165, 166, 167, 168, 169, 170, 171, 172, 173, 174, 175, 176, 177, 178, 179, 180, 181, 182, 183, 184, 185, 186, 187, 188, 189, 190, 191, 192, 193, 194], [], []⟩), (.ret, ⟨[(6, .r (.c (.d (.d .bool))))], [21, 154, 155, 156, 157, 158, 159, 160, 161, 162, 163, 164, 165, 166, 167, 168, 169, 170, 171, 172, 173, 174, 175, 176, 177, 178, 179, 180, 181, 182, 183, 184, 185, 186, 187, 188, 189, 190, 191, 192, 193, 194], [], []⟩)] (.seq (.a) (.seq (.block (.seq (.reg [0, 0, 3, 7, 15, 0, 32, 127, 255, 511, 511, 2047, 4095, 8191, 511, 16895, 65535, 131071, 262143, 524287, 524287, 2097151, 4194303, 524287, 16777215, 33554431, 524287, 524287, 201850879, 470286335, 524287, 2080899071, 4228382719, 8589934591, 17179869183] [0, 1, 2, 3, 4, 5, 6, 7, 8, 9, 10, 11, 12, 13, 14, 15, 16, 17, 18, 19, 20, 21, 22, 23, 24, 25, 26, 27, 28, 29, 30, 31, 32, 33, 34] [.s [] [], .s [] [], .s [] [], .s [] [], .s [] [], .s [] [], .s [] [], .s [] [], .s [] [], .s [] [], .s [] [], .s [] [], .s [] [], .s [] [], .s [] [], .s [] [], .s [] [], .s [] [], .s [] [], .s [] [], .s [] [], .s [] [], .s [] [], .s [] [], .s [] [], .s [] [], .s [] [], .s [] [], .s [] [], .s [] [], .s [] [], .s [] [], .s [] [], .s [] [], .s [] []] (.a)) (.a))) (.a))))))) (.a)))))) (.a))))))))))))))))
noncomputable def m9 : ((Int × List Int × (List (Int × Int × Int)) × Int) × List Int × Int) → Option (Bool) :=
  fun (x : (Int × List Int × List (Int × Int × Int) × Int) × List Int × Int) =>
    Option.bind (m10 ()) fun (r : Bool) =>
      bif PE.notM r then some false
      else
        Option.bind (m12 (x.1.1, x.1.2.1, x.1.2.2.1, x.1.2.2.2)) fun (r_1 : Int × List (Int × Int × Int)) =>
          Option.bind
            (loopM
              (fun (s : Int × Int × List (Int × Int × Int)) =>
                bif ltM s.1 (lenM r_1.2) then
                  Option.bind (idxM r_1.2 s.1) fun (r_2 : Int × Int × Int) =>
                    Option.bind (idxM r_1.2 s.1) fun (r_3 : Int × Int × Int) =>
                      Option.bind (idxM r_1.2 s.1) fun (r_4 : Int × Int × Int) =>
                        Option.bind (appM (nat_lit 24) s.2.2 [(r_2.2.1, r_3.1, r_4.2.2)])
                          fun (r : List (Int × Int × Int)) =>
                          some (Sum.inl (IntKind.wrap IntKind.i64 (s.1 + (1 : Int)), s.2.1, r))
                else some (Sum.inr (s.2.1, s.2.2)))
              ((0 : Int), r_1.1, []))
            fun (o : Int × List (Int × Int × Int)) =>
            Option.bind
              (loopM
                (fun (s : Int × List Int) =>
                  Option.bind (m38 (x.1.1, (8 : Int))) fun (r_2 : Int) =>
                    bif ltM s.1 (IntKind.wrap IntKind.i64 ((1 : Int) + r_2)) then
                      Option.bind
                        (bif ltM s.1 (lenM x.1.2.1) then
                          Option.bind (idxM x.1.2.1 s.1) fun (r_3 : Int) =>
                            Option.bind (m38 (r_3, (200 : Int))) fun (r : Int) =>
                              some (IntKind.wrap IntKind.i64 (r - (100 : Int)))
                        else some (0 : Int))
                        fun (o_1 : Int) =>
                        Option.bind (appM (nat_lit 8) s.2 [o_1]) fun (r : List Int) =>
                          some (Sum.inl (IntKind.wrap IntKind.i64 (s.1 + (1 : Int)), r))
                    else some (Sum.inr s.2))
                ((0 : Int), []))
              fun (o_1 : List Int) =>
              Option.bind
                (loopM
                  (fun (s : Int × List Int) =>
                    bif PE.andM (ltM s.1 (lenM s.2)) (ltM s.1 (lenM x.2.1)) then
                      Option.bind (chkM s.1 (lenM s.2)) fun (r_2 : Unit) =>
                        Option.bind (idxM s.2 s.1) fun (r_3 : Int) =>
                          Option.bind (idxM x.2.1 s.1) fun (r_4 : Int) =>
                            Option.bind (m13 (r_4, (21 : Int))) fun (r_5 : Int) =>
                              Option.bind (chkM s.1 (lenM s.2)) fun (r_6 : Unit) =>
                                Option.bind
                                  (setM s.2 s.1 fun (x : Int) =>
                                    some (IntKind.wrap IntKind.i64 (IntKind.wrap IntKind.i64 (r_3 + r_5) - (10 : Int))))
                                  fun (r : List Int) => some (Sum.inl (IntKind.wrap IntKind.i64 (s.1 + (1 : Int)), r))
                    else some (Sum.inr s.2))
                  ((0 : Int), o_1))
                fun (o_2 : List Int) =>
                Option.bind
                  (loopM
                    (fun (s : Int × List Int × List Int) =>
                      bif ltM s.1 (lenM o_2) then
                        Option.bind (chkM s.1 (lenM o_2)) fun (r_2 : Unit) =>
                          Option.bind (idxM o_2 s.1) fun (r_3 : Int) =>
                            Option.bind (m13 (x.2.2, (1000000 : Int))) fun (r_4 : Int) =>
                              Option.bind
                                (appM (nat_lit 8) s.2.1
                                  [IntKind.wrap IntKind.i64 (IntKind.wrap IntKind.i64 (r_3 + r_4) - (500000 : Int))])
                                fun (r_5 : List Int) =>
                                Option.bind (chkM s.1 (lenM o_2)) fun (r_6 : Unit) =>
                                  Option.bind (idxM o_2 s.1) fun (r_7 : Int) =>
                                    Option.bind (appM (nat_lit 8) s.2.2 [IntKind.wrap IntKind.i64 (negM r_7)])
                                      fun (r : List Int) =>
                                      some (Sum.inl (IntKind.wrap IntKind.i64 (s.1 + (1 : Int)), r_5, r))
                      else some (Sum.inr (s.2.1, s.2.2)))
                    ((0 : Int), [], []))
                  fun (o_3 : List Int × List Int) =>
                  Option.bind (m27 ((r_1.1, r_1.2), o_2)) fun (r_2 : Bool) =>
                    Option.bind (m27 ((r_1.1, r_1.2), o_3.1)) fun (r_3 : Bool) =>
                      Option.bind (bif PE.notM (PE.notM (eqbM r_3 r_2)) then m27 ((o.1, o.2), o_3.2) else some false)
                        fun (r_4 : Bool) =>
                        bif PE.orM (PE.notM (eqbM r_3 r_2)) (PE.notM (eqbM r_4 r_2)) then some false
                        else
                          Option.bind (m16 (r_1.1, r_1.2)) fun (r_5 : List (List Int) × Int) =>
                            Option.bind (m16 (o.1, o.2)) fun (r_6 : List (List Int) × Int) =>
                              bif PE.orM (PE.notM (eqM r_5.2 r_6.2)) (PE.notM (eqM (lenM r_5.1) (lenM r_6.1))) then
                                some false
                              else
                                Option.bind
                                  (loopM
                                    (fun (s : Int) =>
                                      bif ltM s (lenM r_5.1) then
                                        Option.bind
                                          (loopM
                                            (fun (s_1 : Int) =>
                                              bif ltM s_1 (lenM r_5.1) then
                                                Option.bind (idxM r_5.1 s) fun (r_7 : List Int) =>
                                                  Option.bind
                                                    (bif PE.notM (PE.notM (eqM (lenM r_7) (lenM r_5.1))) then
                                                      idxM r_6.1 s_1
                                                    else some [])
                                                    fun (r_8 : List Int) =>
                                                    Option.bind
                                                      (bif
                                                          PE.notM
                                                            (PE.orM (PE.notM (eqM (lenM r_7) (lenM r_5.1)))
                                                              (PE.notM (eqM (lenM r_8) (lenM r_5.1)))) then
                                                        idxM r_5.1 s
                                                      else some [])
                                                      fun (r_9 : List Int) =>
                                                      Option.bind
                                                        (bif
                                                            PE.notM
                                                              (PE.orM (PE.notM (eqM (lenM r_7) (lenM r_5.1)))
                                                                (PE.notM (eqM (lenM r_8) (lenM r_5.1)))) then
                                                          idxM r_9 s_1
                                                        else some (0 : Int))
                                                        fun (r_10 : Int) =>
                                                        Option.bind
                                                          (bif
                                                              PE.notM
                                                                (PE.orM (PE.notM (eqM (lenM r_7) (lenM r_5.1)))
                                                                  (PE.notM (eqM (lenM r_8) (lenM r_5.1)))) then
                                                            idxM r_6.1 s_1
                                                          else some [])
                                                          fun (r_11 : List Int) =>
                                                          Option.bind
                                                            (bif
                                                                PE.notM
                                                                  (PE.orM (PE.notM (eqM (lenM r_7) (lenM r_5.1)))
                                                                    (PE.notM (eqM (lenM r_8) (lenM r_5.1)))) then
                                                              idxM r_11 s
                                                            else some (0 : Int))
                                                            fun (r : Int) =>
                                                            bif
                                                                PE.orM
                                                                  (PE.orM (PE.notM (eqM (lenM r_7) (lenM r_5.1)))
                                                                    (PE.notM (eqM (lenM r_8) (lenM r_5.1))))
                                                                  (PE.notM (eqM r_10 r)) then
                                                              some (Sum.inr (Sum.inr false))
                                                            else
                                                              some (Sum.inl (IntKind.wrap IntKind.i64 (s_1 + (1 : Int))))
                                              else some (Sum.inr (Sum.inl ())))
                                            (0 : Int))
                                          fun (o : Unit ⊕ Bool) =>
                                          Sum.elim
                                            (fun (t : Unit) => some (Sum.inl (IntKind.wrap IntKind.i64 (s + (1 : Int)))))
                                            (fun (t : Bool) => some (Sum.inr (Sum.inr t))) o
                                      else some (Sum.inr (Sum.inl ())))
                                    (0 : Int))
                                  fun (o : Unit ⊕ Bool) =>
                                  Sum.elim (fun (t : Unit) => some (PE.orM (eqM r_5.2 (0 : Int)) (PE.notM r_2)))
                                    (fun (t : Bool) => some t) o
theorem c9 : SpecOK Try.prog 9 ⟨as9, rs9, m9⟩ :=
  fnM_ok (own := []) (an := an9) (n := 400) (TabOK.drop tabs8OK [26]) (F := OPS) OPS_sound OPS_nice (f := 9) (fn := Try.f9) (code := Try.f9.body.getD .skip) (by kernel_rfl) (by kernel_rfl) (by kernel_rfl) fun x => by kernel_rfl
noncomputable def tabs9 : Tabs := Tabs.add tabs8 9 ⟨as9, rs9, m9⟩
theorem tabs9OK : TabOK Try.prog tabs9 := TabOK.add tabs8OK c9 Try.call9
end Go.Proofs.Ytadcohacnmicjaa
/-
  Models that can be run: a loop with a bound on its rounds answers less than the loop.
  No conditions.
-/
namespace Go.PE
/-- a answers no more than b. -/
def Le {α : Type} (a b : Option α) : Prop := ∀ r, a = some r → b = some r
theorem Le.refl {α : Type} (a : Option α) : Le a a := fun _ h => h
theorem Le.bind {α β : Type} {a a' : Option α} {f f' : α → Option β} (h : Le a a') (hf : ∀ x, Le (f x) (f' x)) : Le (Option.bind a f) (Option.bind a' f') := by
  intro r hr
  cases a with
  | none => cases hr
  | some x =>
    rw [h x rfl]
    exact hf x r hr
theorem Le.cond {α : Type} {c : Bool} {a a' b b' : Option α} (h : Le a a') (h' : Le b b') : Le (cond c a b) (cond c a' b') := by
  cases c
  · exact h'
  · exact h
theorem Le.elim {α β γ : Type} {f f' : α → Option γ} {g g' : β → Option γ} (hf : ∀ x, Le (f x) (f' x)) (hg : ∀ x, Le (g x) (g' x)) (x : α ⊕ β) : Le (Sum.elim f g x) (Sum.elim f' g' x) := by
  cases x with
  | inl a => exact hf a
  | inr b => exact hg b
theorem Le.iter {σ β : Type} {body body' : σ → Option (σ ⊕ β)} (h : ∀ s, Le (body s) (body' s)) : ∀ (n : Nat) (s : σ), Le (iterM body n s) (iterM body' n s)
  | 0, _ => Le.refl _
  | n + 1, s => by
    unfold iterM
    exact Le.bind (h s) fun x => Le.elim (Le.iter h n) (fun _ => Le.refl _) x
/-- A loop of at most 4096 rounds. -/
def loopF {σ β : Type} (body : σ → Option (σ ⊕ β)) (s : σ) : Option β := iterM body 4096 s
theorem Le.loop {σ β : Type} {body body' : σ → Option (σ ⊕ β)} (h : ∀ s, Le (body s) (body' s)) (s : σ) : Le (loopF body s) (loopM body' s) :=
  fun r hr => loopM_iff.2 ⟨4096, Le.iter h 4096 s r hr⟩
theorem Le.out {α : Type} {a b : Option α} (h : Le a b) {r : α} (e : a = some r) : b = some r := h r e
attribute [irreducible] Le
end Go.PE
/-
  What is known of a law's arguments (ranges, lengths), and plain laws of the words of models.
  No conditions.
-/
namespace Go.PE
open Go Go.Abs
/-- Integers are in their ranges, lists are not longer than a slice can be. -/
def InR : (t : Ty) → t.den → Prop
  | .int k, x => k.has x
  | .bool, _ => True
  | .str, x => List.length x ≤ maxLen
  | .list t, xs => List.length xs ≤ maxLen ∧ ∀ (i : Nat) (x : t.den), xs[i]? = some x → InR t x
  | .one t, x => InR t x
  | .pair a b, x => InR a x.1 ∧ InR b x.2
def OkT : (l : List Ty) → Tup (l.map .d) → Prop
  | [], _ => True
  | [t], x => InR t x
  | t :: u :: r, x => InR t x.1 ∧ OkT (u :: r) x.2
section
variable {S : Cells} {w : World} {η : Eta}
theorem Rep.ok : ∀ {t : Ty} {x : t.den} {cs : List Value}, Rep S w t x cs → InR t x
  | .int _, _, _, h => h.2
  | .bool, _, _, _ => trivial
  | .str, _, _, h => h.2
  | .list t, xs, _, h => by
    obtain ⟨base, cap, rfl, h1, h2, h3⟩ := h
    refine ⟨Nat.le_trans h1 h2, fun i x hx => ?_⟩
    rcases h3 with h3 | ⟨b, off, _, h3⟩
    · have : xs = [] := List.length_eq_zero_iff.1 h3
      rw [this] at hx
      cases hx
    · obtain ⟨es, h4, _⟩ := h3 i x hx
      exact Rep.ok h4
  | .one t, x, cs, h => by
    have h' : Rep S w t x cs := h
    exact Rep.ok (t := t) h'
  | .pair a b, x, cs, h => by
    obtain ⟨c1, c2, rfl, h1, h2⟩ := h
    exact ⟨Rep.ok h1, Rep.ok h2⟩
theorem cv_ok : ∀ {t : Ty} {x : t.den} {vs : List Value}, All2 (CM S w η) (t.cv x) vs → InR t x
  | .int _, _, _, .cons h .nil => let ⟨_, a, _⟩ := h.2; Rep.ok a
  | .bool, _, _, _ => trivial
  | .str, _, _, .cons h .nil => let ⟨_, a, _⟩ := h.2; Rep.ok a
  | .list _, _, _, .cons h .nil => let ⟨_, a, _⟩ := h.2; Rep.ok a
  | .one t, x, vs, h => by
    have h' : All2 (CM S w η) (t.cv x) vs := h
    exact cv_ok (t := t) h'
  | .pair a b, x, vs, h => by
    have h' : All2 (CM S w η) (a.cv x.1 ++ b.cv x.2) vs := h
    obtain ⟨b1, b2, rfl, h1, h2⟩ := All2.split h'
    exact ⟨cv_ok h1, cv_ok h2⟩
theorem rv_ok {t : Ty} {x : t.den} {v : Value} (h : RM S w η (t.rv x) v) : InR t x := by
  unfold Ty.rv at h
  split at h
  · obtain ⟨vs, _, h2⟩ := h
    exact cv_ok h2
  · obtain ⟨_, cs, h2, _⟩ := h
    exact Rep.ok h2
theorem rvs_ok : ∀ {l : List Ty} {x : Tup (l.map .d)} {vs : List Value}, All2 (RM S w η) (rvs l x) vs → OkT l x
  | [], _, _, _ => trivial
  | [t], x, _, .cons h .nil => rv_ok h
  | t :: u :: r, x, _, h => by
    have h' : All2 (RM S w η) (t.rv x.1 :: rvs (u :: r) x.2) _ := h
    cases h' with
    | cons h1 h2 => exact ⟨rv_ok h1, rvs_ok (l := u :: r) h2⟩
end
/-- A law whose model is true of all data in range. -/
theorem law_of_ok {args : List Ty} {m : Tup (args.map .d) → Option Bool} (h : ∀ x, OkT args x → m x = some true) :
    ∀ (S : Cells) (w : World) (η : Eta) (vs : List Value) x, All2 (RM S w η) (rvs args x) vs → m x = some true := fun _ _ _ _ x hx => h x (rvs_ok hx)

/-! ### words -/
theorem wrap_in {n : Int} (h1 : -9223372036854775808 ≤ n) (h2 : n ≤ 9223372036854775807) : IntKind.wrap IntKind.i64 n = n := Go.IntWalk.i64_in n ⟨h1, h2⟩
theorem idxM_nat {α : Type} (xs : List α) (i : Nat) : idxM xs (i : Int) = xs[i]? := by
  unfold idxM
  rw [decide_eq_true (by omega : (0 : Int) ≤ i)]
  simp
theorem idxM_lt {α : Type} {xs : List α} {i : Nat} (h : i < xs.length) : idxM xs (i : Int) = some xs[i] := by
  rw [idxM_nat, List.getElem?_eq_getElem h]
theorem idxM_of {α : Type} {xs : List α} {i : Int} (h0 : 0 ≤ i) (h : i < xs.length) : idxM xs i = some (xs[i.toNat]'(by omega)) := by
  unfold idxM
  rw [decide_eq_true h0]
  exact List.getElem?_eq_getElem _
theorem chkM_of {i n : Int} (h0 : 0 ≤ i) (h : i < n) : chkM i n = some () := by
  unfold chkM
  rw [decide_eq_true h0, decide_eq_true h]
theorem appM_of {α : Type} {b : Nat} {xs ys : List α} (h : (xs.length + ys.length) * b ≤ 140737488355328) : appM b xs ys = some (xs ++ ys) := by
  unfold appM
  rw [decide_eq_true h]
theorem mkM_of {α : Type} {n c : Int} {b : Nat} {d : α} (h0 : 0 ≤ n) (h : n ≤ c) (hb : c * b ≤ 140737488355328) : mkM n c b d = some (List.replicate n.toNat d) := by
  unfold mkM
  rw [decide_eq_true h0, decide_eq_true h, decide_eq_true hb]
theorem setM_of {α : Type} {xs : List α} {i : Int} {f : α → Option α} {y : α} (h0 : 0 ≤ i) (h : i < xs.length) (hy : f (xs[i.toNat]'(by omega)) = some y) : setM xs i f = some (xs.set i.toNat y) := by
  unfold setM
  rw [idxM_of h0 h]
  simp only [hy]
theorem sliceM_of {α : Type} {xs : List α} {lo hi : Int} (h0 : 0 ≤ lo) (h : lo ≤ hi) (h2 : hi ≤ xs.length) : sliceM xs lo hi = some ((xs.take hi.toNat).drop lo.toNat) := by
  unfold sliceM
  rw [decide_eq_true h0, decide_eq_true h, decide_eq_true h2]
theorem sameM_self (i : Int) : sameM i i = some () := by
  unfold sameM
  rw [decide_eq_true rfl]
theorem set2M_of {α : Type} {xss : List (List α)} {i j : Int} {f : α → Option α} {y : α} (h0 : 0 ≤ i) (h : i < xss.length) (h1 : 0 ≤ j) (h2 : j < (xss[i.toNat]'(by omega)).length)
    (hy : f ((xss[i.toNat]'(by omega))[j.toNat]'(by omega)) = some y) : set2M xss i j f = some (xss.set i.toNat ((xss[i.toNat]'(by omega)).set j.toNat y)) := by
  unfold set2M
  rw [idxM_of h0 h]
  simp only [setM_of h1 h2 hy]
theorem app2M_of {α : Type} {b : Nat} {xss : List (List α)} {i : Int} {ys : List α} (h0 : 0 ≤ i) (h : i < xss.length) (hb : ((xss[i.toNat]'(by omega)).length + ys.length) * b ≤ 140737488355328) :
    app2M b xss i ys = some (xss.set i.toNat ((xss[i.toNat]'(by omega)) ++ ys)) := by
  unfold app2M
  rw [idxM_of h0 h]
  simp only [appM_of hb]
/-- A loop by an invariant on a count of its rounds. -/
theorem loopM_inv {σ β : Type} {body : σ → Option (σ ⊕ β)} (P : Nat → σ → Prop) (Q : β → Prop) (n : Nat)
    (h : ∀ k s, k ≤ n → P k s → (∃ s', k < n ∧ body s = some (.inl s') ∧ P (k + 1) s') ∨ ∃ r, body s = some (.inr r) ∧ Q r) :
    ∀ (m k : Nat) (s : σ), n - k = m → k ≤ n → P k s → ∃ r, loopM body s = some r ∧ Q r := by
  intro m
  induction m with
  | zero =>
    intro k s hm hk hP
    rcases h k s hk hP with ⟨s', hlt, _⟩ | ⟨r, h1, h2⟩
    · omega
    · exact ⟨r, by rw [loopM_eq, h1]; rfl, h2⟩
  | succ m ih =>
    intro k s hm hk hP
    rcases h k s hk hP with ⟨s', hlt, h1, h2⟩ | ⟨r, h1, h2⟩
    · obtain ⟨r, h3, h4⟩ := ih (k + 1) s' (by omega) (by omega) h2
      exact ⟨r, by rw [loopM_eq, h1]; exact h3, h4⟩
    · exact ⟨r, by rw [loopM_eq, h1]; rfl, h2⟩
theorem loopM_from {σ β : Type} {body : σ → Option (σ ⊕ β)} (P : Nat → σ → Prop) (Q : β → Prop) (n : Nat) {s : σ} (h0 : P 0 s)
    (h : ∀ k s, k ≤ n → P k s → (∃ s', k < n ∧ body s = some (.inl s') ∧ P (k + 1) s') ∨ ∃ r, body s = some (.inr r) ∧ Q r) : ∃ r, loopM body s = some r ∧ Q r :=
  loopM_inv P Q n h n 0 s (by omega) (by omega) h0
/-- A loop whose states are known. -/
theorem loopM_fn {σ β : Type} {body : σ → Option (σ ⊕ β)} (g : Nat → σ) (n : Nat) {r : β} (h : ∀ k, k < n → body (g k) = some (.inl (g (k + 1)))) (he : body (g n) = some (.inr r)) : loopM body (g 0) = some r := by
  obtain ⟨r', h1, h2⟩ := loopM_from (body := body) (fun k s => s = g k) (fun x => x = r) n (s := g 0) rfl fun k s hk hs => by
    subst hs
    by_cases hlt : k < n
    · exact .inl ⟨_, hlt, h k hlt, rfl⟩
    · have : k = n := by omega
      subst this
      exact .inr ⟨r, he, rfl⟩
  rw [h1, h2]
/-- A search for the first place. -/
theorem find_loop {α : Type} {xs : List α} (p : α → Bool) {body : Int → Option (Int ⊕ (Unit ⊕ Int))}
    (hb : ∀ k (hk : k < xs.length), body (k : Int) = some (bif p xs[k] then .inr (.inr (k : Int)) else .inl ((k : Int) + 1))) (he : body (xs.length : Int) = some (.inr (.inl ()))) :
    ∃ o, loopM body 0 = some o ∧ ((o = .inl () ∧ ∀ k (hk : k < xs.length), p xs[k] = false) ∨ ∃ k, ∃ hk : k < xs.length, o = .inr (k : Int) ∧ p xs[k] = true ∧ ∀ j (hj : j < k), p (xs[j]'(by omega)) = false) := by
  refine loopM_from (fun k s => s = (k : Int) ∧ ∀ j (hj : j < xs.length), j < k → p xs[j] = false) _ xs.length (s := 0) ⟨rfl, fun j _ hj => by omega⟩ fun k s hk ⟨hs, hP⟩ => ?_
  subst hs
  by_cases hlt : k < xs.length
  · cases hp : p xs[k] with
    | true => exact .inr ⟨.inr (k : Int), by rw [hb k hlt, hp]; rfl, .inr ⟨k, hlt, rfl, hp, fun j hj => hP j (by omega) hj⟩⟩
    | false =>
      refine .inl ⟨((k + 1 : Nat) : Int), hlt, by rw [hb k hlt, hp]; rfl, rfl, fun j hj hjk => ?_⟩
      by_cases e : j = k
      · subst e; exact hp
      · exact hP j hj (by omega)
  · have : k = xs.length := by omega
    subst this
    exact .inr ⟨_, he, .inl ⟨rfl, fun j hj => hP j hj hj⟩⟩
theorem any_loop {α : Type} {xs : List α} (p : α → Bool) {body : Int → Option (Int ⊕ (Unit ⊕ Int))}
    (hb : ∀ k (hk : k < xs.length), body (k : Int) = some (bif p xs[k] then .inr (.inr (k : Int)) else .inl ((k : Int) + 1))) (he : body (xs.length : Int) = some (.inr (.inl ()))) :
    Option.bind (Option.bind (loopM body 0) (fun o => Sum.elim (fun _ => some (-1 : Int)) (fun t => some t) o)) (fun ov => some (leM 0 ov)) = some (xs.any p) := by
  obtain ⟨o, h1, h2⟩ := find_loop p hb he
  rw [h1]
  rcases h2 with ⟨rfl, h2⟩ | ⟨k, hk, rfl, h2, _⟩
  · have : xs.any p = false := by
      rw [List.any_eq_false]
      intro x hx
      obtain ⟨i, hi, rfl⟩ := List.mem_iff_getElem.1 hx
      simp [h2 i hi]
    rw [this]
    rfl
  · have : xs.any p = true := List.any_eq_true.2 ⟨_, List.getElem_mem hk, h2⟩
    rw [this]
    show some (decide ((0 : Int) ≤ (k : Int))) = some true
    rw [decide_eq_true (by omega)]
end Go.PE
