/-
  Texts of this proof, put together: M2, M3, PA, PB, PC, PD, F.
  No conditions.
-/
import Derived.Test.YtblachgndbmhaaaZ3
import Derived.IntWalk
set_option linter.all false
/-
  Models of the functions of this seat, and that the functions compute them (printed by gen_models.py). No conditions.
-/
namespace Go.Proofs.Ytblachgndbmhaaa
open Go Go.Abs Go.PE Go.Proofs
set_option linter.unusedVariables false
set_option maxRecDepth 100000

/-! putlog/putlogref21.Cross -/
def as32 : List Ty := [(.pair tI (.list tI)), (.pair tI (.list tI))]
def rs32 : List Ty := [tI, tI, tI]
noncomputable def an32 : Ann := .seq (.a) (.seq (.a) (.seq (.a) (.seq (.a) (.seq (.seq (.a) (.block (.loop ⟨[(7, .r (.c (.d (.d tI)))), (8, .r (.c (.d (.d tI)))), (9, .r (.c (.d (.d tI))))], [20, 21, 22, 23, 24, 25, 26, 27, 28, 29, 30, 31, 32, 33, 34, 35, 36, 37, 38, 39, 40, 41, 42, 43, 44, 45, 46, 47, 48, 49, 50, 51, 52, 53, 54, 55, 56, 57, 58, 59, 60, 61, 62, 63, 64], [], []⟩ [(.exit 0, ⟨[(7, .r (.c (.d (.d tI)))), (8, .r (.c (.d (.d tI))))], [9, 20, 21, 22, 23, 24, 25, 26, 27, 28, 29, 30, 31, 32, 33, 34, 35, 36, 37, 38, 39, 40, 41, 42, 43, 44, 45, 46, 47, 48, 49, 50, 51, 52, 53, 54, 55, 56, 57, 58, 59, 60, 61, 62, 63, 64], [], []⟩)] (.seq (.a) (.seq (.join [(.norm, ⟨[(7, .r (.c (.d (.d tI)))), (8, .r (.c (.d (.d tI))))], [31, 32, 33, 34, 35, 36, 37, 38, 39, 40, 41, 42, 43, 44, 45, 46, 47, 48, 49, 50, 51, 52, 53, 54, 55, 56, 57, 58, 59, 60, 61, 62, 63, 64], [], []⟩)] (.block (.seq (.a) (.seq (.a) (.seq (.reg [0, 1, 0, 0, 8, 28, 63, 0, 128, 0, 0, 1024, 3584, 8191, 16383] [0, 1, 2, 3, 4, 5, 6, 7, 8, 9, 10, 11, 12, 13, 14] [.s [] [], .s [0] [], .s [] [], .s [] [], .s [0] [], .s [] [], .s [] [], .s [] [], .s [1] [], .s [] [], .s [] [], .s [1] [], .s [] [], .s [] [], .s [] []] (.a)) (.a)))))) (.a)))))) (.a)))))
noncomputable def m32 : ((Int × List Int) × Int × List Int) → Option (Int × Int × Int) :=
  fun (x : (Int × List Int) × Int × List Int) =>
    Option.bind (m18 (x.1.1, x.1.2)) fun (r : Bool) =>
      Option.bind (bif PE.notM (PE.notM r) then m18 (x.2.1, x.2.2) else some false) fun (r_1 : Bool) =>
        bif PE.orM (PE.notM r) (PE.notM r_1) then some ((0 : Int), (0 : Int), (210 : Int))
        else
          Option.bind
            (loopM
              (fun (s : Int × Int × Int) =>
                bif
                    ltM (IntKind.wrap IntKind.i64 (s.2.2 + (1 : Int)))
                      (IntKind.wrap IntKind.i64 (x.1.1 + lenM x.1.2)) then
                  Option.bind
                    (bif
                        PE.orM (ltM s.2.2 x.2.1)
                          (leM (IntKind.wrap IntKind.i64 (x.2.1 + lenM x.2.2))
                            (IntKind.wrap IntKind.i64 (s.2.2 + (1 : Int)))) then
                      some (s.1, s.2.1)
                    else
                      Option.bind (m40 (x.1.2, IntKind.wrap IntKind.i64 (s.2.2 - x.1.1))) fun (r_2 : Int) =>
                        Option.bind (m40 (x.2.2, IntKind.wrap IntKind.i64 (s.2.2 - x.2.1))) fun (r : Int) =>
                          bif PE.notM (eqM r_2 r) then
                            some
                              (IntKind.wrap IntKind.i64 (s.1 + (1 : Int)), IntKind.wrap IntKind.i64 (s.2.1 + (1 : Int)))
                          else some (IntKind.wrap IntKind.i64 (s.1 + (1 : Int)), s.2.1))
                    fun (o : Int × Int) => some (Sum.inl (o.1, o.2, IntKind.wrap IntKind.i64 (s.2.2 + (1 : Int))))
                else some (Sum.inr (s.1, s.2.1)))
              ((0 : Int), (0 : Int), x.1.1))
            fun (o : Int × Int) => some (o.1, o.2, (0 : Int))
theorem c32 : SpecOK Try.prog 32 ⟨as32, rs32, m32⟩ :=
  fnM_ok (own := []) (an := an32) (n := 400) tabs30OK (F := OPS) OPS_sound OPS_nice (f := 32) (fn := Try.f32) (code := Try.f32.body.getD .skip) (by kernel_rfl) (by kernel_rfl) (by kernel_rfl) fun x => by kernel_rfl
noncomputable def tabs32 : Tabs := Tabs.add tabs30 32 ⟨as32, rs32, m32⟩
theorem tabs32OK : TabOK Try.prog tabs32 := TabOK.add tabs30OK c32 Try.call32

/-! putlog/putlogref21.Felled -/
def as34 : List Ty := [tI, tI, .bool]
def rs34 : List Ty := [(.pair tI tI), tI]
noncomputable def an34 : Ann := .seq (.a) (.seq (.a) (.seq (.a) (.seq (.join [(.norm, ⟨[], [35, 36, 37, 38, 39, 40, 41, 42], [(1, .box [.d (.d tI), .d (.d tI)])], []⟩)] (.a)) (.a))))
noncomputable def m34 : (Int × Int × Bool) → Option ((Int × Int) × Int) :=
  fun (x : Int × Int × Bool) =>
    bif
        PE.orM (PE.orM (PE.orM (ltM x.1 (0 : Int)) (ltM (2100 : Int) x.1)) (ltM x.2.1 (0 : Int)))
          (ltM (41 : Int) x.2.1) then
      some (((0 : Int), (0 : Int)), (210 : Int))
    else
      Option.bind
        (bif x.2.2 then some (x.1, IntKind.wrap IntKind.i64 (x.1 + (1 : Int)))
        else
          bif eqM x.2.1 (0 : Int) then
            some
              (IntKind.wrap IntKind.i64 (x.1 + max (0 : Int) (IntKind.wrap IntKind.i64 ((9 : Int) - x.2.1))),
                (2101 : Int))
          else
            some
              (IntKind.wrap IntKind.i64 (x.1 + max (0 : Int) (IntKind.wrap IntKind.i64 ((9 : Int) - x.2.1))),
                IntKind.wrap IntKind.i64
                  (IntKind.wrap IntKind.i64 (IntKind.wrap IntKind.i64 (x.1 + (41 : Int)) - x.2.1) + (1 : Int))))
        fun (o : Int × Int) =>
        bif leM (min o.2 (2101 : Int)) o.1 then some (((0 : Int), (0 : Int)), (210 : Int))
        else some ((o.1, min o.2 (2101 : Int)), (0 : Int))
theorem c34 : SpecOK Try.prog 34 ⟨as34, rs34, m34⟩ :=
  fnM_ok (own := []) (an := an34) (n := 400) tabs32OK (F := OPS) OPS_sound OPS_nice (f := 34) (fn := Try.f34) (code := Try.f34.body.getD .skip) (by kernel_rfl) (by kernel_rfl) (by kernel_rfl) fun x => by kernel_rfl
noncomputable def tabs34 : Tabs := Tabs.add tabs32 34 ⟨as34, rs34, m34⟩
theorem tabs34OK : TabOK Try.prog tabs34 := TabOK.add tabs32OK c34 Try.call34

/-! putlog/putloglaw21.RingMatchesReference -/
def as3 : List Ty := [(.pair tI (.list tI)), (.list tI), tI, (.list tI), (.list tI), tI, tI, (.list (.pair tI tI)), tI, tI, tI, .bool]
def rs3 : List Ty := [.bool]
noncomputable def an3 : Ann := .seq (.a) (.seq (.a) (.seq (.a) (.seq (.a) (.seq (.a) (.seq (.a) (.seq (.reg [0, 1, 0, 4, 15, 31, 63, 0, 140, 511, 0, 2047] [0, 1, 2, 3, 4, 5, 6, 7, 8, 9, 10, 11] [.s [] [], .s [1] [], .s [] [], .s [] [], .s [] [], .s [] [], .s [] [], .s [] [], .s [] [], .s [] [], .s [] [2], .s [2] [2]] (.a)) (.seq (.a) (.seq (.reg [0, 0, 2, 6, 15, 0, 0, 96, 255, 511] [0, 1, 2, 3, 4, 5, 6, 7, 8, 9] [.s [] [], .s [] [], .s [] [], .s [] [], .s [] [], .s [] [], .s [] [], .s [] [], .s [] [], .s [] []] (.a)) (.seq (.seq (.a) (.block (.loop ⟨[(32, .r (.c (.d (.d tI))))], [33, 34, 35, 36, 37, 38, 39, 41, 42, 43, 44, 45, 47, 48, 49, 50, 51, 52, 53, 54, 55, 56, 57, 110, 111, 112, 113, 114, 115, 116, 117, 118, 119, 120, 121, 122, 123, 124, 125, 126, 127, 128, 129, 130, 131, 132, 133, 134, 135, 136, 137, 138, 139, 140, 141, 142, 143, 144, 145, 146, 147, 148, 149, 150, 151, 152, 153, 154, 155, 156, 157, 158, 159, 160, 161, 162, 163, 164, 165, 166, 167, 168, 169, 170, 171, 172, 173, 174, 175, 176, 177, 178, 179, 180, 181, 182, 183, 184, 185, 186, 187, 188, 189, 190, 191, 192, 193, 194, 195, 196, 197, 198, 199, 200, 201, 202, 203, 204, 205, 206, 207, 208, 209, 210, 211, 212, 213, 214, 215, 216, 217, 218, 219, 220, 221, 222, 223, 224, 225, 226, 227, 228, 229, 230, 231, 232, 233, 234, 235, 236, 237, 238, 239, 240, 241, 242, 243, 244, 245, 246, 247, 248, 249, 250, 251, 252, 253, 254, 255, 256, 257, 258, 259, 260, 261, 262, 263, 264, 265, 266, 267, 268, 269, 270, 271, 272, 273, 274, 275, 276, 277, 278], [], []⟩ [(.exit 0, ⟨[], [32, 33, 34, 35, 36, 37, 38, 39, 41, 42, 43, 44, 45, 47, 48, 49, 50, 51, 52, 53, 54, 55, 56, 57, 110, 111, 112, 113, 114, 115, 116, 117, 118, 119, 120, 121, 122, 123, 124, 125, 126, 127, 128, 129, 130, 131, 132, 133, 134, 135, 136, 137, 138, 139, 140, 141, 142, 143, 144, 145, 146, 147, 148, 149, 150, 151, 152, 153, 154, 155, 156, 157, 158, 159, 160, 161, 162, 163, 164, 165, 166, 167, 168, 169, 170, 171, 172, 173, 174, 175, 176, 177, 178, 179, 180, 181, 182, 183, 184, 185, 186, 187, 188, 189, 190, 191, 192, 193, 194, 195, 196, 197, 198, 199, 200, 201, 202, 203, 204, 205, 206, 207, 208, 209, 210, 211, 212, 213, 214, 215, 216, 217, 218, 219, 220, 221, 222, 223, 224, 225, 226, 227, 228, 229, 230, 231, 232, 233, 234, 235, 236, 237, 238, 239, 240, 241, 242, 243, 244, 245, 246, 247, 248, 249, 250, 251, 252, 253, 254, 255, 256, 257, 258, 259, 260, 261, 262, 263, 264, 265, 266, 267, 268, 269, 270, 271, 272, 273, 274, 275, 276, 277, 278], [], []⟩), (.ret, ⟨[(24, .r (.c (.d (.d .bool))))], [32, 33, 34, 35, 36, 37, 38, 39, 41, 42, 43, 44, 45, 47, 48, 49, 50, 51, 52, 53, 54, 55, 56, 57, 110, 111, 112, 113, 114, 115, 116, 117, 118, 119, 120, 121, 122, 123, 124, 125, 126, 127, 128, 129, 130, 131, 132, 133, 134, 135, 136, 137, 138, 139, 140, 141, 142, 143, 144, 145, 146, 147, 148, 149, 150, 151, 152, 153, 154, 155, 156, 157, 158, 159, 160, 161, 162, 163, 164, 165, 166, 167, 168, 169, 170, 171, 172, 173, 174, 175, 176, 177, 178, 179, 180, 181, 182, 183, 184, 185, 186, 187, 188, 189, 190, 191, 192, 193, 194, 195, 196, 197, 198, 199, 200, 201, 202, 203, 204, 205, 206, 207, 208, 209, 210, 211, 212, 213, 214, 215, 216, 217, 218, 219, 220, 221, 222, 223, 224, 225, 226, 227, 228, 229, 230, 231, 232, 233, 234, 235, 236, 237, 238, 239, 240, 241, 242, 243, 244, 245, 246, 247, 248, 249, 250, 251, 252, 253, 254, 255, 256, 257, 258, 259, 260, 261, 262, 263, 264, 265, 266, 267, 268, 269, 270, 271, 272, 273, 274, 275, 276, 277, 278], [], []⟩)] (.seq (.a) (.seq (.block (.seq (.a) (.seq (.seq (.reg [0, 1, 0, 7, 15, 31, 63, 127, 255, 63, 575, 2047, 4095, 8191, 16383] [0, 1, 2, 3, 4, 5, 6, 7, 8, 9, 10, 11, 12, 13, 14] [.s [3] [], .s [] [], .s [3] [], .s [] [], .s [] [], .s [] [], .s [] [], .s [3] [], .s [] [], .s [] [], .s [3] [], .s [] [], .s [] [], .s [] [], .s [] []] (.a)) (.a)) (.seq (.a) (.block (.loop ⟨[(34, .r (.c (.d (.d tI))))], [35, 36, 37, 38, 39, 41, 42, 43, 44, 45, 47, 48, 49, 50, 51, 52, 53, 54, 55, 56, 57, 133, 134, 135, 136, 137, 138, 139, 140, 141, 142, 143, 144, 145, 146, 147, 148, 149, 150, 151, 152, 153, 154, 155, 156, 157, 158, 159, 160, 161, 162, 163, 164, 165, 166, 167, 168, 169, 170, 171, 172, 173, 174, 175, 176, 177, 178, 179, 180, 181, 182, 183, 184, 185, 186, 187, 188, 189, 190, 191, 192, 193, 194, 195, 196, 197, 198, 199, 200, 201, 202, 203, 204, 205, 206, 207, 208, 209, 210, 211, 212, 213, 214, 215, 216, 217, 218, 219, 220, 221, 222, 223, 224, 225, 226, 227, 228, 229, 230, 231, 232, 233, 234, 235, 236, 237, 238, 239, 240, 241, 242, 243, 244, 245, 246, 247, 248, 249, 250, 251, 252, 253, 254, 255, 256, 257, 258, 259, 260, 261, 262, 263, 264, 265, 266, 267, 268, 269, 270, 271, 272, 273, 274, 275, 276, 277, 278], [], []⟩ [(.exit 2, ⟨[], [34, 35, 36, 37, 38, 39, 41, 42, 43, 44, 45, 47, 48, 49, 50, 51, 52, 53, 54, 55, 56, 57, 133, 134, 135, 136, 137, 138, 139, 140, 141, 142, 143, 144, 145, 146, 147, 148, 149, 150, 151, 152, 153, 154, 155, 156, 157, 158, 159, 160, 161, 162, 163, 164, 165, 166, 167, 168, 169, 170, 171, 172, 173, 174, 175, 176, 177, 178, 179, 180, 181, 182, 183, 184, 185, 186, 187, 188, 189, 190, 191, 192, 193, 194, 195, 196, 197, 198, 199, 200, 201, 202, 203, 204, 205, 206, 207, 208, 209, 210, 211, 212, 213, 214, 215, 216, 217, 218, 219, 220, 221, 222, 223, 224, 225, 226, 227, 228, 229, 230, 231, 232, 233, 234, 235, 236, 237, 238, 239, 240, 241, 242, 243, 244, 245, 246, 247, 248, 249, 250, 251, 252, 253, 254, 255, 256, 257, 258, 259, 260, 261, 262, 263, 264, 265, 266, 267, 268, 269, 270, 271, 272, 273, 274, 275, 276, 277, 278], [], []⟩), (.ret, ⟨[(24, .r (.c (.d (.d .bool))))], [34, 35, 36, 37, 38, 39, 41, 42, 43, 44, 45, 47, 48, 49, 50, 51, 52, 53, 54, 55, 56, 57, 133, 134, 135, 136, 137, 138, 139, 140, 141, 142, 143, 144, 145, 146, 147, 148, 149, 150, 151, 152, 153, 154, 155, 156, 157, 158, 159, 160, 161, 162, 163, 164, 165, 166, 167, 168, 169, 170, 171, 172, 173, 174, 175, 176, 177, 178, 179, 180, 181, 182, 183, 184, 185, 186, 187, 188, 189, 190, 191, 192, 193, 194, 195, 196, 197, 198, 199, 200, 201, 202, 203, 204, 205, 206, 207, 208, 209, 210, 211, 212, 213, 214, 215, 216, 217, 218, 219, 220, 221, 222, 223, 224, 225, 226, 227, 228, 229, 230, 231, 232, 233, 234, 235, 236, 237, 238, 239, 240, 241, 242, 243, 244, 245, 246, 247, 248, 249, 250, 251, 252, 253, 254, 255, 256, 257, 258, 259, 260, 261, 262, 263, 264, 265, 266, 267, 268, 269, 270, 271, 272, 273, 274, 275, 276, 277, 278], [], []⟩)] (.seq (.a) (.seq (.block (.seq (.a) (.seq (.a) (.seq (.a) (.seq (.a) (.seq (.seq (.a) (.block (.loop ⟨[(177, .r (.c (.d (.d tI))))], [41, 42, 43, 44, 45, 178, 179, 180, 181, 182, 183, 184, 185, 186, 187, 188, 189, 190, 191, 192, 193, 194, 195, 196, 197, 198, 199, 200, 201, 202, 203], [], []⟩ [(.exit 4, ⟨[], [41, 42, 43, 44, 45, 177, 178, 179, 180, 181, 182, 183, 184, 185, 186, 187, 188, 189, 190, 191, 192, 193, 194, 195, 196, 197, 198, 199, 200, 201, 202, 203], [], []⟩), (.ret, ⟨[(24, .r (.c (.d (.d .bool))))], [41, 42, 43, 44, 45, 177, 178, 179, 180, 181, 182, 183, 184, 185, 186, 187, 188, 189, 190, 191, 192, 193, 194, 195, 196, 197, 198, 199, 200, 201, 202, 203], [], []⟩)] (.a)))) (.seq (.seq (.a) (.block (.loop ⟨[(210, .r (.c (.d (.d tI))))], [47, 48, 49, 50, 51, 52, 53, 211, 212, 213, 214, 215, 216, 217, 218, 219, 220, 221, 222, 223, 224, 225, 226, 227, 228, 229, 230, 231, 232, 233, 234, 235, 236, 237, 238, 239, 240, 241, 242, 243], [], []⟩ [(.exit 6, ⟨[], [47, 48, 49, 50, 51, 52, 53, 210, 211, 212, 213, 214, 215, 216, 217, 218, 219, 220, 221, 222, 223, 224, 225, 226, 227, 228, 229, 230, 231, 232, 233, 234, 235, 236, 237, 238, 239, 240, 241, 242, 243], [], []⟩), (.ret, ⟨[(24, .r (.c (.d (.d .bool))))], [47, 48, 49, 50, 51, 52, 53, 210, 211, 212, 213, 214, 215, 216, 217, 218, 219, 220, 221, 222, 223, 224, 225, 226, 227, 228, 229, 230, 231, 232, 233, 234, 235, 236, 237, 238, 239, 240, 241, 242, 243], [], []⟩)] (.a)))) (.seq (.reg [0, 0, 0, 4, 14, 30, 63, 127, 255, 255, 255, 511, 3071, 8191] [0, 1, 2, 3, 4, 5, 6, 7, 8, 9, 10, 11, 12, 13] [.s [3] [], .s [] [], .s [] [], .s [] [], .s [] [], .s [] [], .s [] [], .s [] [], .s [] [], .s [] [], .s [] [], .s [] [], .s [] [], .s [] []] (.a)) (.seq (.reg [0, 0, 0, 4, 14, 30, 63, 127, 255, 255, 255, 511, 3071, 8191] [0, 1, 2, 3, 4, 5, 6, 7, 8, 9, 10, 11, 12, 13] [.s [3] [], .s [] [], .s [] [], .s [] [], .s [] [], .s [] [], .s [] [], .s [] [], .s [] [], .s [] [], .s [] [], .s [] [], .s [] [], .s [] []] (.a)) (.a)))))))))) (.a))))))))) (.a)))))) (.seq (.seq (.a) (.block (.loop ⟨[(284, .r (.c (.d (.d tI))))], [59, 61, 62, 63, 64, 65, 285, 286, 287, 288, 289, 290, 291, 292, 293, 294, 295, 296, 297, 298, 299, 300, 301, 302, 303, 304, 305, 306, 307, 308, 309, 310, 311, 312, 313, 314, 315, 316, 317, 318, 319, 320], [], []⟩ [(.exit 8, ⟨[], [59, 61, 62, 63, 64, 65, 284, 285, 286, 287, 288, 289, 290, 291, 292, 293, 294, 295, 296, 297, 298, 299, 300, 301, 302, 303, 304, 305, 306, 307, 308, 309, 310, 311, 312, 313, 314, 315, 316, 317, 318, 319, 320], [], []⟩), (.ret, ⟨[(24, .r (.c (.d (.d .bool))))], [59, 61, 62, 63, 64, 65, 284, 285, 286, 287, 288, 289, 290, 291, 292, 293, 294, 295, 296, 297, 298, 299, 300, 301, 302, 303, 304, 305, 306, 307, 308, 309, 310, 311, 312, 313, 314, 315, 316, 317, 318, 319, 320], [], []⟩)] (.seq (.a) (.seq (.a) (.seq (.block (.seq (.a) (.seq (.a) (.block (.loop ⟨[(293, .r (.c (.d (.d tI))))], [61, 62, 63, 64, 65, 294, 295, 296, 297, 298, 299, 300, 301, 302, 303, 304, 305, 306, 307, 308, 309, 310, 311, 312, 313, 314, 315, 316, 317, 318, 319], [], []⟩ [(.exit 10, ⟨[], [61, 62, 63, 64, 65, 293, 294, 295, 296, 297, 298, 299, 300, 301, 302, 303, 304, 305, 306, 307, 308, 309, 310, 311, 312, 313, 314, 315, 316, 317, 318, 319], [], []⟩), (.ret, ⟨[(24, .r (.c (.d (.d .bool))))], [61, 62, 63, 64, 65, 293, 294, 295, 296, 297, 298, 299, 300, 301, 302, 303, 304, 305, 306, 307, 308, 309, 310, 311, 312, 313, 314, 315, 316, 317, 318, 319], [], []⟩)] (.a)))))) (.a))))))) (.a)))))))))))
noncomputable def m3 : ((Int × List Int) × List Int × Int × List Int × List Int × Int × Int × (List (Int × Int)) × Int × Int × Int × Bool) → Option (Bool) :=
  fun
      (x :
        (Int × List Int) ×
          List Int × Int × List Int × List Int × Int × Int × List (Int × Int) × Int × Int × Int × Bool) =>
    Option.bind (m11 ()) fun (r : Bool) =>
      bif PE.notM r then some false
      else
        Option.bind (sliceM x.1.2 (0 : Int) (min (lenM x.1.2) (40 : Int))) fun (r_1 : List Int) =>
          Option.bind (m12 (x.2.2.1, x.2.2.2.1)) fun (r_2 : Int × List Int) =>
            Option.bind (m13 ((r_2.1, r_2.2), x.2.2.2.2.2.1, x.2.2.2.2.2.2.1)) fun (r_3 : List Int × Int) =>
              Option.bind (m14 (x.2.2.2.2.2.2.2.2.2.1, (80 : Int))) fun (r_4 : Int) =>
                Option.bind (m15 (x.2.2.2.2.1, (2 : Int))) fun (r_5 : List Int) =>
                  Option.bind (sliceM x.2.1 (0 : Int) (min (lenM x.2.1) (61 : Int))) fun (r_6 : List Int) =>
                    Option.bind (m16 (r_3.1, x.2.2.2.2.2.2.2.1)) fun (r_7 : List Int) =>
                      Option.bind
                        (loopM
                          (fun (s : Int) =>
                            bif ltM s (3 : Int) then
                              Option.bind
                                (idxM
                                  [(x.1.1, r_1), (r_2.1, r_2.2),
                                    (max (0 : Int)
                                        (IntKind.wrap IntKind.i64 (IntKind.wrap IntKind.i64 (r_2.1 + r_4) - (40 : Int))),
                                      r_5)]
                                  s)
                                fun (r_8 : Int × List Int) =>
                                Option.bind (m17 (r_8.1, r_8.2)) fun (r_9 : Bool) =>
                                  Option.bind (m18 (r_8.1, r_8.2)) fun (r_10 : Bool) =>
                                    Option.bind (bif PE.notM (PE.notM (eqbM r_9 r_10)) then m20 r_8.2 else some [])
                                      fun (r_11 : List Int) =>
                                      Option.bind (bif PE.notM (PE.notM (eqbM r_9 r_10)) then m21 r_8.2 else some [])
                                        fun (r_12 : List Int) =>
                                        Option.bind
                                          (bif PE.notM (PE.notM (eqbM r_9 r_10)) then m19 (r_11, r_12) else some false)
                                          fun (r_13 : Bool) =>
                                          bif PE.orM (PE.notM (eqbM r_9 r_10)) (PE.notM r_13) then
                                            some (Sum.inr (Sum.inr false))
                                          else
                                            Option.bind
                                              (loopM
                                                (fun (s_1 : Int) =>
                                                  bif ltM s_1 (2 : Int) then
                                                    Option.bind (idxM [r_6, r_7] s_1) fun (r_14 : List Int) =>
                                                      Option.bind (m22 ((r_8.1, r_8.2), r_14))
                                                        fun (r_15 : List (Int × Int) × Int) =>
                                                        Option.bind (m23 ((r_8.1, r_8.2), r_14))
                                                          fun (r_16 : List (Int × Int) × Int) =>
                                                          Option.bind
                                                            (bif PE.notM (PE.notM (eqM r_15.2 r_16.2)) then
                                                              m24 (r_15.1, r_16.1)
                                                            else some false)
                                                            fun (r_17 : Bool) =>
                                                            Option.bind
                                                              (bif
                                                                  PE.notM
                                                                    (PE.orM (PE.notM (eqM r_15.2 r_16.2))
                                                                      (PE.notM r_17)) then
                                                                m25 r_14
                                                              else some false)
                                                              fun (r_18 : Bool) =>
                                                              Option.bind
                                                                (bif
                                                                    PE.notM
                                                                      (PE.orM (PE.notM (eqM r_15.2 r_16.2))
                                                                        (PE.notM r_17)) then
                                                                  m26 r_14
                                                                else some false)
                                                                fun (r_19 : Bool) =>
                                                                bif
                                                                    PE.orM
                                                                      (PE.orM (PE.notM (eqM r_15.2 r_16.2))
                                                                        (PE.notM r_17))
                                                                      (PE.notM (eqbM r_18 r_19)) then
                                                                  some (Sum.inr (Sum.inr false))
                                                                else
                                                                  Option.bind (m14 (x.2.2.2.2.2.1, (80 : Int)))
                                                                    fun (r_20 : Int) =>
                                                                    Option.bind
                                                                      (loopM
                                                                        (fun (s_2 : Int) =>
                                                                          bif
                                                                              ltM s_2
                                                                                (lenM
                                                                                  [x.2.2.2.2.2.1, r_3.2,
                                                                                    IntKind.wrap IntKind.i64
                                                                                      (r_3.2 + (1 : Int)),
                                                                                    r_20]) then
                                                                            Option.bind
                                                                              (idxM
                                                                                [x.2.2.2.2.2.1, r_3.2,
                                                                                  IntKind.wrap IntKind.i64
                                                                                    (r_3.2 + (1 : Int)),
                                                                                  r_20]
                                                                                s_2)
                                                                              fun (r_21 : Int) =>
                                                                              Option.bind
                                                                                (m27 ((r_8.1, r_8.2), r_14, r_21))
                                                                                fun (r_22 : Int × Int) =>
                                                                                Option.bind
                                                                                  (m28 ((r_8.1, r_8.2), r_14, r_21))
                                                                                  fun (r : Int × Int) =>
                                                                                  bif
                                                                                      PE.orM (PE.notM (eqM r_22.1 r.1))
                                                                                        (PE.notM (eqM r_22.2 r.2)) then
                                                                                    some (Sum.inr (Sum.inr false))
                                                                                  else
                                                                                    some
                                                                                      (Sum.inl
                                                                                        (IntKind.wrap IntKind.i64
                                                                                          (s_2 + (1 : Int))))
                                                                          else some (Sum.inr (Sum.inl ())))
                                                                        (0 : Int))
                                                                      fun (o : Unit ⊕ Bool) =>
                                                                      Sum.elim
                                                                        (fun (t : Unit) =>
                                                                          Option.bind
                                                                            (m14 (x.2.2.2.2.2.2.2.2.1, (5 : Int)))
                                                                            fun (r_21 : Int) =>
                                                                            Option.bind
                                                                              (loopM
                                                                                (fun (s_2 : Int) =>
                                                                                  bif
                                                                                      ltM s_2
                                                                                        (lenM
                                                                                          [x.2.2.2.2.2.2.2.2.1,
                                                                                            IntKind.wrap IntKind.i64
                                                                                              ((1 : Int) + r_21)]) then
                                                                                    Option.bind
                                                                                      (idxM
                                                                                        [x.2.2.2.2.2.2.2.2.1,
                                                                                          IntKind.wrap IntKind.i64
                                                                                            ((1 : Int) + r_21)]
                                                                                        s_2)
                                                                                      fun (r_22 : Int) =>
                                                                                      Option.bind
                                                                                        (m29 ((r_8.1, r_8.2), r_14, r_22))
                                                                                        fun (r_23 : Int × Bool × Int) =>
                                                                                        Option.bind
                                                                                          (m30
                                                                                            ((r_8.1, r_8.2), r_14, r_22))
                                                                                          fun (r : Int × Bool × Int) =>
                                                                                          bif
                                                                                              PE.orM
                                                                                                (PE.orM
                                                                                                  (PE.notM
                                                                                                    (eqM r_23.1 r.1))
                                                                                                  (PE.notM
                                                                                                    (eqbM r_23.2.1
                                                                                                      r.2.1)))
                                                                                                (PE.notM
                                                                                                  (eqM r_23.2.2
                                                                                                    r.2.2)) then
                                                                                            some (Sum.inr (Sum.inr false))
                                                                                          else
                                                                                            some
                                                                                              (Sum.inl
                                                                                                (IntKind.wrap IntKind.i64
                                                                                                  (s_2 + (1 : Int))))
                                                                                  else
                                                                                    some (Sum.inr (Sum.inl ())))
                                                                                (0 : Int))
                                                                              fun (o : Unit ⊕ Bool) =>
                                                                              Sum.elim
                                                                                (fun (t : Unit) =>
                                                                                  Option.bind
                                                                                    (idxM
                                                                                      [(x.1.1, r_1), (r_2.1, r_2.2),
                                                                                        (max (0 : Int)
                                                                                            (IntKind.wrap IntKind.i64
                                                                                              (IntKind.wrap IntKind.i64
                                                                                                  (r_2.1 + r_4) -
                                                                                                (40 : Int))),
                                                                                          r_5)]
                                                                                      (IntKind.wrap IntKind.i64
                                                                                        ((2 : Int) - s)))
                                                                                    fun (r_22 : Int × List Int) =>
                                                                                    Option.bind
                                                                                      (m31
                                                                                        ((r_8.1, r_8.2), r_22.1, r_22.2))
                                                                                      fun (r_23 : Int × Int × Int) =>
                                                                                      Option.bind
                                                                                        (idxM
                                                                                          [(x.1.1, r_1), (r_2.1, r_2.2),
                                                                                            (max (0 : Int)
                                                                                                (IntKind.wrap IntKind.i64
                                                                                                  (IntKind.wrap
                                                                                                      IntKind.i64
                                                                                                      (r_2.1 + r_4) -
                                                                                                    (40 : Int))),
                                                                                              r_5)]
                                                                                          (IntKind.wrap IntKind.i64
                                                                                            ((2 : Int) - s)))
                                                                                        fun (r_24 : Int × List Int) =>
                                                                                        Option.bind
                                                                                          (m32
                                                                                            ((r_8.1, r_8.2), r_24.1,
                                                                                              r_24.2))
                                                                                          fun (r : Int × Int × Int) =>
                                                                                          bif
                                                                                              PE.orM
                                                                                                (PE.orM
                                                                                                  (PE.notM
                                                                                                    (eqM r_23.1 r.1))
                                                                                                  (PE.notM
                                                                                                    (eqM r_23.2.1 r.2.1)))
                                                                                                (PE.notM
                                                                                                  (eqM r_23.2.2
                                                                                                    r.2.2)) then
                                                                                            some (Sum.inr (Sum.inr false))
                                                                                          else
                                                                                            some
                                                                                              (Sum.inl
                                                                                                (IntKind.wrap IntKind.i64
                                                                                                  (s_1 + (1 : Int)))))
                                                                                (fun (t : Bool) =>
                                                                                  some (Sum.inr (Sum.inr t)))
                                                                                o)
                                                                        (fun (t : Bool) => some (Sum.inr (Sum.inr t))) o
                                                  else some (Sum.inr (Sum.inl ())))
                                                (0 : Int))
                                              fun (o : Unit ⊕ Bool) =>
                                              Sum.elim
                                                (fun (t : Unit) =>
                                                  some (Sum.inl (IntKind.wrap IntKind.i64 (s + (1 : Int)))))
                                                (fun (t : Bool) => some (Sum.inr (Sum.inr t))) o
                            else some (Sum.inr (Sum.inl ())))
                          (0 : Int))
                        fun (o : Unit ⊕ Bool) =>
                        Sum.elim
                          (fun (t : Unit) =>
                            Option.bind (m14 (x.2.2.2.2.2.2.2.2.2.1, (2101 : Int))) fun (r_8 : Int) =>
                              Option.bind
                                (loopM
                                  (fun (s : Int) =>
                                    bif ltM s (lenM [x.2.2.2.2.2.2.2.2.2.1, r_8]) then
                                      Option.bind (idxM [x.2.2.2.2.2.2.2.2.2.1, r_8] s) fun (r_9 : Int) =>
                                        Option.bind (m14 (x.2.2.2.2.2.2.2.2.2.2.1, (42 : Int))) fun (r_10 : Int) =>
                                          Option.bind
                                            (loopM
                                              (fun (s_1 : Int) =>
                                                bif ltM s_1 (lenM [x.2.2.2.2.2.2.2.2.2.2.1, r_10]) then
                                                  Option.bind (idxM [x.2.2.2.2.2.2.2.2.2.2.1, r_10] s_1)
                                                    fun (r_11 : Int) =>
                                                    Option.bind (m33 (r_9, r_11, x.2.2.2.2.2.2.2.2.2.2.2))
                                                      fun (r_12 : (Int × Int) × Int) =>
                                                      Option.bind (m34 (r_9, r_11, x.2.2.2.2.2.2.2.2.2.2.2))
                                                        fun (r : (Int × Int) × Int) =>
                                                        bif
                                                            PE.orM
                                                              (PE.notM
                                                                (PE.andM (eqM r_12.1.1 r.1.1) (eqM r_12.1.2 r.1.2)))
                                                              (PE.notM (eqM r_12.2 r.2)) then
                                                          some (Sum.inr (Sum.inr false))
                                                        else some (Sum.inl (IntKind.wrap IntKind.i64 (s_1 + (1 : Int))))
                                                else some (Sum.inr (Sum.inl ())))
                                              (0 : Int))
                                            fun (o : Unit ⊕ Bool) =>
                                            Sum.elim
                                              (fun (t : Unit) =>
                                                some (Sum.inl (IntKind.wrap IntKind.i64 (s + (1 : Int)))))
                                              (fun (t : Bool) => some (Sum.inr (Sum.inr t))) o
                                    else some (Sum.inr (Sum.inl ())))
                                  (0 : Int))
                                fun (o : Unit ⊕ Bool) =>
                                Sum.elim (fun (t : Unit) => some r) (fun (t : Bool) => some t) o)
                          (fun (t : Bool) => some t) o
theorem c3 : SpecOK Try.prog 3 ⟨as3, rs3, m3⟩ :=
  fnM_ok (own := []) (an := an3) (n := 400) tabs34OK (F := OPS) OPS_sound OPS_nice (f := 3) (fn := Try.f3) (code := Try.f3.body.getD .skip) (by kernel_rfl) (by kernel_rfl) (by kernel_rfl) fun x => by kernel_rfl
noncomputable def tabs3 : Tabs := Tabs.add tabs34 3 ⟨as3, rs3, m3⟩
theorem tabs3OK : TabOK Try.prog tabs3 := TabOK.add tabs34OK c3 Try.call3

/-! putlog/putloglaw21.RingDates -/
def as4 : List Ty := [tI, (.list tI), tI, tI, (.list (.pair tI tI)), tI]
def rs4 : List Ty := [.bool]
noncomputable def an4 : Ann := .seq (.a) (.seq (.a) (.seq (.a) (.seq (.a) (.seq (.a) (.seq (.a) (.seq (.a) (.seq (.a) (.seq (.a) (.seq (.a) (.seq (.seq (.a) (.block (.loop ⟨[(23, .r (.c (.d (.d tI))))], [24, 25, 72, 73, 74, 75, 76, 77, 78, 79, 80, 81, 82, 83, 84, 85, 86, 87, 88, 89, 90, 91, 92, 93, 94, 95, 96, 97, 98, 99, 100, 101], [], []⟩ [(.exit 0, ⟨[], [23, 24, 25, 72, 73, 74, 75, 76, 77, 78, 79, 80, 81, 82, 83, 84, 85, 86, 87, 88, 89, 90, 91, 92, 93, 94, 95, 96, 97, 98, 99, 100, 101], [], []⟩), (.ret, ⟨[(12, .r (.c (.d (.d .bool))))], [23, 24, 25, 72, 73, 74, 75, 76, 77, 78, 79, 80, 81, 82, 83, 84, 85, 86, 87, 88, 89, 90, 91, 92, 93, 94, 95, 96, 97, 98, 99, 100, 101, 102], [], []⟩)] (.a)))) (.a)))))))))))
noncomputable def m4 : (Int × List Int × Int × Int × (List (Int × Int)) × Int) → Option (Bool) :=
  fun (x : Int × List Int × Int × Int × List (Int × Int) × Int) =>
    Option.bind (m11 ()) fun (r : Bool) =>
      bif PE.notM r then some false
      else
        Option.bind (m12 (x.1, x.2.1)) fun (r_1 : Int × List Int) =>
          Option.bind (m13 ((r_1.1, r_1.2), x.2.2.1, x.2.2.2.1)) fun (r_2 : List Int × Int) =>
            Option.bind (m16 (r_2.1, x.2.2.2.2.1)) fun (r_3 : List Int) =>
              Option.bind (m14 (x.2.2.2.2.2, (6 : Int))) fun (r_4 : Int) =>
                Option.bind (m27 ((r_1.1, r_1.2), r_3, r_2.2)) fun (r_5 : Int × Int) =>
                  Option.bind (m27 ((r_1.1, r_1.2), r_2.1, r_2.2)) fun (r_6 : Int × Int) =>
                    bif
                        PE.orM (PE.orM (PE.notM (eqM r_5.2 (0 : Int))) (PE.notM (eqM r_6.2 (0 : Int))))
                          (PE.notM (eqM r_6.1 (0 : Int))) then
                      some false
                    else
                      Option.bind
                        (loopM
                          (fun (s : Int) =>
                            bif leM s (IntKind.wrap IntKind.i64 (lenM r_1.2 - lenM r_3)) then
                              Option.bind (m27 ((r_1.1, r_1.2), r_2.1, s)) fun (r_7 : Int × Int) =>
                                bif PE.notM (eqM r_7.2 (0 : Int)) then some (Sum.inr (Sum.inr false))
                                else
                                  bif
                                      PE.andM (PE.notM (eqM s r_2.2))
                                        (ltM r_7.1
                                          (IntKind.wrap IntKind.i64
                                            (IntKind.wrap IntKind.i64 ((2 : Int) * r_5.1) +
                                              IntKind.wrap IntKind.i64 ((1 : Int) + r_4)))) then
                                    some (Sum.inr (Sum.inr r))
                                  else some (Sum.inl (IntKind.wrap IntKind.i64 (s + (1 : Int))))
                            else some (Sum.inr (Sum.inl ())))
                          (0 : Int))
                        fun (o : Unit ⊕ Bool) =>
                        Sum.elim
                          (fun (t : Unit) =>
                            Option.bind (m29 ((r_1.1, r_1.2), r_3, IntKind.wrap IntKind.i64 ((1 : Int) + r_4)))
                              fun (r : Int × Bool × Int) =>
                              some
                                (PE.andM (PE.andM (eqM r.2.2 (0 : Int)) r.2.1)
                                  (eqM r.1 (IntKind.wrap IntKind.i64 (r_1.1 + r_2.2)))))
                          (fun (t : Bool) => some t) o
theorem c4 : SpecOK Try.prog 4 ⟨as4, rs4, m4⟩ :=
  fnM_ok (own := []) (an := an4) (n := 400) tabs3OK (F := OPS) OPS_sound OPS_nice (f := 4) (fn := Try.f4) (code := Try.f4.body.getD .skip) (by kernel_rfl) (by kernel_rfl) (by kernel_rfl) fun x => by kernel_rfl
noncomputable def tabs4 : Tabs := Tabs.add tabs3 4 ⟨as4, rs4, m4⟩
theorem tabs4OK : TabOK Try.prog tabs4 := TabOK.add tabs3OK c4 Try.call4

/-! putlog/putloglaw21.RingLists -/
def as5 : List Ty := [tI, (.list tI), tI, tI, (.list (.pair tI tI)), (.list (.pair tI tI))]
def rs5 : List Ty := [.bool]
noncomputable def an5 : Ann := .seq (.a) (.seq (.a) (.seq (.a) (.seq (.a) (.seq (.a) (.seq (.a) (.seq (.a) (.seq (.a) (.seq (.a) (.seq (.a) (.seq (.a) (.seq (.a) (.seq (.seq (.a) (.block (.loop ⟨[(23, .r (.c (.d (.d tI)))), (24, .r (.c (.d (.d tI))))], [90, 91, 92, 93, 94, 95, 96, 97, 98, 99, 100, 101, 102, 103, 104, 105, 106], [], []⟩ [(.exit 0, ⟨[(23, .r (.c (.d (.d tI))))], [24, 90, 91, 92, 93, 94, 95, 96, 97, 98, 99, 100, 101, 102, 103, 104, 105, 106], [], []⟩)] (.seq (.a) (.seq (.join [(.norm, ⟨[(23, .r (.c (.d (.d tI))))], [96, 97, 98, 99, 100, 101, 102, 103, 104, 105, 106], [], []⟩)] (.block (.seq (.reg [0, 0, 3, 7, 0, 0, 48, 112, 255] [0, 1, 2, 3, 4, 5, 6, 7, 8] [.s [] [], .s [] [], .s [] [], .s [] [], .s [] [], .s [] [], .s [] [], .s [] [], .s [] []] (.a)) (.a)))) (.a)))))) (.seq (.a) (.seq (.seq (.a) (.block (.loop ⟨[(26, .r (.c (.d (.d tI))))], [27, 28, 29, 30, 31, 110, 111, 112, 113, 114, 115, 116, 117, 118, 119, 120, 121, 122, 123, 124, 125, 126, 127, 128, 129, 130, 131, 132, 133, 134, 135, 136, 137, 138, 139, 140, 141, 142, 143, 144, 145, 146, 147, 148, 149, 150, 151, 152, 153, 154, 155, 156, 157, 158, 159, 160, 161, 162, 163, 164, 165, 166, 167, 168, 169, 170, 171, 172, 173, 174, 175, 176, 177, 178, 179, 180, 181, 182, 183, 184, 185, 186, 187, 188, 189, 190, 191, 192, 193, 194, 195, 196, 197, 198, 199, 200, 201, 202, 203, 204, 205, 206, 207, 208, 209, 210, 211, 212, 213, 214, 215, 216, 217, 218, 219, 220, 221, 222], [(1, .arr .bool)], []⟩ [(.exit 2, ⟨[], [26, 27, 28, 29, 30, 31, 110, 111, 112, 113, 114, 115, 116, 117, 118, 119, 120, 121, 122, 123, 124, 125, 126, 127, 128, 129, 130, 131, 132, 133, 134, 135, 136, 137, 138, 139, 140, 141, 142, 143, 144, 145, 146, 147, 148, 149, 150, 151, 152, 153, 154, 155, 156, 157, 158, 159, 160, 161, 162, 163, 164, 165, 166, 167, 168, 169, 170, 171, 172, 173, 174, 175, 176, 177, 178, 179, 180, 181, 182, 183, 184, 185, 186, 187, 188, 189, 190, 191, 192, 193, 194, 195, 196, 197, 198, 199, 200, 201, 202, 203, 204, 205, 206, 207, 208, 209, 210, 211, 212, 213, 214, 215, 216, 217, 218, 219, 220, 221, 222], [(1, .arr .bool)], []⟩), (.ret, ⟨[(12, .r (.c (.d (.d .bool))))], [26, 27, 28, 29, 30, 31, 110, 111, 112, 113, 114, 115, 116, 117, 118, 119, 120, 121, 122, 123, 124, 125, 126, 127, 128, 129, 130, 131, 132, 133, 134, 135, 136, 137, 138, 139, 140, 141, 142, 143, 144, 145, 146, 147, 148, 149, 150, 151, 152, 153, 154, 155, 156, 157, 158, 159, 160, 161, 162, 163, 164, 165, 166, 167, 168, 169, 170, 171, 172, 173, 174, 175, 176, 177, 178, 179, 180, 181, 182, 183, 184, 185, 186, 187, 188, 189, 190, 191, 192, 193, 194, 195, 196, 197, 198, 199, 200, 201, 202, 203, 204, 205, 206, 207, 208, 209, 210, 211, 212, 213, 214, 215, 216, 217, 218, 219, 220, 221, 222], [(1, .arr .bool)], []⟩)] (.seq (.a) (.seq (.block (.seq (.a) (.seq (.seq (.reg [0, 1, 3, 7, 7, 23, 63, 127, 255, 511, 511, 2047, 4095, 8191, 16383, 32767, 65535, 131071, 262143, 262143, 1048575, 2097151, 4194303, 262143, 262143, 17039359, 58982399, 126091263, 260308991, 536870911, 1073741823, 2147483647, 2147483647, 8589934591, 17179869183, 34359738367, 2147483647, 2147483647, 139586437119, 483183820799, 1032939634687, 2132451262463, 4398046511103, 8796093022207, 17592186044415, 17592186044415, 17592186044415, 87960930222079, 263882790666239, 545357767376895, 1108307720798207, 2251799813685247, 4503599627370495, 9007199254740991, 18014398509481983, 36028797018963967] [0, 1, 2, 3, 4, 5, 6, 7, 8, 9, 10, 11, 12, 13, 14, 15, 16, 17, 18, 19, 20, 21, 22, 23, 24, 25, 26, 27, 28, 29, 30, 31, 32, 33, 34, 35, 36, 37, 38, 39, 40, 41, 42, 43, 44, 45, 46, 47, 48, 49, 50, 51, 52, 53, 54, 55] [.s [] [], .s [] [], .s [] [], .s [] [], .s [] [], .s [] [], .s [] [], .s [] [], .s [] [], .s [] [], .s [] [], .s [1] [], .s [1] [], .s [] [], .s [] [], .s [] [], .s [] [], .s [] [], .s [] [], .s [] [], .s [] [], .s [] [], .s [] [], .s [] [], .s [] [], .s [] [], .s [] [], .s [] [], .s [] [], .s [] [], .s [] [], .s [] [], .s [] [], .s [] [], .s [] [], .s [] [], .s [] [], .s [] [], .s [] [], .s [] [], .s [] [], .s [] [], .s [] [], .s [] [], .s [] [], .s [] [], .s [] [], .s [] [], .s [] [], .s [] [], .s [] [], .s [] [], .s [] [], .s [] [], .s [] [], .s [] []] (.a)) (.a)) (.a)))) (.a)))))) (.a)))))))))))))))
noncomputable def m5 : (Int × List Int × Int × Int × (List (Int × Int)) × List (Int × Int)) → Option (Bool) :=
  fun (x : Int × List Int × Int × Int × List (Int × Int) × List (Int × Int)) =>
    Option.bind (m11 ()) fun (r : Bool) =>
      bif PE.notM r then some false
      else
        Option.bind (m12 (x.1, x.2.1)) fun (r_1 : Int × List Int) =>
          Option.bind (m13 ((r_1.1, r_1.2), x.2.2.1, x.2.2.2.1)) fun (r_2 : List Int × Int) =>
            Option.bind (m16 (r_2.1, x.2.2.2.2.1)) fun (r_3 : List Int) =>
              Option.bind (m16 (r_2.1, x.2.2.2.2.2)) fun (r_4 : List Int) =>
                Option.bind (m22 ((r_1.1, r_1.2), r_3)) fun (r_5 : List (Int × Int) × Int) =>
                  Option.bind (m20 r_3) fun (r_6 : List Int) =>
                    Option.bind (m20 r_4) fun (r_7 : List Int) =>
                      bif
                          PE.orM
                            (PE.orM
                              (PE.orM (PE.notM (eqM r_5.2 (0 : Int)))
                                (PE.notM
                                  (eqM (lenM r_5.1)
                                    (IntKind.wrap IntKind.i64
                                      (IntKind.wrap IntKind.i64 (lenM r_1.2 - lenM r_3) + (1 : Int))))))
                              (PE.notM (eqM (lenM r_6) (IntKind.wrap IntKind.i64 (lenM r_3 - (1 : Int))))))
                            (PE.notM (eqM (lenM r_7) (lenM r_6))) then
                        some false
                      else
                        Option.bind
                          (loopM
                            (fun (s : Int × Int) =>
                              bif ltM s.2 (lenM r_6) then
                                Option.bind
                                  (Option.bind (idxM r_6 s.2) fun (r_8 : Int) =>
                                    Option.bind (idxM r_7 s.2) fun (r : Int) =>
                                      bif PE.notM (eqM r_8 r) then some (IntKind.wrap IntKind.i64 (s.1 + (1 : Int)))
                                      else some s.1)
                                  fun (o : Int) => some (Sum.inl (o, IntKind.wrap IntKind.i64 (s.2 + (1 : Int))))
                              else some (Sum.inr s.1))
                            ((0 : Int), (0 : Int)))
                          fun (o : Int) =>
                          Option.bind (mkM (lenM r_5.1) (lenM r_5.1) (nat_lit 1) false) fun (r_8 : List Bool) =>
                            Option.bind
                              (loopM
                                (fun (s : Int × List Bool) =>
                                  bif ltM s.1 (lenM r_5.1) then
                                    Option.bind (idxM r_5.1 s.1) fun (r_9 : Int × Int) =>
                                      Option.bind
                                        (bif PE.notM (PE.orM (ltM r_9.1 (0 : Int)) (leM (lenM r_5.1) r_9.1)) then
                                          chkM r_9.1 (lenM s.2)
                                        else some ())
                                        fun (r_10 : Unit) =>
                                        Option.bind
                                          (bif PE.notM (PE.orM (ltM r_9.1 (0 : Int)) (leM (lenM r_5.1) r_9.1)) then
                                            idxM s.2 r_9.1
                                          else some false)
                                          fun (r_11 : Bool) =>
                                          Option.bind
                                            (bif
                                                PE.andM
                                                  (PE.notM
                                                    (PE.orM (PE.orM (ltM r_9.1 (0 : Int)) (leM (lenM r_5.1) r_9.1)) r_11))
                                                  (ltM (0 : Int) s.1) then
                                              idxM r_5.1 s.1
                                            else some ((0 : Int), (0 : Int)))
                                            fun (r_12 : Int × Int) =>
                                            Option.bind
                                              (bif
                                                  PE.andM
                                                    (PE.notM
                                                      (PE.orM (PE.orM (ltM r_9.1 (0 : Int)) (leM (lenM r_5.1) r_9.1))
                                                        r_11))
                                                    (ltM (0 : Int) s.1) then
                                                idxM r_5.1 (IntKind.wrap IntKind.i64 (s.1 - (1 : Int)))
                                              else some ((0 : Int), (0 : Int)))
                                              fun (r_13 : Int × Int) =>
                                              Option.bind
                                                (bif
                                                    PE.andM
                                                      (PE.andM
                                                        (PE.notM
                                                          (PE.orM (PE.orM (ltM r_9.1 (0 : Int)) (leM (lenM r_5.1) r_9.1))
                                                            r_11))
                                                        (ltM (0 : Int) s.1))
                                                      (PE.notM (ltM r_12.2 r_13.2)) then
                                                  idxM r_5.1 s.1
                                                else some ((0 : Int), (0 : Int)))
                                                fun (r_14 : Int × Int) =>
                                                Option.bind
                                                  (bif
                                                      PE.andM
                                                        (PE.andM
                                                          (PE.notM
                                                            (PE.orM
                                                              (PE.orM (ltM r_9.1 (0 : Int)) (leM (lenM r_5.1) r_9.1))
                                                              r_11))
                                                          (ltM (0 : Int) s.1))
                                                        (PE.notM (ltM r_12.2 r_13.2)) then
                                                    idxM r_5.1 (IntKind.wrap IntKind.i64 (s.1 - (1 : Int)))
                                                  else some ((0 : Int), (0 : Int)))
                                                  fun (r_15 : Int × Int) =>
                                                  Option.bind
                                                    (bif
                                                        PE.andM
                                                          (PE.andM
                                                            (PE.andM
                                                              (PE.notM
                                                                (PE.orM
                                                                  (PE.orM (ltM r_9.1 (0 : Int)) (leM (lenM r_5.1) r_9.1))
                                                                  r_11))
                                                              (ltM (0 : Int) s.1))
                                                            (PE.notM (ltM r_12.2 r_13.2)))
                                                          (eqM r_14.2 r_15.2) then
                                                      idxM r_5.1 (IntKind.wrap IntKind.i64 (s.1 - (1 : Int)))
                                                    else some ((0 : Int), (0 : Int)))
                                                    fun (r_16 : Int × Int) =>
                                                    bif
                                                        PE.orM
                                                          (PE.orM (PE.orM (ltM r_9.1 (0 : Int)) (leM (lenM r_5.1) r_9.1))
                                                            r_11)
                                                          (PE.andM (ltM (0 : Int) s.1)
                                                            (PE.orM (ltM r_12.2 r_13.2)
                                                              (PE.andM (eqM r_14.2 r_15.2) (ltM r_9.1 r_16.1)))) then
                                                      some (Sum.inr (Sum.inr (false, s.2)))
                                                    else
                                                      Option.bind (chkM r_9.1 (lenM s.2)) fun (r_17 : Unit) =>
                                                        Option.bind (setM s.2 r_9.1 fun (x : Bool) => some true)
                                                          fun (r_18 : List Bool) =>
                                                          Option.bind (m27 ((r_1.1, r_1.2), r_3, r_9.1))
                                                            fun (r_19 : Int × Int) =>
                                                            Option.bind (m27 ((r_1.1, r_1.2), r_4, r_9.1))
                                                              fun (r_20 : Int × Int) =>
                                                              Option.bind
                                                                (bif
                                                                    PE.notM
                                                                      (PE.orM (PE.notM (eqM r_19.2 (0 : Int)))
                                                                        (PE.notM (eqM r_20.2 (0 : Int)))) then
                                                                  idxM r_5.1 s.1
                                                                else some ((0 : Int), (0 : Int)))
                                                                fun (r : Int × Int) =>
                                                                bif
                                                                    PE.orM
                                                                      (PE.orM
                                                                        (PE.orM
                                                                          (PE.orM (PE.notM (eqM r_19.2 (0 : Int)))
                                                                            (PE.notM (eqM r_20.2 (0 : Int))))
                                                                          (PE.notM (eqM r_19.1 r.2)))
                                                                        (ltM o
                                                                          (IntKind.wrap IntKind.i64 (r_19.1 - r_20.1))))
                                                                      (ltM o
                                                                        (IntKind.wrap IntKind.i64 (r_20.1 - r_19.1))) then
                                                                  some (Sum.inr (Sum.inr (false, r_18)))
                                                                else
                                                                  some
                                                                    (Sum.inl
                                                                      (IntKind.wrap IntKind.i64 (s.1 + (1 : Int)), r_18))
                                  else some (Sum.inr (Sum.inl s.2)))
                                ((0 : Int), r_8))
                              fun (o : List Bool ⊕ Bool × List Bool) =>
                              Sum.elim (fun (t : List Bool) => some r) (fun (t : Bool × List Bool) => some t.1) o
theorem c5 : SpecOK Try.prog 5 ⟨as5, rs5, m5⟩ :=
  fnM_ok (own := []) (an := an5) (n := 400) tabs4OK (F := OPS) OPS_sound OPS_nice (f := 5) (fn := Try.f5) (code := Try.f5.body.getD .skip) (by kernel_rfl) (by kernel_rfl) (by kernel_rfl) fun x => by kernel_rfl
noncomputable def tabs5 : Tabs := Tabs.add tabs4 5 ⟨as5, rs5, m5⟩
theorem tabs5OK : TabOK Try.prog tabs5 := TabOK.add tabs4OK c5 Try.call5
end Go.Proofs.Ytblachgndbmhaaa
/-
  Models of the functions of this seat, and that the functions compute them (printed by gen_models.py). No conditions.
-/
namespace Go.Proofs.Ytblachgndbmhaaa
open Go Go.Abs Go.PE Go.Proofs
set_option linter.unusedVariables false
set_option maxRecDepth 100000

/-! putlog/putloglaw21.RingScales -/
def as6 : List Ty := [tI, (.list tI), tI, tI, (.list (.pair tI tI)), tI, tI, tI]
def rs6 : List Ty := [.bool]
noncomputable def an6 : Ann := .seq (.a) (.seq (.a) (.seq (.a) (.seq (.a) (.seq (.a) (.seq (.a) (.seq (.a) (.seq (.seq (.a) (.block (.loop ⟨[(22, .r (.c (.h 1))), (23, .r (.c (.d (.d tI))))], [55, 56, 57, 58, 59, 60, 61, 62, 63, 64, 65, 66, 67, 68, 69, 70, 71, 72, 73, 74], [], [.arr tI]⟩ [(.exit 0, ⟨[(22, .r (.c (.h 1)))], [23, 55, 56, 57, 58, 59, 60, 61, 62, 63, 64, 65, 66, 67, 68, 69, 70, 71, 72, 73, 74], [], [.arr tI]⟩)] (.seq (.a) (.seq (.block (.reg [0, 0, 0, 6, 14, 0, 32, 96, 254, 0, 608, 2046, 4094, 8191, 16383] [0, 1, 2, 3, 4, 5, 6, 7, 8, 9, 10, 11, 12, 13, 14] [.s [] [], .s [] [], .s [] [], .s [] [], .s [] [], .s [] [], .s [] [], .s [] [], .s [] [], .s [] [], .s [] [], .s [] [], .s [] [], .s [1] [2, 1], .s [] []] (.a))) (.a)))))) (.seq (.a) (.seq (.seq (.a) (.block (.loop ⟨[(25, .r (.c (.d (.d tI))))], [78, 79, 80, 81, 82, 83, 84, 85, 86, 87, 88, 89, 90, 91, 92, 93, 94, 95, 96, 97, 98, 99, 100, 101], [(2, .box [.d (.d tI), .h 3])], [.arr tI]⟩ [(.exit 2, ⟨[], [25, 78, 79, 80, 81, 82, 83, 84, 85, 86, 87, 88, 89, 90, 91, 92, 93, 94, 95, 96, 97, 98, 99, 100, 101], [(2, .box [.d (.d tI), .h 3])], [.arr tI]⟩)] (.seq (.a) (.seq (.block (.reg [0, 1, 0, 4, 0, 28, 60, 0, 128, 384, 1020, 0, 2432, 8188, 16380, 32767, 65535, 131071] [0, 1, 2, 3, 4, 5, 6, 7, 8, 9, 10, 11, 12, 13, 14, 15, 16, 17] [.s [] [], .s [2] [], .s [] [], .s [0] [], .s [] [], .s [] [], .s [] [], .s [] [], .s [] [], .s [] [], .s [] [], .s [] [], .s [] [], .s [] [], .s [] [], .s [3] [4, 3], .s [] [], .s [2, 4] [2]] (.a))) (.a)))))) (.a))))))))))
noncomputable def m6 : (Int × List Int × Int × Int × (List (Int × Int)) × Int × Int × Int) → Option (Bool) :=
  fun (x : Int × List Int × Int × Int × List (Int × Int) × Int × Int × Int) =>
    Option.bind (m11 ()) fun (r : Bool) =>
      bif PE.notM r then some false
      else
        Option.bind (m12 (x.1, x.2.1)) fun (r_1 : Int × List Int) =>
          Option.bind (m13 ((r_1.1, r_1.2), x.2.2.1, x.2.2.2.1)) fun (r_2 : List Int × Int) =>
            Option.bind (m16 (r_2.1, x.2.2.2.2.1)) fun (r_3 : List Int) =>
              Option.bind
                (loopM
                  (fun (s : Int × List Int) =>
                    bif ltM s.1 (lenM r_3) then
                      Option.bind (idxM r_3 s.1) fun (r_4 : Int) =>
                        Option.bind (m14 (x.2.2.2.2.2.1, (9 : Int))) fun (r_5 : Int) =>
                          Option.bind (m14 (x.2.2.2.2.2.2.1, (1000 : Int))) fun (r_6 : Int) =>
                            Option.bind
                              (appM (nat_lit 8) s.2
                                [IntKind.wrap IntKind.i64
                                    (IntKind.wrap IntKind.i64 (r_4 * IntKind.wrap IntKind.i64 ((1 : Int) + r_5)) + r_6)])
                              fun (r : List Int) => some (Sum.inl (IntKind.wrap IntKind.i64 (s.1 + (1 : Int)), r))
                    else some (Sum.inr s.2))
                  ((0 : Int), []))
                fun (o : List Int) =>
                Option.bind
                  (loopM
                    (fun (s : Int × Int × List Int) =>
                      bif ltM s.1 (lenM r_1.2) then
                        Option.bind (idxM r_1.2 s.1) fun (r_4 : Int) =>
                          Option.bind (m14 (x.2.2.2.2.2.2.1, (9 : Int))) fun (r_5 : Int) =>
                            Option.bind (m14 (x.2.2.2.2.2.1, (1000 : Int))) fun (r_6 : Int) =>
                              Option.bind
                                (appM (nat_lit 8) s.2.2
                                  [IntKind.wrap IntKind.i64
                                      (IntKind.wrap IntKind.i64 (r_4 * IntKind.wrap IntKind.i64 ((1 : Int) + r_5)) +
                                        r_6)])
                                fun (r : List Int) =>
                                some (Sum.inl (IntKind.wrap IntKind.i64 (s.1 + (1 : Int)), s.2.1, r))
                      else some (Sum.inr (s.2.1, s.2.2)))
                    ((0 : Int), r_1.1, []))
                  fun (o_1 : Int × List Int) =>
                  Option.bind (m14 (x.2.2.2.2.2.2.2, (6 : Int))) fun (r_4 : Int) =>
                    Option.bind (m22 ((r_1.1, r_1.2), r_3)) fun (r_5 : List (Int × Int) × Int) =>
                      Option.bind (m22 ((r_1.1, r_1.2), o)) fun (r_6 : List (Int × Int) × Int) =>
                        Option.bind (m22 ((o_1.1, o_1.2), r_3)) fun (r_7 : List (Int × Int) × Int) =>
                          Option.bind (m29 ((r_1.1, r_1.2), r_3, IntKind.wrap IntKind.i64 ((1 : Int) + r_4)))
                            fun (r_8 : Int × Bool × Int) =>
                            Option.bind (m29 ((o_1.1, o_1.2), o, IntKind.wrap IntKind.i64 ((1 : Int) + r_4)))
                              fun (r_9 : Int × Bool × Int) =>
                              Option.bind
                                (bif
                                    PE.andM
                                      (PE.andM
                                        (PE.andM (PE.andM (eqM r_5.2 (0 : Int)) (eqM r_6.2 (0 : Int)))
                                          (eqM r_7.2 (0 : Int)))
                                        (eqM r_8.2.2 (0 : Int)))
                                      (eqM r_9.2.2 (0 : Int)) then
                                  m24 (r_5.1, r_6.1)
                                else some false)
                                fun (r_10 : Bool) =>
                                Option.bind
                                  (bif
                                      PE.andM
                                        (PE.andM
                                          (PE.andM
                                            (PE.andM (PE.andM (eqM r_5.2 (0 : Int)) (eqM r_6.2 (0 : Int)))
                                              (eqM r_7.2 (0 : Int)))
                                            (eqM r_8.2.2 (0 : Int)))
                                          (eqM r_9.2.2 (0 : Int)))
                                        r_10 then
                                    m24 (r_5.1, r_7.1)
                                  else some false)
                                  fun (r : Bool) =>
                                  some
                                    (PE.andM
                                      (PE.andM
                                        (PE.andM
                                          (PE.andM
                                            (PE.andM
                                              (PE.andM
                                                (PE.andM (PE.andM (eqM r_5.2 (0 : Int)) (eqM r_6.2 (0 : Int)))
                                                  (eqM r_7.2 (0 : Int)))
                                                (eqM r_8.2.2 (0 : Int)))
                                              (eqM r_9.2.2 (0 : Int)))
                                            r_10)
                                          r)
                                        (eqM r_8.1 r_9.1))
                                      (eqbM r_8.2.1 r_9.2.1))
theorem c6 : SpecOK Try.prog 6 ⟨as6, rs6, m6⟩ :=
  fnM_ok (own := []) (an := an6) (n := 400) tabs5OK (F := OPS) OPS_sound OPS_nice (f := 6) (fn := Try.f6) (code := Try.f6.body.getD .skip) (by kernel_rfl) (by kernel_rfl) (by kernel_rfl) fun x => by kernel_rfl
noncomputable def tabs6 : Tabs := Tabs.add tabs5 6 ⟨as6, rs6, m6⟩
theorem tabs6OK : TabOK Try.prog tabs6 := TabOK.add tabs5OK c6 Try.call6

/-! putlog/putloglaw21.RingDivides -/
def as7 : List Ty := [tI, (.list tI), tI, tI, (.list (.pair tI tI)), tI, tI]
def rs7 : List Ty := [.bool]
noncomputable def an7 : Ann := .seq (.a) (.seq (.a) (.seq (.a) (.seq (.a) (.seq (.a) (.seq (.a) (.seq (.a) (.seq (.a) (.seq (.a) (.seq (.reg [0, 0, 0, 4, 14, 0, 63, 127, 255, 255, 511, 2047] [0, 1, 2, 3, 4, 5, 6, 7, 8, 9, 10, 11] [.s [0] [], .s [] [], .s [] [], .s [] [], .s [] [], .s [] [], .s [] [], .s [] [], .s [] [], .s [] [], .s [] [], .s [] []] (.a)) (.seq (.reg [0, 0, 0, 6, 0, 0, 48, 127, 255, 511, 511, 1023, 4095] [0, 1, 2, 3, 4, 5, 6, 7, 8, 9, 10, 11, 12] [.s [0] [], .s [] [], .s [] [], .s [] [], .s [] [], .s [] [], .s [] [], .s [] [], .s [] [], .s [] [], .s [] [], .s [] [], .s [] []] (.a)) (.a)))))))))))
noncomputable def m7 : (Int × List Int × Int × Int × (List (Int × Int)) × Int × Int) → Option (Bool) :=
  fun (x : Int × List Int × Int × Int × List (Int × Int) × Int × Int) =>
    Option.bind (m11 ()) fun (r : Bool) =>
      bif PE.notM r then some false
      else
        Option.bind (m12 (x.1, x.2.1)) fun (r_1 : Int × List Int) =>
          Option.bind (m13 ((r_1.1, r_1.2), x.2.2.1, x.2.2.2.1)) fun (r_2 : List Int × Int) =>
            Option.bind (m16 (r_2.1, x.2.2.2.2.1)) fun (r_3 : List Int) =>
              Option.bind (m14 (x.2.2.2.2.2.1, IntKind.wrap IntKind.i64 (lenM r_3 - (2 : Int)))) fun (r_4 : Int) =>
                Option.bind
                  (m14
                    (x.2.2.2.2.2.2,
                      IntKind.wrap IntKind.i64 (IntKind.wrap IntKind.i64 (lenM r_1.2 - lenM r_3) + (1 : Int))))
                  fun (r_5 : Int) =>
                  Option.bind (m27 ((r_1.1, r_1.2), r_3, r_5)) fun (r_6 : Int × Int) =>
                    Option.bind
                      (sliceM r_3 (0 : Int)
                        (IntKind.wrap IntKind.i64 (IntKind.wrap IntKind.i64 ((1 : Int) + r_4) + (1 : Int))))
                      fun (r_7 : List Int) =>
                      Option.bind (m27 ((r_1.1, r_1.2), r_7, r_5)) fun (r_8 : Int × Int) =>
                        Option.bind (sliceM r_3 (IntKind.wrap IntKind.i64 ((1 : Int) + r_4)) (lenM r_3))
                          fun (r_9 : List Int) =>
                          Option.bind
                            (m27
                              ((r_1.1, r_1.2), r_9,
                                IntKind.wrap IntKind.i64 (r_5 + IntKind.wrap IntKind.i64 ((1 : Int) + r_4))))
                            fun (r : Int × Int) =>
                            some
                              (PE.andM (PE.andM (PE.andM (eqM r_6.2 (0 : Int)) (eqM r_8.2 (0 : Int))) (eqM r.2 (0 : Int)))
                                (eqM r_6.1 (IntKind.wrap IntKind.i64 (r_8.1 + r.1))))
theorem c7 : SpecOK Try.prog 7 ⟨as7, rs7, m7⟩ :=
  fnM_ok (own := []) (an := an7) (n := 400) tabs6OK (F := OPS) OPS_sound OPS_nice (f := 7) (fn := Try.f7) (code := Try.f7.body.getD .skip) (by kernel_rfl) (by kernel_rfl) (by kernel_rfl) fun x => by kernel_rfl
noncomputable def tabs7 : Tabs := Tabs.add tabs6 7 ⟨as7, rs7, m7⟩
theorem tabs7OK : TabOK Try.prog tabs7 := TabOK.add tabs6OK c7 Try.call7

/-! putlog/putloglaw21.RingLonger -/
def as8 : List Ty := [tI, (.list tI), tI, tI, (.list (.pair tI tI)), (.list tI), (.list tI), tI]
def rs8 : List Ty := [.bool]
noncomputable def an8 : Ann := .seq (.a) (.seq (.a) (.seq (.a) (.seq (.a) (.seq (.a) (.seq (.a) (.seq (.a) (.seq (.a) (.seq (.reg [0, 1, 0, 4, 15, 0, 0, 96, 0, 256, 992, 2047, 0, 8191] [0, 1, 2, 3, 4, 5, 6, 7, 8, 9, 10, 11, 12, 13] [.s [] [], .s [0] [], .s [] [], .s [] [], .s [] [], .s [] [], .s [] [], .s [] [1], .s [] [], .s [0] [], .s [1] [2, 1], .s [] [], .s [] [3], .s [3, 2] [3]] (.a)) (.seq (.reg [0, 1, 0, 0, 8, 24, 60, 124, 255, 511, 1023] [0, 1, 2, 3, 4, 5, 6, 7, 8, 9, 10] [.s [] [], .s [3] [], .s [] [], .s [] [], .s [] [], .s [] [], .s [] [], .s [] [], .s [2] [4, 2], .s [] [], .s [3, 4] [3]] (.a)) (.seq (.seq (.a) (.block (.loop ⟨[(24, .r (.c (.d (.d tI))))], [25, 26, 27, 28, 87, 88, 89, 90, 91, 92, 93, 94, 95, 96, 97, 98, 99, 100, 101, 102, 103, 104, 105, 106, 107, 108, 109, 110, 111, 112, 113, 114, 115, 116, 117, 118, 119, 120, 121, 122, 123, 124], [], []⟩ [(.exit 0, ⟨[], [24, 25, 26, 27, 28, 87, 88, 89, 90, 91, 92, 93, 94, 95, 96, 97, 98, 99, 100, 101, 102, 103, 104, 105, 106, 107, 108, 109, 110, 111, 112, 113, 114, 115, 116, 117, 118, 119, 120, 121, 122, 123, 124], [], []⟩), (.ret, ⟨[(16, .r (.c (.d (.d .bool))))], [24, 25, 26, 27, 28, 87, 88, 89, 90, 91, 92, 93, 94, 95, 96, 97, 98, 99, 100, 101, 102, 103, 104, 105, 106, 107, 108, 109, 110, 111, 112, 113, 114, 115, 116, 117, 118, 119, 120, 121, 122, 123, 124], [], []⟩)] (.a)))) (.a)))))))))))
noncomputable def m8 : (Int × List Int × Int × Int × (List (Int × Int)) × List Int × List Int × Int) → Option (Bool) :=
  fun (x : Int × List Int × Int × Int × List (Int × Int) × List Int × List Int × Int) =>
    Option.bind (m11 ()) fun (r : Bool) =>
      bif PE.notM r then some false
      else
        Option.bind (m12 (x.1, x.2.1)) fun (r_1 : Int × List Int) =>
          Option.bind (m13 ((r_1.1, r_1.2), x.2.2.1, x.2.2.2.1)) fun (r_2 : List Int × Int) =>
            Option.bind (m16 (r_2.1, x.2.2.2.2.1)) fun (r_3 : List Int) =>
              Option.bind (sliceM x.2.2.2.2.2.1 (0 : Int) (min (lenM x.2.2.2.2.2.1) (20 : Int))) fun (r_4 : List Int) =>
                Option.bind (m15 (r_4, (0 : Int))) fun (r_5 : List Int) =>
                  Option.bind (sliceM r_5 (0 : Int) (min (lenM r_5) r_1.1)) fun (r_6 : List Int) =>
                    Option.bind (appM (nat_lit 8) [] r_6) fun (r_7 : List Int) =>
                      Option.bind (appM (nat_lit 8) r_7 r_1.2) fun (r_8 : List Int) =>
                        Option.bind (sliceM x.2.2.2.2.2.2.1 (0 : Int) (min (lenM x.2.2.2.2.2.2.1) (20 : Int)))
                          fun (r_9 : List Int) =>
                          Option.bind (m15 (r_9, (0 : Int))) fun (r_10 : List Int) =>
                            Option.bind (appM (nat_lit 8) r_8 r_10) fun (r_11 : List Int) =>
                              Option.bind
                                (loopM
                                  (fun (s : Int) =>
                                    bif leM s (IntKind.wrap IntKind.i64 (lenM r_1.2 - lenM r_3)) then
                                      Option.bind (m27 ((r_1.1, r_1.2), r_3, s)) fun (r_12 : Int × Int) =>
                                        Option.bind
                                          (m27
                                            ((IntKind.wrap IntKind.i64 (r_1.1 - lenM r_6), r_11), r_3,
                                              IntKind.wrap IntKind.i64 (s + lenM r_6)))
                                          fun (r : Int × Int) =>
                                          bif
                                              PE.orM
                                                (PE.orM (PE.notM (eqM r_12.2 (0 : Int))) (PE.notM (eqM r.2 (0 : Int))))
                                                (PE.notM (eqM r_12.1 r.1)) then
                                            some (Sum.inr (Sum.inr false))
                                          else some (Sum.inl (IntKind.wrap IntKind.i64 (s + (1 : Int))))
                                    else some (Sum.inr (Sum.inl ())))
                                  (0 : Int))
                                fun (o : Unit ⊕ Bool) =>
                                Sum.elim
                                  (fun (t : Unit) =>
                                    Option.bind (m14 (x.2.2.2.2.2.2.2, (6 : Int))) fun (r_12 : Int) =>
                                      Option.bind
                                        (m29
                                          ((IntKind.wrap IntKind.i64 (r_1.1 - lenM r_6), r_11), r_3,
                                            IntKind.wrap IntKind.i64 ((1 : Int) + r_12)))
                                        fun (r_13 : Int × Bool × Int) =>
                                        Option.bind
                                          (m29 ((r_1.1, r_1.2), r_3, IntKind.wrap IntKind.i64 ((1 : Int) + r_12)))
                                          fun (r_14 : Int × Bool × Int) =>
                                          bif
                                              PE.orM (PE.notM (eqM r_13.2.2 (0 : Int)))
                                                (PE.notM (eqM r_14.2.2 (0 : Int))) then
                                            some false
                                          else
                                            bif
                                                PE.orM (PE.orM (PE.notM r_13.2.1) (ltM r_13.1 r_1.1))
                                                  (ltM (IntKind.wrap IntKind.i64 (lenM r_1.2 - lenM r_3))
                                                    (IntKind.wrap IntKind.i64 (r_13.1 - r_1.1))) then
                                              some r
                                            else some (PE.andM r_14.2.1 (eqM r_13.1 r_14.1)))
                                  (fun (t : Bool) => some t) o
theorem c8 : SpecOK Try.prog 8 ⟨as8, rs8, m8⟩ :=
  fnM_ok (own := []) (an := an8) (n := 400) tabs7OK (F := OPS) OPS_sound OPS_nice (f := 8) (fn := Try.f8) (code := Try.f8.body.getD .skip) (by kernel_rfl) (by kernel_rfl) (by kernel_rfl) fun x => by kernel_rfl
noncomputable def tabs8 : Tabs := Tabs.add tabs7 8 ⟨as8, rs8, m8⟩
theorem tabs8OK : TabOK Try.prog tabs8 := TabOK.add tabs7OK c8 Try.call8

/-! putlog/putloglaw21.RingCrosses -/
def as9 : List Ty := [tI, (.list tI), (.pair tI tI), (.pair tI tI), (.list (.pair tI tI)), (.list (.pair tI tI))]
def rs9 : List Ty := [.bool]
noncomputable def an9 : Ann := .a
noncomputable def m9 : (Int × List Int × (Int × Int) × (Int × Int) × (List (Int × Int)) × List (Int × Int)) → Option (Bool) :=
  fun (x : Int × List Int × (Int × Int) × (Int × Int) × List (Int × Int) × List (Int × Int)) =>
    Option.bind (m11 ()) fun (r : Bool) =>
      bif PE.notM r then some false
      else
        Option.bind (m12 (x.1, x.2.1)) fun (r_1 : Int × List Int) =>
          Option.bind (m13 ((r_1.1, r_1.2), x.2.2.1.1, x.2.2.2.1.1)) fun (r_2 : List Int × Int) =>
            Option.bind (m13 ((r_1.1, r_1.2), x.2.2.1.2, x.2.2.2.1.2)) fun (r_3 : List Int × Int) =>
              Option.bind (m16 (r_2.1, x.2.2.2.2.1)) fun (r_4 : List Int) =>
                Option.bind (m16 (r_3.1, x.2.2.2.2.2)) fun (r_5 : List Int) =>
                  Option.bind (m27 ((r_1.1, r_1.2), r_4, r_2.2)) fun (r_6 : Int × Int) =>
                    Option.bind (m27 ((r_1.1, r_1.2), r_5, r_3.2)) fun (r_7 : Int × Int) =>
                      Option.bind
                        (m31
                          ((IntKind.wrap IntKind.i64 (r_1.1 + r_2.2), r_4), IntKind.wrap IntKind.i64 (r_1.1 + r_3.2),
                            r_5))
                        fun (r_8 : Int × Int × Int) =>
                        Option.bind
                          (m31
                            ((IntKind.wrap IntKind.i64 (r_1.1 + r_3.2), r_5), IntKind.wrap IntKind.i64 (r_1.1 + r_2.2),
                              r_4))
                          fun (r : Int × Int × Int) =>
                          some
                            (PE.andM
                              (PE.andM
                                (PE.andM
                                  (PE.andM
                                    (PE.andM
                                      (PE.andM
                                        (PE.andM (PE.andM (eqM r_6.2 (0 : Int)) (eqM r_7.2 (0 : Int)))
                                          (eqM r_8.2.2 (0 : Int)))
                                        (eqM r.2.2 (0 : Int)))
                                      (eqM r_8.1
                                        (max (0 : Int)
                                          (IntKind.wrap IntKind.i64
                                            (IntKind.wrap IntKind.i64
                                                (min (IntKind.wrap IntKind.i64 (r_2.2 + lenM r_4))
                                                    (IntKind.wrap IntKind.i64 (r_3.2 + lenM r_5)) -
                                                  max r_2.2 r_3.2) -
                                              (1 : Int))))))
                                    (eqM r_8.1 r.1))
                                  (eqM r_8.2.1 r.2.1))
                                (leM r_8.2.1 (IntKind.wrap IntKind.i64 (r_6.1 + r_7.1))))
                              (leM r_8.2.1 r_8.1))
theorem c9 : SpecOK Try.prog 9 ⟨as9, rs9, m9⟩ :=
  fnM_ok (own := []) (an := an9) (n := 400) tabs8OK (F := OPS) OPS_sound OPS_nice (f := 9) (fn := Try.f9) (code := Try.f9.body.getD .skip) (by kernel_rfl) (by kernel_rfl) (by kernel_rfl) fun x => by kernel_rfl
noncomputable def tabs9 : Tabs := Tabs.add tabs8 9 ⟨as9, rs9, m9⟩
theorem tabs9OK : TabOK Try.prog tabs9 := TabOK.add tabs8OK c9 Try.call9

/-! putlog/putloglaw21.RingFells -/
def as10 : List Ty := [tI, tI, tI]
def rs10 : List Ty := [.bool]
noncomputable def an10 : Ann := .a
noncomputable def m10 : (Int × Int × Int) → Option (Bool) :=
  fun (x : Int × Int × Int) =>
    Option.bind (m11 ()) fun (r : Bool) =>
      bif PE.notM r then some false
      else
        Option.bind (m14 (x.1, (2000 : Int))) fun (r_1 : Int) =>
          Option.bind (m14 (x.2.1, (42 : Int))) fun (r_2 : Int) =>
            Option.bind (m14 (x.2.2, IntKind.wrap IntKind.i64 ((42 : Int) - r_2))) fun (r_3 : Int) =>
              Option.bind (m33 (r_1, r_2, false)) fun (r_4 : (Int × Int) × Int) =>
                Option.bind (m33 (r_1, r_2, true)) fun (r_5 : (Int × Int) × Int) =>
                  Option.bind (m33 (IntKind.wrap IntKind.i64 (r_1 + r_3), IntKind.wrap IntKind.i64 (r_2 + r_3), false))
                    fun (r : (Int × Int) × Int) =>
                    bif
                        PE.orM
                          (PE.orM (PE.orM (PE.notM (eqM r_4.2 (0 : Int))) (PE.notM (eqM r_5.2 (0 : Int))))
                            (PE.notM (eqM r.2 (0 : Int))))
                          (PE.notM
                            (PE.andM (eqM r_5.1.1 r_1) (eqM r_5.1.2 (IntKind.wrap IntKind.i64 (r_1 + (1 : Int)))))) then
                      some false
                    else
                      bif PE.andM (leM (9 : Int) r_2) (PE.orM (ltM r_5.1.1 r_4.1.1) (ltM r_4.1.2 r_5.1.2)) then some false
                      else some (PE.orM (eqM r_2 (0 : Int)) (PE.andM (leM r_4.1.1 r.1.1) (leM r.1.2 r_4.1.2)))
theorem c10 : SpecOK Try.prog 10 ⟨as10, rs10, m10⟩ :=
  fnM_ok (own := []) (an := an10) (n := 400) tabs9OK (F := OPS) OPS_sound OPS_nice (f := 10) (fn := Try.f10) (code := Try.f10.body.getD .skip) (by kernel_rfl) (by kernel_rfl) (by kernel_rfl) fun x => by kernel_rfl
noncomputable def tabs10 : Tabs := Tabs.add tabs9 10 ⟨as10, rs10, m10⟩
theorem tabs10OK : TabOK Try.prog tabs10 := TabOK.add tabs9OK c10 Try.call10
end Go.Proofs.Ytblachgndbmhaaa
/-
  Models that can be run: a loop with a bound on its rounds answers less than the loop.
  No conditions.
-/
namespace Go.PE
/-- a answers no more than b. -/
def Le {α : Type} (a b : Option α) : Prop := ∀ r, a = some r → b = some r
theorem Le.refl {α : Type} (a : Option α) : Le a a := fun _ h => h
theorem Le.bind {α β : Type} {a a' : Option α} {f f' : α → Option β} (h : Le a a') (hf : ∀ x, Le (f x) (f' x)) : Le (Option.bind a f) (Option.bind a' f') := by
  intro r hr
  cases a with
  | none => cases hr
  | some x =>
    rw [h x rfl]
    exact hf x r hr
theorem Le.cond {α : Type} {c : Bool} {a a' b b' : Option α} (h : Le a a') (h' : Le b b') : Le (cond c a b) (cond c a' b') := by
  cases c
  · exact h'
  · exact h
theorem Le.elim {α β γ : Type} {f f' : α → Option γ} {g g' : β → Option γ} (hf : ∀ x, Le (f x) (f' x)) (hg : ∀ x, Le (g x) (g' x)) (x : α ⊕ β) : Le (Sum.elim f g x) (Sum.elim f' g' x) := by
  cases x with
  | inl a => exact hf a
  | inr b => exact hg b
theorem Le.iter {σ β : Type} {body body' : σ → Option (σ ⊕ β)} (h : ∀ s, Le (body s) (body' s)) : ∀ (n : Nat) (s : σ), Le (iterM body n s) (iterM body' n s)
  | 0, _ => Le.refl _
  | n + 1, s => by
    unfold iterM
    exact Le.bind (h s) fun x => Le.elim (Le.iter h n) (fun _ => Le.refl _) x
/-- A loop of at most 4096 rounds. -/
def loopF {σ β : Type} (body : σ → Option (σ ⊕ β)) (s : σ) : Option β := iterM body 4096 s
theorem Le.loop {σ β : Type} {body body' : σ → Option (σ ⊕ β)} (h : ∀ s, Le (body s) (body' s)) (s : σ) : Le (loopF body s) (loopM body' s) :=
  fun r hr => loopM_iff.2 ⟨4096, Le.iter h 4096 s r hr⟩
theorem Le.out {α : Type} {a b : Option α} (h : Le a b) {r : α} (e : a = some r) : b = some r := h r e
attribute [irreducible] Le
end Go.PE
/-
  What is known of a law's arguments (ranges, lengths), and plain laws of the words of models.
  No conditions.
-/
namespace Go.PE
open Go Go.Abs
/-- Integers are in their ranges, lists are not longer than a slice can be. -/
def InR : (t : Ty) → t.den → Prop
  | .int k, x => k.has x
  | .bool, _ => True
  | .str, x => List.length x ≤ maxLen
  | .list t, xs => List.length xs ≤ maxLen ∧ ∀ (i : Nat) (x : t.den), xs[i]? = some x → InR t x
  | .one t, x => InR t x
  | .pair a b, x => InR a x.1 ∧ InR b x.2
def OkT : (l : List Ty) → Tup (l.map .d) → Prop
  | [], _ => True
  | [t], x => InR t x
  | t :: u :: r, x => InR t x.1 ∧ OkT (u :: r) x.2
section
variable {S : Cells} {w : World} {η : Eta}
theorem Rep.ok : ∀ {t : Ty} {x : t.den} {cs : List Value}, Rep S w t x cs → InR t x
  | .int _, _, _, h => h.2
  | .bool, _, _, _ => trivial
  | .str, _, _, h => h.2
  | .list t, xs, _, h => by
    obtain ⟨base, cap, rfl, h1, h2, h3⟩ := h
    refine ⟨Nat.le_trans h1 h2, fun i x hx => ?_⟩
    rcases h3 with h3 | ⟨b, off, _, h3⟩
    · have : xs = [] := List.length_eq_zero_iff.1 h3
      rw [this] at hx
      cases hx
    · obtain ⟨es, h4, _⟩ := h3 i x hx
      exact Rep.ok h4
  | .one t, x, cs, h => by
    have h' : Rep S w t x cs := h
    exact Rep.ok (t := t) h'
  | .pair a b, x, cs, h => by
    obtain ⟨c1, c2, rfl, h1, h2⟩ := h
    exact ⟨Rep.ok h1, Rep.ok h2⟩
theorem cv_ok : ∀ {t : Ty} {x : t.den} {vs : List Value}, All2 (CM S w η) (t.cv x) vs → InR t x
  | .int _, _, _, .cons h .nil => let ⟨_, a, _⟩ := h.2; Rep.ok a
  | .bool, _, _, _ => trivial
  | .str, _, _, .cons h .nil => let ⟨_, a, _⟩ := h.2; Rep.ok a
  | .list _, _, _, .cons h .nil => let ⟨_, a, _⟩ := h.2; Rep.ok a
  | .one t, x, vs, h => by
    have h' : All2 (CM S w η) (t.cv x) vs := h
    exact cv_ok (t := t) h'
  | .pair a b, x, vs, h => by
    have h' : All2 (CM S w η) (a.cv x.1 ++ b.cv x.2) vs := h
    obtain ⟨b1, b2, rfl, h1, h2⟩ := All2.split h'
    exact ⟨cv_ok h1, cv_ok h2⟩
theorem rv_ok {t : Ty} {x : t.den} {v : Value} (h : RM S w η (t.rv x) v) : InR t x := by
  unfold Ty.rv at h
  split at h
  · obtain ⟨vs, _, h2⟩ := h
    exact cv_ok h2
  · obtain ⟨_, cs, h2, _⟩ := h
    exact Rep.ok h2
theorem rvs_ok : ∀ {l : List Ty} {x : Tup (l.map .d)} {vs : List Value}, All2 (RM S w η) (rvs l x) vs → OkT l x
  | [], _, _, _ => trivial
  | [t], x, _, .cons h .nil => rv_ok h
  | t :: u :: r, x, _, h => by
    have h' : All2 (RM S w η) (t.rv x.1 :: rvs (u :: r) x.2) _ := h
    cases h' with
    | cons h1 h2 => exact ⟨rv_ok h1, rvs_ok (l := u :: r) h2⟩
end
/-- A law whose model is true of all data in range. -/
theorem law_of_ok {args : List Ty} {m : Tup (args.map .d) → Option Bool} (h : ∀ x, OkT args x → m x = some true) :
    ∀ (S : Cells) (w : World) (η : Eta) (vs : List Value) x, All2 (RM S w η) (rvs args x) vs → m x = some true := fun _ _ _ _ x hx => h x (rvs_ok hx)

/-! ### words -/
theorem wrap_in {n : Int} (h1 : -9223372036854775808 ≤ n) (h2 : n ≤ 9223372036854775807) : IntKind.wrap IntKind.i64 n = n := Go.IntWalk.i64_in n ⟨h1, h2⟩
theorem idxM_nat {α : Type} (xs : List α) (i : Nat) : idxM xs (i : Int) = xs[i]? := by
  unfold idxM
  rw [decide_eq_true (by omega : (0 : Int) ≤ i)]
  simp
theorem idxM_lt {α : Type} {xs : List α} {i : Nat} (h : i < xs.length) : idxM xs (i : Int) = some xs[i] := by
  rw [idxM_nat, List.getElem?_eq_getElem h]
theorem idxM_of {α : Type} {xs : List α} {i : Int} (h0 : 0 ≤ i) (h : i < xs.length) : idxM xs i = some (xs[i.toNat]'(by omega)) := by
  unfold idxM
  rw [decide_eq_true h0]
  exact List.getElem?_eq_getElem _
theorem chkM_of {i n : Int} (h0 : 0 ≤ i) (h : i < n) : chkM i n = some () := by
  unfold chkM
  rw [decide_eq_true h0, decide_eq_true h]
theorem appM_of {α : Type} {b : Nat} {xs ys : List α} (h : (xs.length + ys.length) * b ≤ 140737488355328) : appM b xs ys = some (xs ++ ys) := by
  unfold appM
  rw [decide_eq_true h]
theorem mkM_of {α : Type} {n c : Int} {b : Nat} {d : α} (h0 : 0 ≤ n) (h : n ≤ c) (hb : c * b ≤ 140737488355328) : mkM n c b d = some (List.replicate n.toNat d) := by
  unfold mkM
  rw [decide_eq_true h0, decide_eq_true h, decide_eq_true hb]
theorem setM_of {α : Type} {xs : List α} {i : Int} {f : α → Option α} {y : α} (h0 : 0 ≤ i) (h : i < xs.length) (hy : f (xs[i.toNat]'(by omega)) = some y) : setM xs i f = some (xs.set i.toNat y) := by
  unfold setM
  rw [idxM_of h0 h]
  simp only [hy]
theorem sliceM_of {α : Type} {xs : List α} {lo hi : Int} (h0 : 0 ≤ lo) (h : lo ≤ hi) (h2 : hi ≤ xs.length) : sliceM xs lo hi = some ((xs.take hi.toNat).drop lo.toNat) := by
  unfold sliceM
  rw [decide_eq_true h0, decide_eq_true h, decide_eq_true h2]
theorem sameM_self (i : Int) : sameM i i = some () := by
  unfold sameM
  rw [decide_eq_true rfl]
theorem set2M_of {α : Type} {xss : List (List α)} {i j : Int} {f : α → Option α} {y : α} (h0 : 0 ≤ i) (h : i < xss.length) (h1 : 0 ≤ j) (h2 : j < (xss[i.toNat]'(by omega)).length)
    (hy : f ((xss[i.toNat]'(by omega))[j.toNat]'(by omega)) = some y) : set2M xss i j f = some (xss.set i.toNat ((xss[i.toNat]'(by omega)).set j.toNat y)) := by
  unfold set2M
  rw [idxM_of h0 h]
  simp only [setM_of h1 h2 hy]
theorem app2M_of {α : Type} {b : Nat} {xss : List (List α)} {i : Int} {ys : List α} (h0 : 0 ≤ i) (h : i < xss.length) (hb : ((xss[i.toNat]'(by omega)).length + ys.length) * b ≤ 140737488355328) :
    app2M b xss i ys = some (xss.set i.toNat ((xss[i.toNat]'(by omega)) ++ ys)) := by
  unfold app2M
  rw [idxM_of h0 h]
  simp only [appM_of hb]
/-- A loop by an invariant on a count of its rounds. -/
theorem loopM_inv {σ β : Type} {body : σ → Option (σ ⊕ β)} (P : Nat → σ → Prop) (Q : β → Prop) (n : Nat)
    (h : ∀ k s, k ≤ n → P k s → (∃ s', k < n ∧ body s = some (.inl s') ∧ P (k + 1) s') ∨ ∃ r, body s = some (.inr r) ∧ Q r) :
    ∀ (m k : Nat) (s : σ), n - k = m → k ≤ n → P k s → ∃ r, loopM body s = some r ∧ Q r := by
  intro m
  induction m with
  | zero =>
    intro k s hm hk hP
    rcases h k s hk hP with ⟨s', hlt, _⟩ | ⟨r, h1, h2⟩
    · omega
    · exact ⟨r, by rw [loopM_eq, h1]; rfl, h2⟩
  | succ m ih =>
    intro k s hm hk hP
    rcases h k s hk hP with ⟨s', hlt, h1, h2⟩ | ⟨r, h1, h2⟩
    · obtain ⟨r, h3, h4⟩ := ih (k + 1) s' (by omega) (by omega) h2
      exact ⟨r, by rw [loopM_eq, h1]; exact h3, h4⟩
    · exact ⟨r, by rw [loopM_eq, h1]; rfl, h2⟩
theorem loopM_from {σ β : Type} {body : σ → Option (σ ⊕ β)} (P : Nat → σ → Prop) (Q : β → Prop) (n : Nat) {s : σ} (h0 : P 0 s)
    (h : ∀ k s, k ≤ n → P k s → (∃ s', k < n ∧ body s = some (.inl s') ∧ P (k + 1) s') ∨ ∃ r, body s = some (.inr r) ∧ Q r) : ∃ r, loopM body s = some r ∧ Q r :=
  loopM_inv P Q n h n 0 s (by omega) (by omega) h0
/-- A loop whose states are known. -/
theorem loopM_fn {σ β : Type} {body : σ → Option (σ ⊕ β)} (g : Nat → σ) (n : Nat) {r : β} (h : ∀ k, k < n → body (g k) = some (.inl (g (k + 1)))) (he : body (g n) = some (.inr r)) : loopM body (g 0) = some r := by
  obtain ⟨r', h1, h2⟩ := loopM_from (body := body) (fun k s => s = g k) (fun x => x = r) n (s := g 0) rfl fun k s hk hs => by
    subst hs
    by_cases hlt : k < n
    · exact .inl ⟨_, hlt, h k hlt, rfl⟩
    · have : k = n := by omega
      subst this
      exact .inr ⟨r, he, rfl⟩
  rw [h1, h2]
/-- A search for the first place. -/
theorem find_loop {α : Type} {xs : List α} (p : α → Bool) {body : Int → Option (Int ⊕ (Unit ⊕ Int))}
    (hb : ∀ k (hk : k < xs.length), body (k : Int) = some (bif p xs[k] then .inr (.inr (k : Int)) else .inl ((k : Int) + 1))) (he : body (xs.length : Int) = some (.inr (.inl ()))) :
    ∃ o, loopM body 0 = some o ∧ ((o = .inl () ∧ ∀ k (hk : k < xs.length), p xs[k] = false) ∨ ∃ k, ∃ hk : k < xs.length, o = .inr (k : Int) ∧ p xs[k] = true ∧ ∀ j (hj : j < k), p (xs[j]'(by omega)) = false) := by
  refine loopM_from (fun k s => s = (k : Int) ∧ ∀ j (hj : j < xs.length), j < k → p xs[j] = false) _ xs.length (s := 0) ⟨rfl, fun j _ hj => by omega⟩ fun k s hk ⟨hs, hP⟩ => ?_
  subst hs
  by_cases hlt : k < xs.length
  · cases hp : p xs[k] with
    | true => exact .inr ⟨.inr (k : Int), by rw [hb k hlt, hp]; rfl, .inr ⟨k, hlt, rfl, hp, fun j hj => hP j (by omega) hj⟩⟩
    | false =>
      refine .inl ⟨((k + 1 : Nat) : Int), hlt, by rw [hb k hlt, hp]; rfl, rfl, fun j hj hjk => ?_⟩
      by_cases e : j = k
      · subst e; exact hp
      · exact hP j hj (by omega)
  · have : k = xs.length := by omega
    subst this
    exact .inr ⟨_, he, .inl ⟨rfl, fun j hj => hP j hj hj⟩⟩
theorem any_loop {α : Type} {xs : List α} (p : α → Bool) {body : Int → Option (Int ⊕ (Unit ⊕ Int))}
    (hb : ∀ k (hk : k < xs.length), body (k : Int) = some (bif p xs[k] then .inr (.inr (k : Int)) else .inl ((k : Int) + 1))) (he : body (xs.length : Int) = some (.inr (.inl ()))) :
    Option.bind (Option.bind (loopM body 0) (fun o => Sum.elim (fun _ => some (-1 : Int)) (fun t => some t) o)) (fun ov => some (leM 0 ov)) = some (xs.any p) := by
  obtain ⟨o, h1, h2⟩ := find_loop p hb he
  rw [h1]
  rcases h2 with ⟨rfl, h2⟩ | ⟨k, hk, rfl, h2, _⟩
  · have : xs.any p = false := by
      rw [List.any_eq_false]
      intro x hx
      obtain ⟨i, hi, rfl⟩ := List.mem_iff_getElem.1 hx
      simp [h2 i hi]
    rw [this]
    rfl
  · have : xs.any p = true := List.any_eq_true.2 ⟨_, List.getElem_mem hk, h2⟩
    rw [this]
    show some (decide ((0 : Int) ≤ (k : Int))) = some true
    rw [decide_eq_true (by omega)]
end Go.PE
/-
  Tables as functions: rows of given lengths.
  No conditions.
-/
namespace Go.PE
open Go Go.Abs
/-- The first m values of g. -/
def row {α : Type} (m : Nat) (g : Nat → α) : List α := (List.range m).map g
/-- n rows, the i-th of len i values. -/
def rt {α : Type} (n : Nat) (len : Nat → Nat) (d : Nat → Nat → α) : List (List α) := row n fun i => row (len i) (d i)
def upd {α : Type} (d : Nat → Nat → α) (i j : Nat) (y : α) : Nat → Nat → α := fun a b => if a = i ∧ b = j then y else d a b
def upl (len : Nat → Nat) (i m : Nat) : Nat → Nat := fun a => if a = i then m else len a
section
variable {α : Type}
theorem row_length (m : Nat) (g : Nat → α) : (row m g).length = m := by simp [row]
theorem rt_length (n : Nat) (len : Nat → Nat) (d : Nat → Nat → α) : (rt n len d).length = n := row_length _ _
theorem row_get {m : Nat} {g : Nat → α} {i : Nat} (h : i < m) : (row m g)[i]? = some (g i) := by simp [row, h]
theorem row_idx {m : Nat} {g : Nat → α} {i : Nat} (h : i < m) : idxM (row m g) (i : Int) = some (g i) := by rw [idxM_nat, row_get h]
theorem rt_idx {n : Nat} {len : Nat → Nat} {d : Nat → Nat → α} {i : Nat} (h : i < n) : idxM (rt n len d) (i : Int) = some (row (len i) (d i)) := row_idx h
theorem row_congr {m : Nat} {g g' : Nat → α} (h : ∀ i, i < m → g i = g' i) : row m g = row m g' := by
  unfold row
  exact List.map_congr_left fun i hi => h i (List.mem_range.1 hi)
theorem rt_congr {n : Nat} {len len' : Nat → Nat} {d d' : Nat → Nat → α} (hl : ∀ i, i < n → len i = len' i) (h : ∀ i j, i < n → j < len i → d i j = d' i j) : rt n len d = rt n len' d' := by
  refine row_congr fun i hi => ?_
  rw [← hl i hi]
  exact row_congr fun j hj => h i j hi hj
theorem row_set {m : Nat} {g : Nat → α} {i : Nat} (h : i < m) (y : α) : (row m g).set i y = row m fun a => if a = i then y else g a := by
  apply List.ext_getElem?
  intro k
  rw [List.getElem?_set]
  by_cases hk : k < m
  · by_cases e : i = k
    · subst e
      rw [if_pos rfl, if_pos (by rw [row_length]; exact h), row_get h, if_pos rfl]
    · have e' : ¬ k = i := fun x => e x.symm
      simp [e, e', row_get hk]
  · have h1 : i ≠ k := by omega
    rw [if_neg h1, List.getElem?_eq_none (by rw [row_length]; omega), List.getElem?_eq_none (by rw [row_length]; omega)]
theorem row_succ (m : Nat) (g : Nat → α) : row (m + 1) g = row m g ++ [g m] := by simp [row, List.range_succ]
theorem row_zero (g : Nat → α) : row 0 g = [] := rfl
theorem replicate_row (n : Nat) (y : α) : List.replicate n y = row n fun _ => y := by
  apply List.ext_getElem?
  intro k
  by_cases hk : k < n
  · rw [row_get hk]; simp [hk]
  · rw [List.getElem?_eq_none (by simp; omega), List.getElem?_eq_none (by rw [row_length]; omega)]
theorem rt_app {n : Nat} {len : Nat → Nat} {d : Nat → Nat → α} {i b : Nat} (h : i < n) (hb : (len i + 1) * b ≤ 140737488355328) :
    app2M b (rt n len d) (i : Int) [d i (len i)] = some (rt n (upl len i (len i + 1)) d) := by
  unfold app2M
  rw [rt_idx h]
  have e : appM b (row (len i) (d i)) [d i (len i)] = some (row (len i + 1) (d i)) := by
    rw [appM_of (by rw [row_length]; simpa using hb), row_succ]
  simp only [e]
  have ht : ((i : Int)).toNat = i := by omega
  rw [ht]
  unfold rt
  rw [row_set h]
  congr 1
  refine row_congr fun a _ => ?_
  unfold upl
  by_cases e : a = i
  · subst e; simp
  · simp [e]
theorem rt_set {n : Nat} {len : Nat → Nat} {d : Nat → Nat → α} {i j : Nat} {f : α → Option α} {y : α} (h : i < n) (hj : j < len i) (hy : f (d i j) = some y) :
    set2M (rt n len d) (i : Int) (j : Int) f = some (rt n len (upd d i j y)) := by
  unfold set2M
  rw [rt_idx h]
  have e : setM (row (len i) (d i)) (j : Int) f = some (row (len i) (upd d i j y i)) := by
    unfold setM
    rw [row_idx hj]
    simp only [hy]
    have ht : ((j : Int)).toNat = j := by omega
    rw [ht, row_set hj]
    congr 1
    refine row_congr fun b _ => ?_
    unfold upd
    by_cases e : b = j <;> simp [e]
  simp only [e]
  have ht : ((i : Int)).toNat = i := by omega
  rw [ht]
  unfold rt
  rw [row_set h]
  congr 1
  refine row_congr fun a _ => ?_
  by_cases e : a = i
  · subst e; simp
  · rw [if_neg e]
    refine row_congr fun b _ => ?_
    unfold upd
    simp [e]
end
theorem bind_of {α β : Type} {o : Option α} {x : α} {f : α → Option β} {r : Option β} (h : o = some x) (h2 : f x = r) : Option.bind o f = r := by
  rw [h]; exact h2
/-- A loop by an invariant, to a result that is known. -/
theorem loopM_is {σ β : Type} {body : σ → Option (σ ⊕ β)} {s : σ} {r : β} (P : Nat → σ → Prop) (n : Nat) (h0 : P 0 s)
    (h : ∀ k s, k ≤ n → P k s → (∃ s', k < n ∧ body s = some (.inl s') ∧ P (k + 1) s') ∨ body s = some (.inr r)) : loopM body s = some r := by
  obtain ⟨r', h1, h2⟩ := loopM_from P (fun x => x = r) n h0 fun k s hk hP => by
    rcases h k s hk hP with h | h
    · exact .inl h
    · exact .inr ⟨r, h, rfl⟩
  rw [h1, h2]
/-- A loop that counts from 0 to n over states that are known. -/
theorem count_loop {σ β : Type} {body : Int × σ → Option ((Int × σ) ⊕ β)} (g : Nat → σ) (n : Nat) {r : β} (h : ∀ k, k < n → body ((k : Int), g k) = some (.inl ((k : Int) + 1, g (k + 1)))) (he : body ((n : Int), g n) = some (.inr r)) :
    loopM body ((0 : Int), g 0) = some r :=
  loopM_fn (fun k => ((k : Int), g k)) n (fun k hk => h k hk) he
end Go.PE
/-
  What a model answers: rules for binds, conditions and loops with invariants.
  No conditions.
-/
namespace Go.PE
open Go Go.Abs
/-- The model answers, and the answer is as Q says. -/
def Ans {α : Type} (o : Option α) (Q : α → Prop) : Prop := ∃ r, o = some r ∧ Q r
theorem Ans.is {α : Type} {o : Option α} {r : α} (h : Ans o (fun x => x = r)) : o = some r := by
  obtain ⟨x, h1, h2⟩ := h
  rw [h1, h2]
theorem Ans.of {α : Type} {o : Option α} {r : α} {Q : α → Prop} (h : o = some r) (hQ : Q r) : Ans o Q := ⟨r, h, hQ⟩
theorem Ans.some {α : Type} {r : α} {Q : α → Prop} (hQ : Q r) : Ans (some r) Q := ⟨r, rfl, hQ⟩
theorem Ans.mono {α : Type} {o : Option α} {P Q : α → Prop} (h : Ans o P) (hQ : ∀ x, P x → Q x) : Ans o Q := by
  obtain ⟨x, h1, h2⟩ := h
  exact ⟨x, h1, hQ x h2⟩
theorem Ans.bind {α β : Type} {o : Option α} {f : α → Option β} {P : α → Prop} {Q : β → Prop} (h : Ans o P) (hf : ∀ x, P x → Ans (f x) Q) : Ans (Option.bind o f) Q := by
  obtain ⟨x, h1, h2⟩ := h
  rw [h1]
  exact hf x h2
theorem Ans.seq {α β : Type} {o : Option α} {f : α → Option β} {x : α} {Q : β → Prop} (h : o = Option.some x) (hf : Ans (f x) Q) : Ans (Option.bind o f) Q := by
  rw [h]
  exact hf
theorem Ans.cond {α : Type} {c : Bool} {a b : Option α} {Q : α → Prop} (ht : c = true → Ans a Q) (hf : c = false → Ans b Q) : Ans (bif c then a else b) Q := by
  cases c
  · exact hf rfl
  · exact ht rfl
/-- How a round goes on. -/
def Nxt {σ β : Type} (P : σ → Prop) (Q : β → Prop) : σ ⊕ β → Prop
  | .inl s => P s
  | .inr r => Q r
theorem Ans.loop {σ β : Type} {body : σ → Option (σ ⊕ β)} {s : σ} {Q : β → Prop} (P : Nat → σ → Prop) (n : Nat) (h0 : P 0 s)
    (h : ∀ k s, k ≤ n → P k s → Ans (body s) (Nxt (fun s' => k < n ∧ P (k + 1) s') Q)) : Ans (loopM body s) Q := by
  refine loopM_from P Q n h0 fun k s hk hP => ?_
  obtain ⟨o, h1, h2⟩ := h k s hk hP
  cases o with
  | inl s' => exact .inl ⟨s', h2.1, h1, h2.2⟩
  | inr r => exact .inr ⟨r, h1, h2⟩
/-- A loop over all indices of which none stops it: an invariant on the index. -/
theorem ltI {a b : Int} (h : a < b) : ltM a b = true := decide_eq_true h
theorem geI {a b : Int} (h : b ≤ a) : ltM a b = false := decide_eq_false (by omega)
theorem leI {a b : Int} (h : a ≤ b) : leM a b = true := decide_eq_true h
theorem gtI {a b : Int} (h : b < a) : leM a b = false := decide_eq_false (by omega)
theorem eqI {a b : Int} (h : a = b) : eqM a b = true := decide_eq_true h
theorem neI {a b : Int} (h : a ≠ b) : eqM a b = false := decide_eq_false h
theorem notT : notM true = false := rfl
theorem notF : notM false = true := rfl
theorem orT (b : Bool) : orM true b = true := rfl
theorem orF (b : Bool) : orM false b = b := rfl
theorem andT (b : Bool) : andM true b = b := rfl
theorem andF (b : Bool) : andM false b = false := rfl
/-- A number put below n. -/
def pk (c n : Int) : Int := (if c < 0 then -(c + 1) else c) % n
theorem pk_lo {c n : Int} (h : 0 < n) : 0 ≤ pk c n := Int.emod_nonneg _ (by omega)
theorem pk_hi {c n : Int} (h : 0 < n) : pk c n < n := Int.emod_lt_of_pos _ h
theorem remM_of {a b : Int} (ha : 0 ≤ a) (hb : 0 < b) : remM a b = some (a % b) := by
  unfold remM
  rw [decide_eq_false (by omega)]
  show some (a.tmod b) = some (a % b)
  rw [Int.tmod_eq_emod_of_nonneg ha]
theorem divM_pos {k : IntKind} {a b : Int} (hb : b ≠ 0) : divM k a b = some (k.wrap (a.tdiv b)) := by
  unfold divM
  rw [decide_eq_false hb]
/-- The text of every 'pick'. -/
theorem pk_text {c n : Int} (hc : IntKind.i64.has c) (hn : 0 < n) :
    Option.bind (bif ltM c (0 : Int) then some (IntKind.wrap IntKind.i64 (negM (IntKind.wrap IntKind.i64 (c + (1 : Int))))) else some c) (fun (o : Int) => Option.bind (remM o n) fun (r : Int) => some r) = some (pk c n) := by
  have hc' : -9223372036854775808 ≤ c ∧ c ≤ 9223372036854775807 := hc
  unfold pk
  by_cases h : c < 0
  · rw [ltI h, cond_true, Option.bind_some, if_pos h, wrap_in (n := c + 1) (by omega) (by omega)]
    unfold negM
    rw [wrap_in (by omega) (by omega), remM_of (by omega) hn]
    rfl
  · rw [geI (by omega), cond_false, Option.bind_some, if_neg h, remM_of (by omega) hn]
    rfl
theorem row_idxI {α : Type} {m : Nat} {g : Nat → α} {i : Int} (h0 : 0 ≤ i) (h : i < m) : idxM (row m g) i = some (g i.toNat) := by
  obtain ⟨k, rfl⟩ := Int.eq_ofNat_of_zero_le h0
  exact row_idx (by omega)
theorem app_row {α : Type} {b m : Nat} {g : Nat → α} (hb : (m + 1) * b ≤ 140737488355328) : appM b (row m g) [g m] = some (row (m + 1) g) := by
  rw [appM_of (by rw [row_length]; simpa using hb), row_succ]
theorem app_rowOf {α : Type} {b m : Nat} {g : Nat → α} {y : α} (hy : y = g m) (hb : (m + 1) * b ≤ 140737488355328) : appM b (row m g) [y] = some (row (m + 1) g) := by
  rw [hy, app_row hb]
end Go.PE
/-
  The models with loops of bounded rounds, and that they answer no more than the models (printed by gen_twin.py). No conditions.
-/
namespace Go.Proofs.Ytblachgndbmhaaa
open Go Go.Abs Go.PE Go.Proofs
set_option linter.unusedVariables false
set_option maxRecDepth 100000
set_option maxHeartbeats 0
def m37F : (Int × Int × Int) → Option (Bool) :=
  fun (x : Int × Int × Int) => some (PE.andM (leM x.2.1 x.1) (leM x.1 x.2.2))
theorem le37 (x) : Le (m37F x) (m37 x) := by
  unfold m37F m37
  repeat' first | with_reducible exact Le.refl _ | intro _ | apply Le.bind | apply Le.cond | apply Le.loop | apply Le.elim
def m47F : Int → Option (Bool) :=
  fun (x : Int) => Option.bind (m37F (x, (1 : Int), (9999 : Int))) fun (r : Bool) => some (PE.notM r)
theorem le47 (x) : Le (m47F x) (m47 x) := by
  unfold m47F m47
  repeat' first | exact le37 _ | with_reducible exact Le.refl _ | intro _ | apply Le.bind | apply Le.cond | apply Le.loop | apply Le.elim
def m36F : (List Int × Int) → Option (Bool) :=
  fun (x : List Int × Int) =>
    Option.bind (m37F (lenM x.1, (2 : Int), x.2)) fun (r : Bool) =>
      Option.bind
        (bif r then
          Option.bind
            (Option.bind
              (loopF
                (fun (s : Int) =>
                  bif ltM s (lenM x.1) then
                    Option.bind (idxM x.1 s) fun (r_1 : Int) =>
                      Option.bind (m47F r_1) fun (r : Bool) =>
                        bif r then some (Sum.inr (Sum.inr s))
                        else some (Sum.inl (IntKind.wrap IntKind.i64 (s + (1 : Int))))
                  else some (Sum.inr (Sum.inl ())))
                (0 : Int))
              fun (o : Unit ⊕ Int) => Sum.elim (fun (t : Unit) => some (-1 : Int)) (fun (t : Int) => some t) o)
            fun (ov : Int) => some (leM (0 : Int) ov)
        else some false)
        fun (ov : Bool) => some (PE.andM r (PE.notM ov))
theorem le36 (x) : Le (m36F x) (m36 x) := by
  unfold m36F m36
  repeat' first | exact le37 _ | exact le47 _ | with_reducible exact Le.refl _ | intro _ | apply Le.bind | apply Le.cond | apply Le.loop | apply Le.elim
def m17F : (Int × List Int) → Option (Bool) :=
  fun (x : Int × List Int) =>
    Option.bind (m36F (x.2, (200 : Int))) fun (r : Bool) =>
      Option.bind (bif r then m37F (x.1, (0 : Int), IntKind.wrap IntKind.i64 ((2101 : Int) - lenM x.2)) else some false)
        fun (r_1 : Bool) => some (PE.andM r r_1)
theorem le17 (x) : Le (m17F x) (m17 x) := by
  unfold m17F m17
  repeat' first | exact le36 _ | exact le37 _ | with_reducible exact Le.refl _ | intro _ | apply Le.bind | apply Le.cond | apply Le.loop | apply Le.elim
def m25F : List Int → Option (Bool) :=
  fun (x : List Int) => Option.bind (m36F (x, (60 : Int))) fun (r : Bool) => some r
theorem le25 (x) : Le (m25F x) (m25 x) := by
  unfold m25F m25
  repeat' first | exact le36 _ | with_reducible exact Le.refl _ | intro _ | apply Le.bind | apply Le.cond | apply Le.loop | apply Le.elim
def m55F : Int → Option (Bool) :=
  fun (x : Int) => some (PE.notM (eqM x x))
theorem le55 (x) : Le (m55F x) (m55 x) := by
  unfold m55F m55
  repeat' first | with_reducible exact Le.refl _ | intro _ | apply Le.bind | apply Le.cond | apply Le.loop | apply Le.elim
def m45F : (Int × Int) → Option (Int) :=
  fun (x : Int × Int) =>
    Option.bind (m55F x.1) fun (r : Bool) =>
      Option.bind (m55F x.2) fun (r_1 : Bool) =>
        bif r then bif r_1 then some (0 : Int) else some (-1 : Int)
        else
          bif r_1 then some (1 : Int)
          else bif ltM x.1 x.2 then some (-1 : Int) else bif ltM x.2 x.1 then some (1 : Int) else some (0 : Int)
theorem le45 (x) : Le (m45F x) (m45 x) := by
  unfold m45F m45
  repeat' first | exact le55 _ | with_reducible exact Le.refl _ | intro _ | apply Le.bind | apply Le.cond | apply Le.loop | apply Le.elim
def m52F : (Int × Int) → Option (Bool) :=
  fun (x : Int × Int) => some (PE.notM (eqM x.1 x.2))
theorem le52 (x) : Le (m52F x) (m52 x) := by
  unfold m52F m52
  repeat' first | with_reducible exact Le.refl _ | intro _ | apply Le.bind | apply Le.cond | apply Le.loop | apply Le.elim
def m41F : (List Int × List Int) → Option (Int) :=
  fun (x : List Int × List Int) =>
    Option.bind
      (loopF
        (fun (s : Int × Int) =>
          bif ltM s.1 (lenM x.1) then
            Option.bind (idxM x.1 s.1) fun (r : Int) =>
              Option.bind (idxM x.1 (IntKind.wrap IntKind.i64 (s.1 - (1 : Int)))) fun (r_1 : Int) =>
                Option.bind (m45F (r, r_1)) fun (r_2 : Int) =>
                  Option.bind
                    (idxM x.2 (IntKind.wrap IntKind.i64 (IntKind.wrap IntKind.i64 (s.1 - (1 : Int)) + (1 : Int))))
                    fun (r_3 : Int) =>
                    Option.bind (idxM x.2 (IntKind.wrap IntKind.i64 (s.1 - (1 : Int)))) fun (r_4 : Int) =>
                      Option.bind (m45F (r_3, r_4)) fun (r_5 : Int) =>
                        Option.bind (m52F (r_2, r_5)) fun (r : Bool) =>
                          bif r then
                            bif PE.notM true then bif PE.notM false then none else none
                            else
                              bif PE.notM true then none
                              else
                                some
                                  (Sum.inl
                                    (IntKind.wrap IntKind.i64 (s.1 + (1 : Int)),
                                      IntKind.wrap IntKind.i64 (s.2 + (1 : Int))))
                          else
                            bif PE.notM true then bif PE.notM false then none else none
                            else
                              bif PE.notM true then none
                              else some (Sum.inl (IntKind.wrap IntKind.i64 (s.1 + (1 : Int)), s.2))
          else some (Sum.inr s.2))
        ((1 : Int), (0 : Int)))
      fun (o : Int) => some o
theorem le41 (x) : Le (m41F x) (m41 x) := by
  unfold m41F m41
  repeat' first | exact le45 _ | exact le52 _ | with_reducible exact Le.refl _ | intro _ | apply Le.bind | apply Le.cond | apply Le.loop | apply Le.elim
def m27F : ((Int × List Int) × List Int × Int) → Option (Int × Int) :=
  fun (x : (Int × List Int) × List Int × Int) =>
    Option.bind (m17F (x.1.1, x.1.2)) fun (r : Bool) =>
      Option.bind (bif PE.notM (PE.notM r) then m25F x.2.1 else some false) fun (r_1 : Bool) =>
        Option.bind
          (bif PE.notM (PE.orM (PE.notM r) (PE.notM r_1)) then
            m37F (x.2.2, (0 : Int), IntKind.wrap IntKind.i64 (lenM x.1.2 - lenM x.2.1))
          else some false)
          fun (r_2 : Bool) =>
          bif PE.orM (PE.orM (PE.notM r) (PE.notM r_1)) (PE.notM r_2) then some ((0 : Int), (210 : Int))
          else
            Option.bind (sliceM x.1.2 x.2.2 (IntKind.wrap IntKind.i64 (x.2.2 + lenM x.2.1))) fun (r_3 : List Int) =>
              Option.bind (m41F (x.2.1, r_3)) fun (r : Int) => some (r, (0 : Int))
theorem le27 (x) : Le (m27F x) (m27 x) := by
  unfold m27F m27
  repeat' first | exact le17 _ | exact le25 _ | exact le37 _ | exact le41 _ | with_reducible exact Le.refl _ | intro _ | apply Le.bind | apply Le.cond | apply Le.loop | apply Le.elim
def m22F : ((Int × List Int) × List Int) → Option ((List (Int × Int)) × Int) :=
  fun (x : (Int × List Int) × List Int) =>
    Option.bind (m17F (x.1.1, x.1.2)) fun (r : Bool) =>
      Option.bind (bif PE.notM (PE.notM r) then m25F x.2 else some false) fun (r_1 : Bool) =>
        bif PE.orM (PE.notM r) (PE.notM r_1) then some ([], (210 : Int))
        else
          Option.bind
            (loopF
              (fun (s : Int × List (Int × Int)) =>
                bif leM (IntKind.wrap IntKind.i64 (s.1 + lenM x.2)) (lenM x.1.2) then
                  Option.bind (sliceM x.1.2 s.1 (IntKind.wrap IntKind.i64 (s.1 + lenM x.2))) fun (r_2 : List Int) =>
                    Option.bind (m41F (x.2, r_2)) fun (r_3 : Int) =>
                      Option.bind (appM (nat_lit 16) s.2 [(s.1, r_3)]) fun (r : List (Int × Int)) =>
                        some (Sum.inl (IntKind.wrap IntKind.i64 (s.1 + (1 : Int)), r))
                else some (Sum.inr s.2))
              ((0 : Int), []))
            fun (o : List (Int × Int)) =>
            Option.bind (sortM (Ty.pair (Ty.int IntKind.i64) (Ty.int IntKind.i64)) cf43 o) fun (r : List (Int × Int)) =>
              some (r, (0 : Int))
theorem le22 (x) : Le (m22F x) (m22 x) := by
  unfold m22F m22
  repeat' first | exact le17 _ | exact le25 _ | exact le41 _ | with_reducible exact Le.refl _ | intro _ | apply Le.bind | apply Le.cond | apply Le.loop | apply Le.elim
def m29F : ((Int × List Int) × List Int × Int) → Option (Int × Bool × Int) :=
  fun (x : (Int × List Int) × List Int × Int) =>
    Option.bind (m22F ((x.1.1, x.1.2), x.2.1)) fun (r : List (Int × Int) × Int) =>
      Option.bind (bif PE.notM (PE.notM (eqM r.2 (0 : Int))) then m37F (x.2.2, (1 : Int), (60 : Int)) else some false)
        fun (r_1 : Bool) =>
        bif PE.orM (PE.notM (eqM r.2 (0 : Int))) (PE.notM r_1) then some ((0 : Int), false, (210 : Int))
        else
          Option.bind
            (bif PE.andM (PE.notM (eqM (lenM r.1) (0 : Int))) (ltM (1 : Int) (lenM r.1)) then idxM r.1 (1 : Int)
            else some ((0 : Int), (0 : Int)))
            fun (r_2 : Int × Int) =>
            Option.bind
              (bif PE.andM (PE.notM (eqM (lenM r.1) (0 : Int))) (ltM (1 : Int) (lenM r.1)) then idxM r.1 (0 : Int)
              else some ((0 : Int), (0 : Int)))
              fun (r_3 : Int × Int) =>
              bif
                  PE.orM (eqM (lenM r.1) (0 : Int))
                    (PE.andM (ltM (1 : Int) (lenM r.1)) (ltM (IntKind.wrap IntKind.i64 (r_2.2 - r_3.2)) x.2.2)) then
                some ((0 : Int), false, (0 : Int))
              else
                Option.bind (idxM r.1 (0 : Int)) fun (r : Int × Int) =>
                  some (IntKind.wrap IntKind.i64 (x.1.1 + r.1), true, (0 : Int))
theorem le29 (x) : Le (m29F x) (m29 x) := by
  unfold m29F m29
  repeat' first | exact le22 _ | exact le37 _ | with_reducible exact Le.refl _ | intro _ | apply Le.bind | apply Le.cond | apply Le.loop | apply Le.elim
def m31F : ((Int × List Int) × Int × List Int) → Option (Int × Int × Int) :=
  fun (x : (Int × List Int) × Int × List Int) =>
    Option.bind (m17F (x.1.1, x.1.2)) fun (r : Bool) =>
      Option.bind (bif PE.notM (PE.notM r) then m17F (x.2.1, x.2.2) else some false) fun (r_1 : Bool) =>
        bif PE.orM (PE.notM r) (PE.notM r_1) then some ((0 : Int), (0 : Int), (210 : Int))
        else
          bif
              ltM
                (IntKind.wrap IntKind.i64
                  (min (IntKind.wrap IntKind.i64 (x.1.1 + lenM x.1.2)) (IntKind.wrap IntKind.i64 (x.2.1 + lenM x.2.2)) -
                    max x.1.1 x.2.1))
                (2 : Int) then
            some ((0 : Int), (0 : Int), (0 : Int))
          else
            Option.bind
              (sliceM x.1.2 (IntKind.wrap IntKind.i64 (max x.1.1 x.2.1 - x.1.1))
                (IntKind.wrap IntKind.i64
                  (min (IntKind.wrap IntKind.i64 (x.1.1 + lenM x.1.2)) (IntKind.wrap IntKind.i64 (x.2.1 + lenM x.2.2)) -
                    x.1.1)))
              fun (r_2 : List Int) =>
              Option.bind
                (sliceM x.2.2 (IntKind.wrap IntKind.i64 (max x.1.1 x.2.1 - x.2.1))
                  (IntKind.wrap IntKind.i64
                    (min (IntKind.wrap IntKind.i64 (x.1.1 + lenM x.1.2)) (IntKind.wrap IntKind.i64 (x.2.1 + lenM x.2.2)) -
                      x.2.1)))
                fun (r_3 : List Int) =>
                Option.bind (m41F (r_2, r_3)) fun (r : Int) =>
                  some
                    (IntKind.wrap IntKind.i64
                        (IntKind.wrap IntKind.i64
                            (min (IntKind.wrap IntKind.i64 (x.1.1 + lenM x.1.2))
                                (IntKind.wrap IntKind.i64 (x.2.1 + lenM x.2.2)) -
                              max x.1.1 x.2.1) -
                          (1 : Int)),
                      r, (0 : Int))
theorem le31 (x) : Le (m31F x) (m31 x) := by
  unfold m31F m31
  repeat' first | exact le17 _ | exact le41 _ | with_reducible exact Le.refl _ | intro _ | apply Le.bind | apply Le.cond | apply Le.loop | apply Le.elim
def m33F : (Int × Int × Bool) → Option ((Int × Int) × Int) :=
  fun (x : Int × Int × Bool) =>
    Option.bind (m37F (x.1, (0 : Int), (2100 : Int))) fun (r : Bool) =>
      Option.bind (bif PE.notM (PE.notM r) then m37F (x.2.1, (0 : Int), (41 : Int)) else some false) fun (r_1 : Bool) =>
        bif PE.orM (PE.notM r) (PE.notM r_1) then some (((0 : Int), (0 : Int)), (210 : Int))
        else
          Option.bind
            (bif x.2.2 then some (x.1, x.1)
            else
              bif eqM x.2.1 (0 : Int) then some (IntKind.wrap IntKind.i64 (x.1 + (9 : Int)), (2100 : Int))
              else
                some
                  (IntKind.wrap IntKind.i64 (x.1 + max (0 : Int) (IntKind.wrap IntKind.i64 ((9 : Int) - x.2.1))),
                    IntKind.wrap IntKind.i64 (IntKind.wrap IntKind.i64 (x.1 + (41 : Int)) - x.2.1)))
            fun (o : Int × Int) =>
            bif ltM (min o.2 (2100 : Int)) o.1 then some (((0 : Int), (0 : Int)), (210 : Int))
            else some ((o.1, IntKind.wrap IntKind.i64 (min o.2 (2100 : Int) + (1 : Int))), (0 : Int))
theorem le33 (x) : Le (m33F x) (m33 x) := by
  unfold m33F m33
  repeat' first | exact le37 _ | with_reducible exact Le.refl _ | intro _ | apply Le.bind | apply Le.cond | apply Le.loop | apply Le.elim
def m24F : ((List (Int × Int)) × List (Int × Int)) → Option (Bool) :=
  fun (x : List (Int × Int) × List (Int × Int)) =>
    bif PE.notM (eqM (lenM x.1) (lenM x.2)) then some false
    else
      Option.bind
        (loopF
          (fun (s : Int) =>
            bif ltM s (lenM x.1) then
              Option.bind (idxM x.1 s) fun (r : Int × Int) =>
                Option.bind (idxM x.2 s) fun (r_1 : Int × Int) =>
                  bif PE.notM (PE.andM (eqM r.1 r_1.1) (eqM r.2 r_1.2)) then some (Sum.inr (Sum.inr false))
                  else some (Sum.inl (IntKind.wrap IntKind.i64 (s + (1 : Int))))
            else some (Sum.inr (Sum.inl ())))
          (0 : Int))
        fun (o : Unit ⊕ Bool) => Sum.elim (fun (t : Unit) => some true) (fun (t : Bool) => some t) o
theorem le24 (x) : Le (m24F x) (m24 x) := by
  unfold m24F m24
  repeat' first | with_reducible exact Le.refl _ | intro _ | apply Le.bind | apply Le.cond | apply Le.loop | apply Le.elim
def m20F : List Int → Option (List Int) :=
  fun (x : List Int) =>
    Option.bind (m36F (x, (200 : Int))) fun (r : Bool) =>
      bif PE.notM r then some []
      else
        Option.bind
          (loopF
            (fun (s : Int × List Int) =>
              bif ltM s.1 (lenM x) then
                Option.bind (idxM x s.1) fun (r_1 : Int) =>
                  Option.bind (idxM x (IntKind.wrap IntKind.i64 (s.1 - (1 : Int)))) fun (r_2 : Int) =>
                    Option.bind (m45F (r_1, r_2)) fun (r_3 : Int) =>
                      Option.bind (appM (nat_lit 8) s.2 [r_3]) fun (r : List Int) =>
                        bif PE.notM true then none else some (Sum.inl (IntKind.wrap IntKind.i64 (s.1 + (1 : Int)), r))
              else some (Sum.inr s.2))
            ((1 : Int), []))
          fun (o : List Int) => some o
theorem le20 (x) : Le (m20F x) (m20 x) := by
  unfold m20F m20
  repeat' first | exact le36 _ | exact le45 _ | with_reducible exact Le.refl _ | intro _ | apply Le.bind | apply Le.cond | apply Le.loop | apply Le.elim
def m19F : (List Int × List Int) → Option (Bool) :=
  fun (x : List Int × List Int) =>
    bif PE.notM (eqM (lenM x.1) (lenM x.2)) then some false
    else
      Option.bind
        (loopF
          (fun (s : Int) =>
            bif ltM s (lenM x.1) then
              Option.bind (idxM x.1 s) fun (r : Int) =>
                Option.bind (idxM x.2 s) fun (r_1 : Int) =>
                  bif PE.notM (eqM r r_1) then some (Sum.inr (Sum.inr false))
                  else some (Sum.inl (IntKind.wrap IntKind.i64 (s + (1 : Int))))
            else some (Sum.inr (Sum.inl ())))
          (0 : Int))
        fun (o : Unit ⊕ Bool) => Sum.elim (fun (t : Unit) => some true) (fun (t : Bool) => some t) o
theorem le19 (x) : Le (m19F x) (m19 x) := by
  unfold m19F m19
  repeat' first | with_reducible exact Le.refl _ | intro _ | apply Le.bind | apply Le.cond | apply Le.loop | apply Le.elim
def m11F : Unit → Option (Bool) :=
  fun (x : Unit) =>
    Option.bind
      (m27F
        (((1400 : Int),
            [(10 : Int), (12 : Int), (11 : Int), (15 : Int), (14 : Int), (13 : Int), (16 : Int), (18 : Int), (12 : Int)]),
          [(5 : Int), (4 : Int), (9 : Int)], (0 : Int)))
      fun (r : Int × Int) =>
      Option.bind
        (m27F
          (((1400 : Int),
              [(10 : Int), (12 : Int), (11 : Int), (15 : Int), (14 : Int), (13 : Int), (16 : Int), (18 : Int),
                (12 : Int)]),
            [(5 : Int), (4 : Int), (9 : Int)], (1 : Int)))
        fun (r_1 : Int × Int) =>
        Option.bind
          (m27F
            (((1400 : Int),
                [(10 : Int), (12 : Int), (11 : Int), (15 : Int), (14 : Int), (13 : Int), (16 : Int), (18 : Int),
                  (12 : Int)]),
              [(5 : Int), (4 : Int), (9 : Int)], (7 : Int)))
          fun (r_2 : Int × Int) =>
          Option.bind
            (m22F
              (((1400 : Int),
                  [(10 : Int), (12 : Int), (11 : Int), (15 : Int), (14 : Int), (13 : Int), (16 : Int), (18 : Int),
                    (12 : Int)]),
                [(5 : Int), (4 : Int), (3 : Int), (9 : Int)]))
            fun (r_3 : List (Int × Int) × Int) =>
            Option.bind
              (m29F
                (((1400 : Int),
                    [(10 : Int), (12 : Int), (11 : Int), (15 : Int), (14 : Int), (13 : Int), (16 : Int), (18 : Int),
                      (12 : Int)]),
                  [(5 : Int), (4 : Int), (3 : Int), (9 : Int)], (1 : Int)))
              fun (r_4 : Int × Bool × Int) =>
              Option.bind
                (m29F
                  (((1400 : Int),
                      [(10 : Int), (12 : Int), (11 : Int), (15 : Int), (14 : Int), (13 : Int), (16 : Int), (18 : Int),
                        (12 : Int)]),
                    [(5 : Int), (4 : Int), (3 : Int), (9 : Int)], (2 : Int)))
                fun (r_5 : Int × Bool × Int) =>
                Option.bind
                  (m31F
                    (((1400 : Int),
                        [(10 : Int), (12 : Int), (11 : Int), (15 : Int), (14 : Int), (13 : Int), (16 : Int), (18 : Int),
                          (12 : Int)]),
                      (1403 : Int), [(1 : Int), (2 : Int), (3 : Int)]))
                  fun (r_6 : Int × Int × Int) =>
                  Option.bind (m33F ((1500 : Int), (12 : Int), false)) fun (r_7 : (Int × Int) × Int) =>
                    Option.bind (m33F ((1500 : Int), (0 : Int), false)) fun (r_8 : (Int × Int) × Int) =>
                      Option.bind
                        (m24F
                          (r_3.1,
                            [((3 : Int), (0 : Int)), ((0 : Int), (1 : Int)), ((4 : Int), (1 : Int)),
                              ((1 : Int), (2 : Int)), ((2 : Int), (2 : Int)), ((5 : Int), (3 : Int))]))
                        fun (r_9 : Bool) =>
                        Option.bind
                          (bif
                              PE.andM
                                (PE.andM
                                  (PE.andM
                                    (PE.andM
                                      (PE.andM
                                        (PE.andM
                                          (PE.andM
                                            (PE.andM
                                              (PE.andM
                                                (PE.andM
                                                  (PE.andM (PE.andM (eqM r.2 (0 : Int)) (eqM r_1.2 (0 : Int)))
                                                    (eqM r_2.2 (210 : Int)))
                                                  (eqM r_3.2 (0 : Int)))
                                                (eqM r_4.2.2 (0 : Int)))
                                              (eqM r_5.2.2 (0 : Int)))
                                            (eqM r_6.2.2 (0 : Int)))
                                          (eqM r_7.2 (0 : Int)))
                                        (eqM r_8.2 (0 : Int)))
                                      (eqM r.1 (2 : Int)))
                                    (eqM r_1.1 (0 : Int)))
                                  r_9)
                                (PE.andM
                                  (PE.andM
                                    (PE.andM
                                      (PE.andM (PE.andM (PE.andM (eqM r_4.1 (1403 : Int)) r_4.2.1) (PE.notM r_5.2.1))
                                        (eqM r_6.1 (2 : Int)))
                                      (eqM r_6.2.1 (2 : Int)))
                                    (PE.andM (eqM r_7.1.1 (1500 : Int)) (eqM r_7.1.2 (1530 : Int))))
                                  (PE.andM (eqM r_8.1.1 (1509 : Int)) (eqM r_8.1.2 (2101 : Int)))) then
                            m20F
                              [(10 : Int), (12 : Int), (11 : Int), (15 : Int), (14 : Int), (13 : Int), (16 : Int),
                                (18 : Int), (12 : Int)]
                          else some [])
                          fun (r_10 : List Int) =>
                          Option.bind
                            (bif
                                PE.andM
                                  (PE.andM
                                    (PE.andM
                                      (PE.andM
                                        (PE.andM
                                          (PE.andM
                                            (PE.andM
                                              (PE.andM
                                                (PE.andM
                                                  (PE.andM
                                                    (PE.andM (PE.andM (eqM r.2 (0 : Int)) (eqM r_1.2 (0 : Int)))
                                                      (eqM r_2.2 (210 : Int)))
                                                    (eqM r_3.2 (0 : Int)))
                                                  (eqM r_4.2.2 (0 : Int)))
                                                (eqM r_5.2.2 (0 : Int)))
                                              (eqM r_6.2.2 (0 : Int)))
                                            (eqM r_7.2 (0 : Int)))
                                          (eqM r_8.2 (0 : Int)))
                                        (eqM r.1 (2 : Int)))
                                      (eqM r_1.1 (0 : Int)))
                                    r_9)
                                  (PE.andM
                                    (PE.andM
                                      (PE.andM
                                        (PE.andM (PE.andM (PE.andM (eqM r_4.1 (1403 : Int)) r_4.2.1) (PE.notM r_5.2.1))
                                          (eqM r_6.1 (2 : Int)))
                                        (eqM r_6.2.1 (2 : Int)))
                                      (PE.andM (eqM r_7.1.1 (1500 : Int)) (eqM r_7.1.2 (1530 : Int))))
                                    (PE.andM (eqM r_8.1.1 (1509 : Int)) (eqM r_8.1.2 (2101 : Int)))) then
                              m19F
                                (r_10,
                                  [(1 : Int), (-1 : Int), (1 : Int), (-1 : Int), (-1 : Int), (1 : Int), (1 : Int),
                                    (-1 : Int)])
                            else some false)
                            fun (r_11 : Bool) =>
                            Option.bind
                              (bif
                                  PE.andM
                                    (PE.andM
                                      (PE.andM
                                        (PE.andM
                                          (PE.andM
                                            (PE.andM
                                              (PE.andM
                                                (PE.andM
                                                  (PE.andM
                                                    (PE.andM
                                                      (PE.andM
                                                        (PE.andM (PE.andM (eqM r.2 (0 : Int)) (eqM r_1.2 (0 : Int)))
                                                          (eqM r_2.2 (210 : Int)))
                                                        (eqM r_3.2 (0 : Int)))
                                                      (eqM r_4.2.2 (0 : Int)))
                                                    (eqM r_5.2.2 (0 : Int)))
                                                  (eqM r_6.2.2 (0 : Int)))
                                                (eqM r_7.2 (0 : Int)))
                                              (eqM r_8.2 (0 : Int)))
                                            (eqM r.1 (2 : Int)))
                                          (eqM r_1.1 (0 : Int)))
                                        r_9)
                                      (PE.andM
                                        (PE.andM
                                          (PE.andM
                                            (PE.andM
                                              (PE.andM (PE.andM (eqM r_4.1 (1403 : Int)) r_4.2.1) (PE.notM r_5.2.1))
                                              (eqM r_6.1 (2 : Int)))
                                            (eqM r_6.2.1 (2 : Int)))
                                          (PE.andM (eqM r_7.1.1 (1500 : Int)) (eqM r_7.1.2 (1530 : Int))))
                                        (PE.andM (eqM r_8.1.1 (1509 : Int)) (eqM r_8.1.2 (2101 : Int)))))
                                    r_11 then
                                m17F
                                  ((1400 : Int),
                                    [(10 : Int), (12 : Int), (11 : Int), (15 : Int), (14 : Int), (13 : Int), (16 : Int),
                                      (18 : Int), (12 : Int)])
                              else some false)
                              fun (r_12 : Bool) =>
                              Option.bind
                                (bif
                                    PE.andM
                                      (PE.andM
                                        (PE.andM
                                          (PE.andM
                                            (PE.andM
                                              (PE.andM
                                                (PE.andM
                                                  (PE.andM
                                                    (PE.andM
                                                      (PE.andM
                                                        (PE.andM
                                                          (PE.andM
                                                            (PE.andM (PE.andM (eqM r.2 (0 : Int)) (eqM r_1.2 (0 : Int)))
                                                              (eqM r_2.2 (210 : Int)))
                                                            (eqM r_3.2 (0 : Int)))
                                                          (eqM r_4.2.2 (0 : Int)))
                                                        (eqM r_5.2.2 (0 : Int)))
                                                      (eqM r_6.2.2 (0 : Int)))
                                                    (eqM r_7.2 (0 : Int)))
                                                  (eqM r_8.2 (0 : Int)))
                                                (eqM r.1 (2 : Int)))
                                              (eqM r_1.1 (0 : Int)))
                                            r_9)
                                          (PE.andM
                                            (PE.andM
                                              (PE.andM
                                                (PE.andM
                                                  (PE.andM (PE.andM (eqM r_4.1 (1403 : Int)) r_4.2.1) (PE.notM r_5.2.1))
                                                  (eqM r_6.1 (2 : Int)))
                                                (eqM r_6.2.1 (2 : Int)))
                                              (PE.andM (eqM r_7.1.1 (1500 : Int)) (eqM r_7.1.2 (1530 : Int))))
                                            (PE.andM (eqM r_8.1.1 (1509 : Int)) (eqM r_8.1.2 (2101 : Int)))))
                                        r_11)
                                      r_12 then
                                  m17F ((2100 : Int), [(1 : Int), (2 : Int)])
                                else some false)
                                fun (r_13 : Bool) =>
                                Option.bind
                                  (bif
                                      PE.andM
                                        (PE.andM
                                          (PE.andM
                                            (PE.andM
                                              (PE.andM
                                                (PE.andM
                                                  (PE.andM
                                                    (PE.andM
                                                      (PE.andM
                                                        (PE.andM
                                                          (PE.andM
                                                            (PE.andM
                                                              (PE.andM
                                                                (PE.andM
                                                                  (PE.andM (eqM r.2 (0 : Int)) (eqM r_1.2 (0 : Int)))
                                                                  (eqM r_2.2 (210 : Int)))
                                                                (eqM r_3.2 (0 : Int)))
                                                              (eqM r_4.2.2 (0 : Int)))
                                                            (eqM r_5.2.2 (0 : Int)))
                                                          (eqM r_6.2.2 (0 : Int)))
                                                        (eqM r_7.2 (0 : Int)))
                                                      (eqM r_8.2 (0 : Int)))
                                                    (eqM r.1 (2 : Int)))
                                                  (eqM r_1.1 (0 : Int)))
                                                r_9)
                                              (PE.andM
                                                (PE.andM
                                                  (PE.andM
                                                    (PE.andM
                                                      (PE.andM (PE.andM (eqM r_4.1 (1403 : Int)) r_4.2.1)
                                                        (PE.notM r_5.2.1))
                                                      (eqM r_6.1 (2 : Int)))
                                                    (eqM r_6.2.1 (2 : Int)))
                                                  (PE.andM (eqM r_7.1.1 (1500 : Int)) (eqM r_7.1.2 (1530 : Int))))
                                                (PE.andM (eqM r_8.1.1 (1509 : Int)) (eqM r_8.1.2 (2101 : Int)))))
                                            r_11)
                                          r_12)
                                        (PE.notM r_13) then
                                    m25F [(1 : Int), (2 : Int)]
                                  else some false)
                                  fun (r_14 : Bool) =>
                                  Option.bind
                                    (bif
                                        PE.andM
                                          (PE.andM
                                            (PE.andM
                                              (PE.andM
                                                (PE.andM
                                                  (PE.andM
                                                    (PE.andM
                                                      (PE.andM
                                                        (PE.andM
                                                          (PE.andM
                                                            (PE.andM
                                                              (PE.andM
                                                                (PE.andM
                                                                  (PE.andM
                                                                    (PE.andM
                                                                      (PE.andM (eqM r.2 (0 : Int)) (eqM r_1.2 (0 : Int)))
                                                                      (eqM r_2.2 (210 : Int)))
                                                                    (eqM r_3.2 (0 : Int)))
                                                                  (eqM r_4.2.2 (0 : Int)))
                                                                (eqM r_5.2.2 (0 : Int)))
                                                              (eqM r_6.2.2 (0 : Int)))
                                                            (eqM r_7.2 (0 : Int)))
                                                          (eqM r_8.2 (0 : Int)))
                                                        (eqM r.1 (2 : Int)))
                                                      (eqM r_1.1 (0 : Int)))
                                                    r_9)
                                                  (PE.andM
                                                    (PE.andM
                                                      (PE.andM
                                                        (PE.andM
                                                          (PE.andM (PE.andM (eqM r_4.1 (1403 : Int)) r_4.2.1)
                                                            (PE.notM r_5.2.1))
                                                          (eqM r_6.1 (2 : Int)))
                                                        (eqM r_6.2.1 (2 : Int)))
                                                      (PE.andM (eqM r_7.1.1 (1500 : Int)) (eqM r_7.1.2 (1530 : Int))))
                                                    (PE.andM (eqM r_8.1.1 (1509 : Int)) (eqM r_8.1.2 (2101 : Int)))))
                                                r_11)
                                              r_12)
                                            (PE.notM r_13))
                                          r_14 then
                                      m25F [(1 : Int)]
                                    else some false)
                                    fun (r_15 : Bool) =>
                                    some
                                      (PE.andM
                                        (PE.andM
                                          (PE.andM
                                            (PE.andM
                                              (PE.andM
                                                (PE.andM
                                                  (PE.andM
                                                    (PE.andM
                                                      (PE.andM
                                                        (PE.andM
                                                          (PE.andM
                                                            (PE.andM
                                                              (PE.andM
                                                                (PE.andM
                                                                  (PE.andM
                                                                    (PE.andM
                                                                      (PE.andM (eqM r.2 (0 : Int)) (eqM r_1.2 (0 : Int)))
                                                                      (eqM r_2.2 (210 : Int)))
                                                                    (eqM r_3.2 (0 : Int)))
                                                                  (eqM r_4.2.2 (0 : Int)))
                                                                (eqM r_5.2.2 (0 : Int)))
                                                              (eqM r_6.2.2 (0 : Int)))
                                                            (eqM r_7.2 (0 : Int)))
                                                          (eqM r_8.2 (0 : Int)))
                                                        (eqM r.1 (2 : Int)))
                                                      (eqM r_1.1 (0 : Int)))
                                                    r_9)
                                                  (PE.andM
                                                    (PE.andM
                                                      (PE.andM
                                                        (PE.andM
                                                          (PE.andM (PE.andM (eqM r_4.1 (1403 : Int)) r_4.2.1)
                                                            (PE.notM r_5.2.1))
                                                          (eqM r_6.1 (2 : Int)))
                                                        (eqM r_6.2.1 (2 : Int)))
                                                      (PE.andM (eqM r_7.1.1 (1500 : Int)) (eqM r_7.1.2 (1530 : Int))))
                                                    (PE.andM (eqM r_8.1.1 (1509 : Int)) (eqM r_8.1.2 (2101 : Int)))))
                                                r_11)
                                              r_12)
                                            (PE.notM r_13))
                                          r_14)
                                        (PE.notM r_15))
theorem le11 (x) : Le (m11F x) (m11 x) := by
  unfold m11F m11
  repeat' first | exact le17 _ | exact le19 _ | exact le20 _ | exact le22 _ | exact le24 _ | exact le25 _ | exact le27 _ | exact le29 _ | exact le31 _ | exact le33 _ | with_reducible exact Le.refl _ | intro _ | apply Le.bind | apply Le.cond | apply Le.loop | apply Le.elim
end Go.Proofs.Ytblachgndbmhaaa
