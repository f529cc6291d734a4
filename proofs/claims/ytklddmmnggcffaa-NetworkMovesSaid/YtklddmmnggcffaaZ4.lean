/-
  Texts of this proof, put together: Tb, P3, P5, T1, M0, M1.
  No conditions.
-/
import Derived.Test.YtklddmmnggcffaaZ3
import Derived.KernelRfl
import Derived.Test.YtklddmmnggcffaaProg
import Derived.Shelf.SlSortCmp.NoneTotal
import Derived.Shelf.Sort.Plain
import Derived.Shelf.Slices.In.SortNone
import Derived.Shelf.Slices.CompactI
import Derived.Shelf.Lays
import Derived.Shelf.Lays2
set_option linter.all false
/-
  The type table of this seat and its functions, for the pure machine. Written by a program (gen_tabs.py). No conditions.
-/
namespace Go.Proofs.Ytklddmmnggcffaa
open Go Go.Abs Go.PE
set_option maxRecDepth 100000
set_option linter.unusedSimpArgs false
set_option linter.unusedVariables false
section
variable {S : Cells} {w : World} {η : Eta}
theorem zi (k : IntKind) : CM S w η (.d (.int k) (0 : Int)) (.int k 0) := ⟨rfl, VRep.int.2 ⟨rfl, by unfold IntKind.has; cases k <;> decide⟩⟩
theorem zb : CM S w η (.d .bool false) (.bool false) := ⟨rfl, VRep.bool.2 rfl⟩
theorem zs : CM S w η (.d .str ([] : List UInt8)) (.string ⟨#[]⟩) := ⟨rfl, VRep.str.2 ⟨rfl, Nat.zero_le _⟩⟩
end
abbrev tI : Ty := .int .i64
abbrev ty_putlogref10_Numbers : Ty := .pair (.list (.pair (.int .i64) (.int .i64))) (.pair (.list (.int .i64)) (.pair (.list (.pair (.int .i64) (.pair (.int .i64) (.pair (.int .i64) (.int .i64))))) (.pair (.list (.pair (.int .i64) (.pair (.int .i64) (.pair (.int .i64) (.pair (.int .i64) (.int .i64)))))) (.pair (.int .i64) (.pair (.int .i64) (.int .i64))))))
abbrev ty_api_Fix : Ty := .pair (.int .i64) (.pair (.int .i64) (.pair (.int .i64) (.int .i64)))
abbrev ty_api_Sight : Ty := .pair (.int .i64) (.pair (.int .i64) (.pair (.int .i64) (.pair (.int .i64) (.int .i64))))
abbrev ty_api_Control : Ty := .pair (.int .i64) (.pair (.list (ty_api_Fix)) (.list (ty_api_Sight)))
abbrev ty_api_Bound : Ty := .pair (.int .i64) (.pair (.int .i64) (.int .i64))
abbrev ty_api_Between : Ty := .pair (.int .i64) (.list (ty_api_Bound))
abbrev ty_api_Place : Ty := .pair (.int .i64) (.int .i64)
abbrev ty_api_Box : Ty := .pair (.int .i64) (.pair (.int .i64) (.pair (.int .i64) (.int .i64)))
abbrev ty_api_Least : Ty := .pair (.list (.int .i64)) (.pair (.list (.int .i64)) (.int .i64))
abbrev ty_network_vector : Ty := .pair (.int .i64) (.int .i64)
abbrev ty_network_observation : Ty := .pair (ty_network_vector) (.pair (.int .i64) (.pair (.int .i64) (.int .i64)))
def tyTab : List (TypeId × TI) := [
  (1, ⟨false, 1, [.l .nilF], none, .fn⟩),
  (2, ⟨false, 1, [.d (.int .i64) (0 : Int)], some (.int .i64), .int .i64⟩),
  (3, ⟨false, 1, [.d (.int .i64) (0 : Int)], some (.int .i64), .int .i64⟩),
  (4, ⟨false, 1, [.d .bool false], some (.bool), .bool⟩),
  (5, ⟨false, 1, [.d (.int .u8) (0 : Int)], some (.int .u8), .int .u8⟩),
  (7, ⟨true, 4, [.d (.int .i64) (0 : Int), .d (.int .i64) (0 : Int), .d .bool false, .d (.int .u8) (0 : Int)], some (.pair (.int .i64) (.pair (.int .i64) (.pair (.bool) (.int .u8)))), .other⟩),
  (9, ⟨false, 1, [.d .str ([] : List UInt8)], some (.str), .str⟩),
  (12, ⟨false, 1, [.d (.int .u64) (0 : Int)], some (.int .u64), .int .u64⟩),
  (13, ⟨true, 2, [.d .str ([] : List UInt8), .d (.int .u64) (0 : Int)], some (.pair (.str) (.int .u64)), .struct [(0, 9, 1), (1, 12, 1)]⟩),
  (15, ⟨false, 1, [.l .nilP], none, .ptr 163⟩),
  (16, ⟨false, 1, [.l .nilP], none, .ptr 166⟩),
  (17, ⟨false, 1, [.l .nilP], none, .ptr 174⟩),
  (18, ⟨true, 1, [.l .nilP], none, .struct [(0, 17, 1)]⟩),
  (20, ⟨false, 1, [.l .nilI], none, .other⟩),
  (21, ⟨false, 1, [.d (.int .i32) (0 : Int)], some (.int .i32), .int .i32⟩),
  (22, ⟨false, 1, [.l .nilS], some (.list (.pair (.int .i64) (.int .i64))), .slice 109 16⟩),
  (23, ⟨false, 1, [.l .nilS], some (.list (.int .i64)), .slice 3 8⟩),
  (24, ⟨false, 1, [.l .nilS], some (.list (.pair (.int .i64) (.pair (.int .i64) (.pair (.int .i64) (.int .i64))))), .slice 82 32⟩),
  (25, ⟨false, 1, [.l .nilS], some (.list (.pair (.int .i64) (.pair (.int .i64) (.pair (.int .i64) (.pair (.int .i64) (.int .i64)))))), .slice 61 40⟩),
  (26, ⟨true, 3, [.d (.int .i64) (0 : Int), .d (.int .i64) (0 : Int), .d (.int .i64) (0 : Int)], some (.pair (.int .i64) (.pair (.int .i64) (.int .i64))), .array 3 3⟩),
  (27, ⟨true, 7, [.l .nilS, .l .nilS, .l .nilS, .l .nilS, .d (.int .i64) (0 : Int), .d (.int .i64) (0 : Int), .d (.int .i64) (0 : Int)], some (.pair (.list (.pair (.int .i64) (.int .i64))) (.pair (.list (.int .i64)) (.pair (.list (.pair (.int .i64) (.pair (.int .i64) (.pair (.int .i64) (.int .i64))))) (.pair (.list (.pair (.int .i64) (.pair (.int .i64) (.pair (.int .i64) (.pair (.int .i64) (.int .i64)))))) (.pair (.int .i64) (.pair (.int .i64) (.int .i64))))))), .struct [(0, 22, 1), (1, 23, 1), (2, 24, 1), (3, 25, 1), (4, 26, 3)]⟩),
  (28, ⟨true, 7, [.l .nilS, .l .nilS, .l .nilS, .l .nilS, .d (.int .i64) (0 : Int), .d (.int .i64) (0 : Int), .d (.int .i64) (0 : Int)], some (ty_putlogref10_Numbers), .struct [(0, 22, 1), (1, 23, 1), (2, 24, 1), (3, 25, 1), (4, 26, 3)]⟩),
  (29, ⟨false, 1, [.l .nilF], none, .fn⟩),
  (30, ⟨false, 1, [.l .nilS], some (.list (ty_api_Fix)), .slice 58 32⟩),
  (31, ⟨false, 1, [.l .nilS], some (.list (ty_api_Sight)), .slice 64 40⟩),
  (32, ⟨true, 3, [.d (.int .i64) (0 : Int), .l .nilS, .l .nilS], some (.pair (.int .i64) (.pair (.list (ty_api_Fix)) (.list (ty_api_Sight)))), .struct [(0, 3, 1), (1, 30, 1), (2, 31, 1)]⟩),
  (33, ⟨true, 3, [.d (.int .i64) (0 : Int), .l .nilS, .l .nilS], some (ty_api_Control), .struct [(0, 3, 1), (1, 30, 1), (2, 31, 1)]⟩),
  (34, ⟨false, 1, [.l .nilF], none, .fn⟩),
  (36, ⟨false, 1, [.l .nilF], none, .fn⟩),
  (37, ⟨false, 1, [.l .nilS], some (.list (.bool)), .slice 4 1⟩),
  (38, ⟨false, 1, [.l .nilF], none, .fn⟩),
  (39, ⟨false, 1, [.l .nilS], some (.list (.list (.int .i64))), .slice 23 24⟩),
  (40, ⟨false, 1, [.d (.int .i64) (0 : Int)], some (.int .i64), .int .i64⟩),
  (42, ⟨false, 1, [.l .nilF], none, .fn⟩),
  (43, ⟨false, 1, [.l .nilS], some (.list (ty_api_Bound)), .slice 93 24⟩),
  (44, ⟨true, 2, [.d (.int .i64) (0 : Int), .l .nilS], some (.pair (.int .i64) (.list (ty_api_Bound))), .struct [(0, 3, 1), (1, 43, 1)]⟩),
  (45, ⟨true, 2, [.d (.int .i64) (0 : Int), .l .nilS], some (ty_api_Between), .struct [(0, 3, 1), (1, 43, 1)]⟩),
  (46, ⟨false, 1, [.l .nilF], none, .fn⟩),
  (47, ⟨false, 1, [.l .nilS], some (.list (ty_api_Place)), .slice 54 16⟩),
  (48, ⟨true, 4, [.d (.int .i64) (0 : Int), .d (.int .i64) (0 : Int), .d (.int .i64) (0 : Int), .d (.int .i64) (0 : Int)], some (.pair (.int .i64) (.pair (.int .i64) (.pair (.int .i64) (.int .i64)))), .struct [(0, 3, 1), (1, 3, 1), (2, 3, 1), (3, 3, 1)]⟩),
  (49, ⟨true, 4, [.d (.int .i64) (0 : Int), .d (.int .i64) (0 : Int), .d (.int .i64) (0 : Int), .d (.int .i64) (0 : Int)], some (ty_api_Box), .struct [(0, 3, 1), (1, 3, 1), (2, 3, 1), (3, 3, 1)]⟩),
  (51, ⟨false, 1, [.l .nilF], none, .fn⟩),
  (52, ⟨false, 1, [.l .nilF], none, .fn⟩),
  (53, ⟨true, 2, [.d (.int .i64) (0 : Int), .d (.int .i64) (0 : Int)], some (.pair (.int .i64) (.int .i64)), .struct [(0, 3, 1), (1, 3, 1)]⟩),
  (54, ⟨true, 2, [.d (.int .i64) (0 : Int), .d (.int .i64) (0 : Int)], some (ty_api_Place), .struct [(0, 3, 1), (1, 3, 1)]⟩),
  (55, ⟨false, 1, [.l .nilF], none, .fn⟩),
  (56, ⟨false, 1, [.l .nilF], none, .fn⟩),
  (57, ⟨true, 4, [.d (.int .i64) (0 : Int), .d (.int .i64) (0 : Int), .d (.int .i64) (0 : Int), .d (.int .i64) (0 : Int)], some (.pair (.int .i64) (.pair (.int .i64) (.pair (.int .i64) (.int .i64)))), .struct [(0, 3, 1), (1, 3, 1), (2, 3, 1), (3, 3, 1)]⟩),
  (58, ⟨true, 4, [.d (.int .i64) (0 : Int), .d (.int .i64) (0 : Int), .d (.int .i64) (0 : Int), .d (.int .i64) (0 : Int)], some (ty_api_Fix), .struct [(0, 3, 1), (1, 3, 1), (2, 3, 1), (3, 3, 1)]⟩),
  (59, ⟨false, 1, [.l .nilF], none, .fn⟩),
  (60, ⟨false, 1, [.l .nilF], none, .fn⟩),
  (61, ⟨true, 5, [.d (.int .i64) (0 : Int), .d (.int .i64) (0 : Int), .d (.int .i64) (0 : Int), .d (.int .i64) (0 : Int), .d (.int .i64) (0 : Int)], some (.pair (.int .i64) (.pair (.int .i64) (.pair (.int .i64) (.pair (.int .i64) (.int .i64))))), .array 5 3⟩),
  (62, ⟨false, 1, [.l .nilF], none, .fn⟩),
  (63, ⟨true, 5, [.d (.int .i64) (0 : Int), .d (.int .i64) (0 : Int), .d (.int .i64) (0 : Int), .d (.int .i64) (0 : Int), .d (.int .i64) (0 : Int)], some (.pair (.int .i64) (.pair (.int .i64) (.pair (.int .i64) (.pair (.int .i64) (.int .i64))))), .struct [(0, 3, 1), (1, 3, 1), (2, 3, 1), (3, 3, 1), (4, 3, 1)]⟩),
  (64, ⟨true, 5, [.d (.int .i64) (0 : Int), .d (.int .i64) (0 : Int), .d (.int .i64) (0 : Int), .d (.int .i64) (0 : Int), .d (.int .i64) (0 : Int)], some (ty_api_Sight), .struct [(0, 3, 1), (1, 3, 1), (2, 3, 1), (3, 3, 1), (4, 3, 1)]⟩),
  (65, ⟨false, 1, [.l .nilF], none, .fn⟩),
  (66, ⟨false, 1, [.l .nilF], none, .fn⟩),
  (67, ⟨false, 1, [.l .nilF], none, .fn⟩),
  (68, ⟨false, 1, [.l .nilF], none, .fn⟩),
  (69, ⟨false, 1, [.l .nilF], none, .fn⟩),
  (70, ⟨true, 3, [.l .nilS, .l .nilS, .d (.int .i64) (0 : Int)], some (.pair (.list (.int .i64)) (.pair (.list (.int .i64)) (.int .i64))), .struct [(0, 23, 1), (1, 23, 1), (2, 3, 1)]⟩),
  (71, ⟨true, 3, [.l .nilS, .l .nilS, .d (.int .i64) (0 : Int)], some (ty_api_Least), .struct [(0, 23, 1), (1, 23, 1), (2, 3, 1)]⟩),
  (73, ⟨false, 1, [.l .nilF], none, .fn⟩),
  (74, ⟨false, 1, [.l .nilF], none, .fn⟩),
  (75, ⟨false, 1, [.l .nilF], none, .fn⟩),
  (76, ⟨false, 1, [.l .nilF], none, .fn⟩),
  (77, ⟨false, 1, [.l .nilF], none, .fn⟩),
  (79, ⟨false, 1, [.l .nilF], none, .fn⟩),
  (80, ⟨false, 1, [.l .nilF], none, .fn⟩),
  (81, ⟨false, 1, [.l .nilF], none, .fn⟩),
  (82, ⟨true, 4, [.d (.int .i64) (0 : Int), .d (.int .i64) (0 : Int), .d (.int .i64) (0 : Int), .d (.int .i64) (0 : Int)], some (.pair (.int .i64) (.pair (.int .i64) (.pair (.int .i64) (.int .i64)))), .array 4 3⟩),
  (83, ⟨false, 1, [.l .nilF], none, .fn⟩),
  (84, ⟨true, 4, [.d (.int .i64) (0 : Int), .l .nilS, .d (.int .i64) (0 : Int), .l .nilS], some (.pair (ty_api_Between) (ty_api_Between)), .array 2 45⟩),
  (85, ⟨false, 1, [.l .nilF], none, .fn⟩),
  (86, ⟨false, 1, [.l .nilF], none, .fn⟩),
  (87, ⟨false, 1, [.l .nilF], none, .fn⟩),
  (88, ⟨false, 1, [.l .nilF], none, .fn⟩),
  (89, ⟨false, 1, [.l .nilF], none, .fn⟩),
  (91, ⟨false, 1, [.l .nilF], none, .fn⟩),
  (92, ⟨true, 3, [.d (.int .i64) (0 : Int), .d (.int .i64) (0 : Int), .d (.int .i64) (0 : Int)], some (.pair (.int .i64) (.pair (.int .i64) (.int .i64))), .struct [(0, 3, 1), (1, 3, 1), (2, 3, 1)]⟩),
  (93, ⟨true, 3, [.d (.int .i64) (0 : Int), .d (.int .i64) (0 : Int), .d (.int .i64) (0 : Int)], some (ty_api_Bound), .struct [(0, 3, 1), (1, 3, 1), (2, 3, 1)]⟩),
  (94, ⟨false, 1, [.l .nilF], none, .fn⟩),
  (95, ⟨false, 1, [.l .nilF], none, .fn⟩),
  (96, ⟨false, 1, [.l .nilF], none, .fn⟩),
  (97, ⟨false, 1, [.l .nilF], none, .fn⟩),
  (98, ⟨false, 1, [.l .nilF], none, .fn⟩),
  (99, ⟨false, 1, [.l .nilF], none, .fn⟩),
  (100, ⟨false, 1, [.l .nilF], none, .fn⟩),
  (101, ⟨true, 2, [.d (.int .i64) (0 : Int), .d (.int .i64) (0 : Int)], some (.pair (.int .i64) (.int .i64)), .struct [(0, 3, 1), (1, 3, 1)]⟩),
  (102, ⟨true, 2, [.d (.int .i64) (0 : Int), .d (.int .i64) (0 : Int)], some (ty_network_vector), .struct [(0, 3, 1), (1, 3, 1)]⟩),
  (103, ⟨true, 5, [.d (.int .i64) (0 : Int), .d (.int .i64) (0 : Int), .d (.int .i64) (0 : Int), .d (.int .i64) (0 : Int), .d (.int .i64) (0 : Int)], some (.pair (ty_network_vector) (.pair (.int .i64) (.pair (.int .i64) (.int .i64)))), .struct [(0, 102, 2), (2, 3, 1), (3, 3, 1), (4, 3, 1)]⟩),
  (104, ⟨true, 5, [.d (.int .i64) (0 : Int), .d (.int .i64) (0 : Int), .d (.int .i64) (0 : Int), .d (.int .i64) (0 : Int), .d (.int .i64) (0 : Int)], some (ty_network_observation), .struct [(0, 102, 2), (2, 3, 1), (3, 3, 1), (4, 3, 1)]⟩),
  (105, ⟨false, 1, [.l .nilF], none, .fn⟩),
  (106, ⟨false, 1, [.l .nilF], none, .fn⟩),
  (107, ⟨false, 1, [.l .nilF], none, .fn⟩),
  (108, ⟨false, 1, [.l .nilF], none, .fn⟩),
  (109, ⟨true, 2, [.d (.int .i64) (0 : Int), .d (.int .i64) (0 : Int)], some (.pair (.int .i64) (.int .i64)), .array 2 3⟩),
  (110, ⟨false, 1, [.l .nilP], none, .ptr 133⟩),
  (111, ⟨false, 1, [.l .nilF], none, .fn⟩),
  (112, ⟨false, 1, [.l .nilF], none, .fn⟩),
  (113, ⟨true, 10, [.d (.int .i64) (0 : Int), .d (.int .i64) (0 : Int), .d (.int .i64) (0 : Int), .d (.int .i64) (0 : Int), .d (.int .i64) (0 : Int), .d (.int .i64) (0 : Int), .d (.int .i64) (0 : Int), .d (.int .i64) (0 : Int), .d (.int .i64) (0 : Int), .d (.int .i64) (0 : Int)], none, .array 10 3⟩),
  (114, ⟨false, 1, [.l .nilF], none, .fn⟩),
  (115, ⟨false, 1, [.l .nilS], none, .slice 114 8⟩),
  (116, ⟨false, 1, [.l .nilS], some (.list (.list (.list (.int .i64)))), .slice 39 24⟩),
  (117, ⟨false, 1, [.l .nilF], none, .fn⟩),
  (118, ⟨false, 1, [.l .nilF], none, .fn⟩),
  (119, ⟨false, 1, [.l .nilF], none, .fn⟩),
  (120, ⟨false, 1, [.l .nilF], none, .fn⟩),
  (121, ⟨false, 1, [.l .nilF], none, .fn⟩),
  (122, ⟨false, 1, [.l .nilF], none, .fn⟩),
  (123, ⟨false, 1, [.d (.int .u64) (0 : Int)], some (.int .u64), .int .u64⟩),
  (124, ⟨false, 1, [.l .nilF], none, .fn⟩),
  (125, ⟨false, 1, [.l .nilF], none, .fn⟩),
  (126, ⟨false, 1, [.l .nilF], none, .fn⟩),
  (127, ⟨false, 1, [.l .nilF], none, .fn⟩),
  (128, ⟨false, 1, [.l .nilF], none, .fn⟩),
  (129, ⟨false, 1, [.l .nilF], none, .fn⟩),
  (130, ⟨false, 1, [.l .nilF], none, .fn⟩),
  (131, ⟨false, 1, [.l .nilF], none, .fn⟩),
  (132, ⟨true, 80, [.d (.int .i64) (0 : Int), .d (.int .i64) (0 : Int), .d (.int .i64) (0 : Int), .d (.int .i64) (0 : Int), .d (.int .i64) (0 : Int), .d (.int .i64) (0 : Int), .d (.int .i64) (0 : Int), .d (.int .i64) (0 : Int), .d (.int .i64) (0 : Int), .d (.int .i64) (0 : Int), .d (.int .i64) (0 : Int), .d (.int .i64) (0 : Int), .d (.int .i64) (0 : Int), .d (.int .i64) (0 : Int), .d (.int .i64) (0 : Int), .d (.int .i64) (0 : Int), .d (.int .i64) (0 : Int), .d (.int .i64) (0 : Int), .d (.int .i64) (0 : Int), .d (.int .i64) (0 : Int), .d (.int .i64) (0 : Int), .d (.int .i64) (0 : Int), .d (.int .i64) (0 : Int), .d (.int .i64) (0 : Int), .d (.int .i64) (0 : Int), .d (.int .i64) (0 : Int), .d (.int .i64) (0 : Int), .d (.int .i64) (0 : Int), .d (.int .i64) (0 : Int), .d (.int .i64) (0 : Int), .d (.int .i64) (0 : Int), .d (.int .i64) (0 : Int), .d (.int .i64) (0 : Int), .d (.int .i64) (0 : Int), .d (.int .i64) (0 : Int), .d (.int .i64) (0 : Int), .d (.int .i64) (0 : Int), .d (.int .i64) (0 : Int), .d (.int .i64) (0 : Int), .d (.int .i64) (0 : Int), .d (.int .i64) (0 : Int), .d (.int .i64) (0 : Int), .d (.int .i64) (0 : Int), .d (.int .i64) (0 : Int), .d (.int .i64) (0 : Int), .d (.int .i64) (0 : Int), .d (.int .i64) (0 : Int), .d (.int .i64) (0 : Int), .d (.int .i64) (0 : Int), .d (.int .i64) (0 : Int), .d (.int .i64) (0 : Int), .d (.int .i64) (0 : Int), .d (.int .i64) (0 : Int), .d (.int .i64) (0 : Int), .d (.int .i64) (0 : Int), .d (.int .i64) (0 : Int), .d (.int .i64) (0 : Int), .d (.int .i64) (0 : Int), .d (.int .i64) (0 : Int), .d (.int .i64) (0 : Int), .d (.int .i64) (0 : Int), .d (.int .i64) (0 : Int), .d (.int .i64) (0 : Int), .d (.int .i64) (0 : Int), .d (.int .i64) (0 : Int), .d (.int .i64) (0 : Int), .d (.int .i64) (0 : Int), .d (.int .i64) (0 : Int), .d (.int .i64) (0 : Int), .d (.int .i64) (0 : Int), .d (.int .i64) (0 : Int), .d (.int .i64) (0 : Int), .d (.int .i64) (0 : Int), .d (.int .i64) (0 : Int), .d (.int .i64) (0 : Int), .d (.int .i64) (0 : Int), .d (.int .i64) (0 : Int), .d (.int .i64) (0 : Int), .d (.int .i64) (0 : Int), .d (.int .i64) (0 : Int)], none, .array 8 113⟩),
  (133, ⟨true, 80, [.d (.int .i64) (0 : Int), .d (.int .i64) (0 : Int), .d (.int .i64) (0 : Int), .d (.int .i64) (0 : Int), .d (.int .i64) (0 : Int), .d (.int .i64) (0 : Int), .d (.int .i64) (0 : Int), .d (.int .i64) (0 : Int), .d (.int .i64) (0 : Int), .d (.int .i64) (0 : Int), .d (.int .i64) (0 : Int), .d (.int .i64) (0 : Int), .d (.int .i64) (0 : Int), .d (.int .i64) (0 : Int), .d (.int .i64) (0 : Int), .d (.int .i64) (0 : Int), .d (.int .i64) (0 : Int), .d (.int .i64) (0 : Int), .d (.int .i64) (0 : Int), .d (.int .i64) (0 : Int), .d (.int .i64) (0 : Int), .d (.int .i64) (0 : Int), .d (.int .i64) (0 : Int), .d (.int .i64) (0 : Int), .d (.int .i64) (0 : Int), .d (.int .i64) (0 : Int), .d (.int .i64) (0 : Int), .d (.int .i64) (0 : Int), .d (.int .i64) (0 : Int), .d (.int .i64) (0 : Int), .d (.int .i64) (0 : Int), .d (.int .i64) (0 : Int), .d (.int .i64) (0 : Int), .d (.int .i64) (0 : Int), .d (.int .i64) (0 : Int), .d (.int .i64) (0 : Int), .d (.int .i64) (0 : Int), .d (.int .i64) (0 : Int), .d (.int .i64) (0 : Int), .d (.int .i64) (0 : Int), .d (.int .i64) (0 : Int), .d (.int .i64) (0 : Int), .d (.int .i64) (0 : Int), .d (.int .i64) (0 : Int), .d (.int .i64) (0 : Int), .d (.int .i64) (0 : Int), .d (.int .i64) (0 : Int), .d (.int .i64) (0 : Int), .d (.int .i64) (0 : Int), .d (.int .i64) (0 : Int), .d (.int .i64) (0 : Int), .d (.int .i64) (0 : Int), .d (.int .i64) (0 : Int), .d (.int .i64) (0 : Int), .d (.int .i64) (0 : Int), .d (.int .i64) (0 : Int), .d (.int .i64) (0 : Int), .d (.int .i64) (0 : Int), .d (.int .i64) (0 : Int), .d (.int .i64) (0 : Int), .d (.int .i64) (0 : Int), .d (.int .i64) (0 : Int), .d (.int .i64) (0 : Int), .d (.int .i64) (0 : Int), .d (.int .i64) (0 : Int), .d (.int .i64) (0 : Int), .d (.int .i64) (0 : Int), .d (.int .i64) (0 : Int), .d (.int .i64) (0 : Int), .d (.int .i64) (0 : Int), .d (.int .i64) (0 : Int), .d (.int .i64) (0 : Int), .d (.int .i64) (0 : Int), .d (.int .i64) (0 : Int), .d (.int .i64) (0 : Int), .d (.int .i64) (0 : Int), .d (.int .i64) (0 : Int), .d (.int .i64) (0 : Int), .d (.int .i64) (0 : Int), .d (.int .i64) (0 : Int)], none, .array 8 113⟩),
  (134, ⟨false, 1, [.l .nilF], none, .fn⟩),
  (135, ⟨false, 1, [.l .nilF], none, .fn⟩),
  (136, ⟨false, 1, [.l .nilF], none, .fn⟩),
  (137, ⟨false, 1, [.l .nilF], none, .fn⟩),
  (138, ⟨false, 1, [.l .nilF], none, .fn⟩),
  (139, ⟨false, 1, [.d (.int .i64) (0 : Int)], some (.int .i64), .int .i64⟩),
  (141, ⟨false, 1, [.l .nilF], none, .fn⟩),
  (142, ⟨false, 1, [.l .nilF], none, .fn⟩),
  (143, ⟨false, 1, [.l .nilF], none, .fn⟩),
  (144, ⟨false, 1, [.l .nilF], none, .fn⟩),
  (146, ⟨false, 1, [.l .nilF], none, .fn⟩),
  (147, ⟨false, 1, [.l .nilF], none, .fn⟩),
  (148, ⟨false, 1, [.d (.int .u32) (0 : Int)], some (.int .u32), .int .u32⟩),
  (149, ⟨false, 1, [.l .nilF], none, .fn⟩),
  (150, ⟨false, 1, [.d (.int .u64) (0 : Int)], some (.int .u64), .int .u64⟩),
  (151, ⟨false, 1, [.d (.int .u64) (0 : Int)], some (.int .u64), .int .u64⟩),
  (152, ⟨false, 1, [.l .nilF], none, .fn⟩),
  (153, ⟨false, 1, [.l .nilF], none, .fn⟩),
  (154, ⟨false, 1, [.l .nilF], none, .fn⟩),
  (155, ⟨false, 1, [.l .nilP], none, .ptr 3⟩),
  (156, ⟨false, 1, [.l .nilF], none, .fn⟩),
  (157, ⟨false, 1, [.l .nilF], none, .fn⟩),
  (158, ⟨false, 1, [.l .nilP], none, .ptr 151⟩),
  (160, ⟨false, 1, [.l .nilF], none, .fn⟩),
  (161, ⟨false, 1, [.l .nilF], none, .fn⟩),
  (162, ⟨true, 4, [.l .nilP, .l .nilP, .l .nilP, .d .str ([] : List UInt8)], none, .struct [(0, 17, 1), (1, 17, 1), (2, 17, 1), (3, 9, 1)]⟩),
  (165, ⟨true, 0, [], none, .other⟩),
  (169, ⟨false, 1, [.l .nilF], none, .fn⟩),
  (170, ⟨false, 1, [.l .nilP], none, .ptr 5⟩),
  (173, ⟨true, 11, [.d (.int .u64) (0 : Int), .d (.int .u64) (0 : Int), .d (.int .u32) (0 : Int), .d (.int .u8) (0 : Int), .d (.int .u8) (0 : Int), .d (.int .u8) (0 : Int), .d (.int .u8) (0 : Int), .l .nilF, .l .nilP, .d (.int .i32) (0 : Int), .d (.int .i32) (0 : Int)], none, .other⟩)]
theorem ti1 : TIok Try.prog 1 ⟨false, 1, [.l .nilF], none, .fn⟩ :=
  ⟨Try.isAgg1, Try.sizeOf1, ⟨_, Try.zeroValue1, ⟨[Value.nilFunc], rfl, fun S w η => .cons (rfl) (.nil)⟩, (fun T h => by cases h)⟩, (fun T h => by cases h), ⟨_, _, _, Try.runUnderlying1⟩⟩
theorem ti2 : TIok Try.prog 2 ⟨false, 1, [.d (.int .i64) (0 : Int)], some (.int .i64), .int .i64⟩ :=
  ⟨Try.isAgg2, Try.sizeOf2, ⟨_, Try.zeroValue2, ⟨[Value.int IntKind.i64 0], rfl, fun S w η => .cons (zi _) (.nil)⟩, (fun T h => by cases h; rfl)⟩, (fun T h => by cases h; exact ⟨rfl, rfl⟩), Try.runUnderlying2⟩
theorem ti3 : TIok Try.prog 3 ⟨false, 1, [.d (.int .i64) (0 : Int)], some (.int .i64), .int .i64⟩ :=
  ⟨Try.isAgg3, Try.sizeOf3, ⟨_, Try.zeroValue3, ⟨[Value.int IntKind.i64 0], rfl, fun S w η => .cons (zi _) (.nil)⟩, (fun T h => by cases h; rfl)⟩, (fun T h => by cases h; exact ⟨rfl, rfl⟩), Try.runUnderlying3⟩
theorem ti4 : TIok Try.prog 4 ⟨false, 1, [.d .bool false], some (.bool), .bool⟩ :=
  ⟨Try.isAgg4, Try.sizeOf4, ⟨_, Try.zeroValue4, ⟨[Value.bool false], rfl, fun S w η => .cons (zb) (.nil)⟩, (fun T h => by cases h; rfl)⟩, (fun T h => by cases h; exact ⟨rfl, rfl⟩), Try.runUnderlying4⟩
theorem ti5 : TIok Try.prog 5 ⟨false, 1, [.d (.int .u8) (0 : Int)], some (.int .u8), .int .u8⟩ :=
  ⟨Try.isAgg5, Try.sizeOf5, ⟨_, Try.zeroValue5, ⟨[Value.int IntKind.u8 0], rfl, fun S w η => .cons (zi _) (.nil)⟩, (fun T h => by cases h; rfl)⟩, (fun T h => by cases h; exact ⟨rfl, rfl⟩), Try.runUnderlying5⟩
theorem ti7 : TIok Try.prog 7 ⟨true, 4, [.d (.int .i64) (0 : Int), .d (.int .i64) (0 : Int), .d .bool false, .d (.int .u8) (0 : Int)], some (.pair (.int .i64) (.pair (.int .i64) (.pair (.bool) (.int .u8)))), .other⟩ :=
  ⟨Try.isAgg7, Try.sizeOf7, ⟨_, Try.zeroValue7, ⟨[Value.int IntKind.i64 0, Value.int IntKind.i64 0, Value.bool false, Value.int IntKind.u8 0], rfl, fun S w η => .cons (zi _) (.cons (zi _) (.cons (zb) (.cons (zi _) (.nil))))⟩, (fun T h => by cases h; rfl)⟩, (fun T h => by cases h; exact ⟨rfl, rfl⟩), trivial⟩
theorem ti9 : TIok Try.prog 9 ⟨false, 1, [.d .str ([] : List UInt8)], some (.str), .str⟩ :=
  ⟨Try.isAgg9, Try.sizeOf9, ⟨_, Try.zeroValue9, ⟨[Value.string ⟨#[]⟩], rfl, fun S w η => .cons (zs) (.nil)⟩, (fun T h => by cases h; rfl)⟩, (fun T h => by cases h; exact ⟨rfl, rfl⟩), Try.runUnderlying9⟩
theorem ti12 : TIok Try.prog 12 ⟨false, 1, [.d (.int .u64) (0 : Int)], some (.int .u64), .int .u64⟩ :=
  ⟨Try.isAgg12, Try.sizeOf12, ⟨_, Try.zeroValue12, ⟨[Value.int IntKind.u64 0], rfl, fun S w η => .cons (zi _) (.nil)⟩, (fun T h => by cases h; rfl)⟩, (fun T h => by cases h; exact ⟨rfl, rfl⟩), Try.runUnderlying12⟩
theorem ti13 : TIok Try.prog 13 ⟨true, 2, [.d .str ([] : List UInt8), .d (.int .u64) (0 : Int)], some (.pair (.str) (.int .u64)), .struct [(0, 9, 1), (1, 12, 1)]⟩ :=
  ⟨Try.isAgg13, Try.sizeOf13, ⟨_, Try.zeroValue13, ⟨[Value.string ⟨#[]⟩, Value.int IntKind.u64 0], rfl, fun S w η => .cons (zs) (.cons (zi _) (.nil))⟩, (fun T h => by cases h; rfl)⟩, (fun T h => by cases h; exact ⟨rfl, rfl⟩), ⟨_, Try.runUnderlying13, rfl, fun w => by simp [Try.sizeOf12, Try.sizeOf9]⟩⟩
theorem ti15 : TIok Try.prog 15 ⟨false, 1, [.l .nilP], none, .ptr 163⟩ :=
  ⟨Try.isAgg15, Try.sizeOf15, ⟨_, Try.zeroValue15, ⟨[Value.pointer none], rfl, fun S w η => .cons (rfl) (.nil)⟩, (fun T h => by cases h)⟩, (fun T h => by cases h), Try.runUnderlying15⟩
theorem ti16 : TIok Try.prog 16 ⟨false, 1, [.l .nilP], none, .ptr 166⟩ :=
  ⟨Try.isAgg16, Try.sizeOf16, ⟨_, Try.zeroValue16, ⟨[Value.pointer none], rfl, fun S w η => .cons (rfl) (.nil)⟩, (fun T h => by cases h)⟩, (fun T h => by cases h), Try.runUnderlying16⟩
theorem ti17 : TIok Try.prog 17 ⟨false, 1, [.l .nilP], none, .ptr 174⟩ :=
  ⟨Try.isAgg17, Try.sizeOf17, ⟨_, Try.zeroValue17, ⟨[Value.pointer none], rfl, fun S w η => .cons (rfl) (.nil)⟩, (fun T h => by cases h)⟩, (fun T h => by cases h), Try.runUnderlying17⟩
theorem ti18 : TIok Try.prog 18 ⟨true, 1, [.l .nilP], none, .struct [(0, 17, 1)]⟩ :=
  ⟨Try.isAgg18, Try.sizeOf18, ⟨_, Try.zeroValue18, ⟨[Value.pointer none], rfl, fun S w η => .cons (rfl) (.nil)⟩, (fun T h => by cases h)⟩, (fun T h => by cases h), ⟨_, Try.runUnderlying18, rfl, fun w => by simp [Try.sizeOf17]⟩⟩
theorem ti20 : TIok Try.prog 20 ⟨false, 1, [.l .nilI], none, .other⟩ :=
  ⟨Try.isAgg20, Try.sizeOf20, ⟨_, Try.zeroValue20, ⟨[Value.nilIface], rfl, fun S w η => .cons (rfl) (.nil)⟩, (fun T h => by cases h)⟩, (fun T h => by cases h), trivial⟩
theorem ti21 : TIok Try.prog 21 ⟨false, 1, [.d (.int .i32) (0 : Int)], some (.int .i32), .int .i32⟩ :=
  ⟨Try.isAgg21, Try.sizeOf21, ⟨_, Try.zeroValue21, ⟨[Value.int IntKind.i32 0], rfl, fun S w η => .cons (zi _) (.nil)⟩, (fun T h => by cases h; rfl)⟩, (fun T h => by cases h; exact ⟨rfl, rfl⟩), Try.runUnderlying21⟩
theorem ti22 : TIok Try.prog 22 ⟨false, 1, [.l .nilS], some (.list (.pair (.int .i64) (.int .i64))), .slice 109 16⟩ :=
  ⟨Try.isAgg22, Try.sizeOf22, ⟨_, Try.zeroValue22, ⟨[Value.slice none 0 0], rfl, fun S w η => .cons (rfl) (.nil)⟩, (fun T h => by cases h; rfl)⟩, (fun T h => by cases h; exact ⟨rfl, rfl⟩), ⟨Try.underlying22, by decide, Try.t109, _, rfl, rfl, rfl, Try.zeroValue109, Try.sizeOf109⟩⟩
theorem ti23 : TIok Try.prog 23 ⟨false, 1, [.l .nilS], some (.list (.int .i64)), .slice 3 8⟩ :=
  ⟨Try.isAgg23, Try.sizeOf23, ⟨_, Try.zeroValue23, ⟨[Value.slice none 0 0], rfl, fun S w η => .cons (rfl) (.nil)⟩, (fun T h => by cases h; rfl)⟩, (fun T h => by cases h; exact ⟨rfl, rfl⟩), ⟨Try.underlying23, by decide, Try.t3, _, rfl, rfl, rfl, Try.zeroValue3, Try.sizeOf3⟩⟩
theorem ti24 : TIok Try.prog 24 ⟨false, 1, [.l .nilS], some (.list (.pair (.int .i64) (.pair (.int .i64) (.pair (.int .i64) (.int .i64))))), .slice 82 32⟩ :=
  ⟨Try.isAgg24, Try.sizeOf24, ⟨_, Try.zeroValue24, ⟨[Value.slice none 0 0], rfl, fun S w η => .cons (rfl) (.nil)⟩, (fun T h => by cases h; rfl)⟩, (fun T h => by cases h; exact ⟨rfl, rfl⟩), ⟨Try.underlying24, by decide, Try.t82, _, rfl, rfl, rfl, Try.zeroValue82, Try.sizeOf82⟩⟩
theorem ti25 : TIok Try.prog 25 ⟨false, 1, [.l .nilS], some (.list (.pair (.int .i64) (.pair (.int .i64) (.pair (.int .i64) (.pair (.int .i64) (.int .i64)))))), .slice 61 40⟩ :=
  ⟨Try.isAgg25, Try.sizeOf25, ⟨_, Try.zeroValue25, ⟨[Value.slice none 0 0], rfl, fun S w η => .cons (rfl) (.nil)⟩, (fun T h => by cases h; rfl)⟩, (fun T h => by cases h; exact ⟨rfl, rfl⟩), ⟨Try.underlying25, by decide, Try.t61, _, rfl, rfl, rfl, Try.zeroValue61, Try.sizeOf61⟩⟩
theorem ti26 : TIok Try.prog 26 ⟨true, 3, [.d (.int .i64) (0 : Int), .d (.int .i64) (0 : Int), .d (.int .i64) (0 : Int)], some (.pair (.int .i64) (.pair (.int .i64) (.int .i64))), .array 3 3⟩ :=
  ⟨Try.isAgg26, Try.sizeOf26, ⟨_, Try.zeroValue26, ⟨[Value.int IntKind.i64 0, Value.int IntKind.i64 0, Value.int IntKind.i64 0], rfl, fun S w η => .cons (zi _) (.cons (zi _) (.cons (zi _) (.nil)))⟩, (fun T h => by cases h; rfl)⟩, (fun T h => by cases h; exact ⟨rfl, rfl⟩), Try.runUnderlying26⟩
theorem ti27 : TIok Try.prog 27 ⟨true, 7, [.l .nilS, .l .nilS, .l .nilS, .l .nilS, .d (.int .i64) (0 : Int), .d (.int .i64) (0 : Int), .d (.int .i64) (0 : Int)], some (.pair (.list (.pair (.int .i64) (.int .i64))) (.pair (.list (.int .i64)) (.pair (.list (.pair (.int .i64) (.pair (.int .i64) (.pair (.int .i64) (.int .i64))))) (.pair (.list (.pair (.int .i64) (.pair (.int .i64) (.pair (.int .i64) (.pair (.int .i64) (.int .i64)))))) (.pair (.int .i64) (.pair (.int .i64) (.int .i64))))))), .struct [(0, 22, 1), (1, 23, 1), (2, 24, 1), (3, 25, 1), (4, 26, 3)]⟩ :=
  ⟨Try.isAgg27, Try.sizeOf27, ⟨_, Try.zeroValue27, ⟨[Value.slice none 0 0, Value.slice none 0 0, Value.slice none 0 0, Value.slice none 0 0, Value.int IntKind.i64 0, Value.int IntKind.i64 0, Value.int IntKind.i64 0], rfl, fun S w η => .cons (rfl) (.cons (rfl) (.cons (rfl) (.cons (rfl) (.cons (zi _) (.cons (zi _) (.cons (zi _) (.nil)))))))⟩, (fun T h => by cases h; rfl)⟩, (fun T h => by cases h; exact ⟨rfl, rfl⟩), ⟨_, Try.runUnderlying27, rfl, fun w => by simp [Try.sizeOf22, Try.sizeOf23, Try.sizeOf24, Try.sizeOf25, Try.sizeOf26]⟩⟩
theorem ti28 : TIok Try.prog 28 ⟨true, 7, [.l .nilS, .l .nilS, .l .nilS, .l .nilS, .d (.int .i64) (0 : Int), .d (.int .i64) (0 : Int), .d (.int .i64) (0 : Int)], some (ty_putlogref10_Numbers), .struct [(0, 22, 1), (1, 23, 1), (2, 24, 1), (3, 25, 1), (4, 26, 3)]⟩ :=
  ⟨Try.isAgg28, Try.sizeOf28, ⟨_, Try.zeroValue28, ⟨[Value.slice none 0 0, Value.slice none 0 0, Value.slice none 0 0, Value.slice none 0 0, Value.int IntKind.i64 0, Value.int IntKind.i64 0, Value.int IntKind.i64 0], rfl, fun S w η => .cons (rfl) (.cons (rfl) (.cons (rfl) (.cons (rfl) (.cons (zi _) (.cons (zi _) (.cons (zi _) (.nil)))))))⟩, (fun T h => by cases h; rfl)⟩, (fun T h => by cases h; exact ⟨rfl, rfl⟩), ⟨_, Try.runUnderlying28, rfl, fun w => by simp [Try.sizeOf22, Try.sizeOf23, Try.sizeOf24, Try.sizeOf25, Try.sizeOf26]⟩⟩
theorem ti29 : TIok Try.prog 29 ⟨false, 1, [.l .nilF], none, .fn⟩ :=
  ⟨Try.isAgg29, Try.sizeOf29, ⟨_, Try.zeroValue29, ⟨[Value.nilFunc], rfl, fun S w η => .cons (rfl) (.nil)⟩, (fun T h => by cases h)⟩, (fun T h => by cases h), ⟨_, _, _, Try.runUnderlying29⟩⟩
theorem ti30 : TIok Try.prog 30 ⟨false, 1, [.l .nilS], some (.list (ty_api_Fix)), .slice 58 32⟩ :=
  ⟨Try.isAgg30, Try.sizeOf30, ⟨_, Try.zeroValue30, ⟨[Value.slice none 0 0], rfl, fun S w η => .cons (rfl) (.nil)⟩, (fun T h => by cases h; rfl)⟩, (fun T h => by cases h; exact ⟨rfl, rfl⟩), ⟨Try.underlying30, by decide, Try.t58, _, rfl, rfl, rfl, Try.zeroValue58, Try.sizeOf58⟩⟩
theorem ti31 : TIok Try.prog 31 ⟨false, 1, [.l .nilS], some (.list (ty_api_Sight)), .slice 64 40⟩ :=
  ⟨Try.isAgg31, Try.sizeOf31, ⟨_, Try.zeroValue31, ⟨[Value.slice none 0 0], rfl, fun S w η => .cons (rfl) (.nil)⟩, (fun T h => by cases h; rfl)⟩, (fun T h => by cases h; exact ⟨rfl, rfl⟩), ⟨Try.underlying31, by decide, Try.t64, _, rfl, rfl, rfl, Try.zeroValue64, Try.sizeOf64⟩⟩
theorem ti32 : TIok Try.prog 32 ⟨true, 3, [.d (.int .i64) (0 : Int), .l .nilS, .l .nilS], some (.pair (.int .i64) (.pair (.list (ty_api_Fix)) (.list (ty_api_Sight)))), .struct [(0, 3, 1), (1, 30, 1), (2, 31, 1)]⟩ :=
  ⟨Try.isAgg32, Try.sizeOf32, ⟨_, Try.zeroValue32, ⟨[Value.int IntKind.i64 0, Value.slice none 0 0, Value.slice none 0 0], rfl, fun S w η => .cons (zi _) (.cons (rfl) (.cons (rfl) (.nil)))⟩, (fun T h => by cases h; rfl)⟩, (fun T h => by cases h; exact ⟨rfl, rfl⟩), ⟨_, Try.runUnderlying32, rfl, fun w => by simp [Try.sizeOf3, Try.sizeOf30, Try.sizeOf31]⟩⟩
theorem ti33 : TIok Try.prog 33 ⟨true, 3, [.d (.int .i64) (0 : Int), .l .nilS, .l .nilS], some (ty_api_Control), .struct [(0, 3, 1), (1, 30, 1), (2, 31, 1)]⟩ :=
  ⟨Try.isAgg33, Try.sizeOf33, ⟨_, Try.zeroValue33, ⟨[Value.int IntKind.i64 0, Value.slice none 0 0, Value.slice none 0 0], rfl, fun S w η => .cons (zi _) (.cons (rfl) (.cons (rfl) (.nil)))⟩, (fun T h => by cases h; rfl)⟩, (fun T h => by cases h; exact ⟨rfl, rfl⟩), ⟨_, Try.runUnderlying33, rfl, fun w => by simp [Try.sizeOf3, Try.sizeOf30, Try.sizeOf31]⟩⟩
theorem ti34 : TIok Try.prog 34 ⟨false, 1, [.l .nilF], none, .fn⟩ :=
  ⟨Try.isAgg34, Try.sizeOf34, ⟨_, Try.zeroValue34, ⟨[Value.nilFunc], rfl, fun S w η => .cons (rfl) (.nil)⟩, (fun T h => by cases h)⟩, (fun T h => by cases h), ⟨_, _, _, Try.runUnderlying34⟩⟩
theorem ti36 : TIok Try.prog 36 ⟨false, 1, [.l .nilF], none, .fn⟩ :=
  ⟨Try.isAgg36, Try.sizeOf36, ⟨_, Try.zeroValue36, ⟨[Value.nilFunc], rfl, fun S w η => .cons (rfl) (.nil)⟩, (fun T h => by cases h)⟩, (fun T h => by cases h), ⟨_, _, _, Try.runUnderlying36⟩⟩
theorem ti37 : TIok Try.prog 37 ⟨false, 1, [.l .nilS], some (.list (.bool)), .slice 4 1⟩ :=
  ⟨Try.isAgg37, Try.sizeOf37, ⟨_, Try.zeroValue37, ⟨[Value.slice none 0 0], rfl, fun S w η => .cons (rfl) (.nil)⟩, (fun T h => by cases h; rfl)⟩, (fun T h => by cases h; exact ⟨rfl, rfl⟩), ⟨Try.underlying37, by decide, Try.t4, _, rfl, rfl, rfl, Try.zeroValue4, Try.sizeOf4⟩⟩
theorem ti38 : TIok Try.prog 38 ⟨false, 1, [.l .nilF], none, .fn⟩ :=
  ⟨Try.isAgg38, Try.sizeOf38, ⟨_, Try.zeroValue38, ⟨[Value.nilFunc], rfl, fun S w η => .cons (rfl) (.nil)⟩, (fun T h => by cases h)⟩, (fun T h => by cases h), ⟨_, _, _, Try.runUnderlying38⟩⟩
theorem ti39 : TIok Try.prog 39 ⟨false, 1, [.l .nilS], some (.list (.list (.int .i64))), .slice 23 24⟩ :=
  ⟨Try.isAgg39, Try.sizeOf39, ⟨_, Try.zeroValue39, ⟨[Value.slice none 0 0], rfl, fun S w η => .cons (rfl) (.nil)⟩, (fun T h => by cases h; rfl)⟩, (fun T h => by cases h; exact ⟨rfl, rfl⟩), ⟨Try.underlying39, by decide, Try.t23, _, rfl, rfl, rfl, Try.zeroValue23, Try.sizeOf23⟩⟩
theorem ti40 : TIok Try.prog 40 ⟨false, 1, [.d (.int .i64) (0 : Int)], some (.int .i64), .int .i64⟩ :=
  ⟨Try.isAgg40, Try.sizeOf40, ⟨_, Try.zeroValue40, ⟨[Value.int IntKind.i64 0], rfl, fun S w η => .cons (zi _) (.nil)⟩, (fun T h => by cases h; rfl)⟩, (fun T h => by cases h; exact ⟨rfl, rfl⟩), Try.runUnderlying40⟩
theorem ti42 : TIok Try.prog 42 ⟨false, 1, [.l .nilF], none, .fn⟩ :=
  ⟨Try.isAgg42, Try.sizeOf42, ⟨_, Try.zeroValue42, ⟨[Value.nilFunc], rfl, fun S w η => .cons (rfl) (.nil)⟩, (fun T h => by cases h)⟩, (fun T h => by cases h), ⟨_, _, _, Try.runUnderlying42⟩⟩
theorem ti43 : TIok Try.prog 43 ⟨false, 1, [.l .nilS], some (.list (ty_api_Bound)), .slice 93 24⟩ :=
  ⟨Try.isAgg43, Try.sizeOf43, ⟨_, Try.zeroValue43, ⟨[Value.slice none 0 0], rfl, fun S w η => .cons (rfl) (.nil)⟩, (fun T h => by cases h; rfl)⟩, (fun T h => by cases h; exact ⟨rfl, rfl⟩), ⟨Try.underlying43, by decide, Try.t93, _, rfl, rfl, rfl, Try.zeroValue93, Try.sizeOf93⟩⟩
theorem ti44 : TIok Try.prog 44 ⟨true, 2, [.d (.int .i64) (0 : Int), .l .nilS], some (.pair (.int .i64) (.list (ty_api_Bound))), .struct [(0, 3, 1), (1, 43, 1)]⟩ :=
  ⟨Try.isAgg44, Try.sizeOf44, ⟨_, Try.zeroValue44, ⟨[Value.int IntKind.i64 0, Value.slice none 0 0], rfl, fun S w η => .cons (zi _) (.cons (rfl) (.nil))⟩, (fun T h => by cases h; rfl)⟩, (fun T h => by cases h; exact ⟨rfl, rfl⟩), ⟨_, Try.runUnderlying44, rfl, fun w => by simp [Try.sizeOf3, Try.sizeOf43]⟩⟩
theorem ti45 : TIok Try.prog 45 ⟨true, 2, [.d (.int .i64) (0 : Int), .l .nilS], some (ty_api_Between), .struct [(0, 3, 1), (1, 43, 1)]⟩ :=
  ⟨Try.isAgg45, Try.sizeOf45, ⟨_, Try.zeroValue45, ⟨[Value.int IntKind.i64 0, Value.slice none 0 0], rfl, fun S w η => .cons (zi _) (.cons (rfl) (.nil))⟩, (fun T h => by cases h; rfl)⟩, (fun T h => by cases h; exact ⟨rfl, rfl⟩), ⟨_, Try.runUnderlying45, rfl, fun w => by simp [Try.sizeOf3, Try.sizeOf43]⟩⟩
theorem ti46 : TIok Try.prog 46 ⟨false, 1, [.l .nilF], none, .fn⟩ :=
  ⟨Try.isAgg46, Try.sizeOf46, ⟨_, Try.zeroValue46, ⟨[Value.nilFunc], rfl, fun S w η => .cons (rfl) (.nil)⟩, (fun T h => by cases h)⟩, (fun T h => by cases h), ⟨_, _, _, Try.runUnderlying46⟩⟩
theorem ti47 : TIok Try.prog 47 ⟨false, 1, [.l .nilS], some (.list (ty_api_Place)), .slice 54 16⟩ :=
  ⟨Try.isAgg47, Try.sizeOf47, ⟨_, Try.zeroValue47, ⟨[Value.slice none 0 0], rfl, fun S w η => .cons (rfl) (.nil)⟩, (fun T h => by cases h; rfl)⟩, (fun T h => by cases h; exact ⟨rfl, rfl⟩), ⟨Try.underlying47, by decide, Try.t54, _, rfl, rfl, rfl, Try.zeroValue54, Try.sizeOf54⟩⟩
theorem ti48 : TIok Try.prog 48 ⟨true, 4, [.d (.int .i64) (0 : Int), .d (.int .i64) (0 : Int), .d (.int .i64) (0 : Int), .d (.int .i64) (0 : Int)], some (.pair (.int .i64) (.pair (.int .i64) (.pair (.int .i64) (.int .i64)))), .struct [(0, 3, 1), (1, 3, 1), (2, 3, 1), (3, 3, 1)]⟩ :=
  ⟨Try.isAgg48, Try.sizeOf48, ⟨_, Try.zeroValue48, ⟨[Value.int IntKind.i64 0, Value.int IntKind.i64 0, Value.int IntKind.i64 0, Value.int IntKind.i64 0], rfl, fun S w η => .cons (zi _) (.cons (zi _) (.cons (zi _) (.cons (zi _) (.nil))))⟩, (fun T h => by cases h; rfl)⟩, (fun T h => by cases h; exact ⟨rfl, rfl⟩), ⟨_, Try.runUnderlying48, rfl, fun w => by simp [Try.sizeOf3]⟩⟩
theorem ti49 : TIok Try.prog 49 ⟨true, 4, [.d (.int .i64) (0 : Int), .d (.int .i64) (0 : Int), .d (.int .i64) (0 : Int), .d (.int .i64) (0 : Int)], some (ty_api_Box), .struct [(0, 3, 1), (1, 3, 1), (2, 3, 1), (3, 3, 1)]⟩ :=
  ⟨Try.isAgg49, Try.sizeOf49, ⟨_, Try.zeroValue49, ⟨[Value.int IntKind.i64 0, Value.int IntKind.i64 0, Value.int IntKind.i64 0, Value.int IntKind.i64 0], rfl, fun S w η => .cons (zi _) (.cons (zi _) (.cons (zi _) (.cons (zi _) (.nil))))⟩, (fun T h => by cases h; rfl)⟩, (fun T h => by cases h; exact ⟨rfl, rfl⟩), ⟨_, Try.runUnderlying49, rfl, fun w => by simp [Try.sizeOf3]⟩⟩
theorem ti51 : TIok Try.prog 51 ⟨false, 1, [.l .nilF], none, .fn⟩ :=
  ⟨Try.isAgg51, Try.sizeOf51, ⟨_, Try.zeroValue51, ⟨[Value.nilFunc], rfl, fun S w η => .cons (rfl) (.nil)⟩, (fun T h => by cases h)⟩, (fun T h => by cases h), ⟨_, _, _, Try.runUnderlying51⟩⟩
theorem ti52 : TIok Try.prog 52 ⟨false, 1, [.l .nilF], none, .fn⟩ :=
  ⟨Try.isAgg52, Try.sizeOf52, ⟨_, Try.zeroValue52, ⟨[Value.nilFunc], rfl, fun S w η => .cons (rfl) (.nil)⟩, (fun T h => by cases h)⟩, (fun T h => by cases h), ⟨_, _, _, Try.runUnderlying52⟩⟩
theorem ti53 : TIok Try.prog 53 ⟨true, 2, [.d (.int .i64) (0 : Int), .d (.int .i64) (0 : Int)], some (.pair (.int .i64) (.int .i64)), .struct [(0, 3, 1), (1, 3, 1)]⟩ :=
  ⟨Try.isAgg53, Try.sizeOf53, ⟨_, Try.zeroValue53, ⟨[Value.int IntKind.i64 0, Value.int IntKind.i64 0], rfl, fun S w η => .cons (zi _) (.cons (zi _) (.nil))⟩, (fun T h => by cases h; rfl)⟩, (fun T h => by cases h; exact ⟨rfl, rfl⟩), ⟨_, Try.runUnderlying53, rfl, fun w => by simp [Try.sizeOf3]⟩⟩
theorem ti54 : TIok Try.prog 54 ⟨true, 2, [.d (.int .i64) (0 : Int), .d (.int .i64) (0 : Int)], some (ty_api_Place), .struct [(0, 3, 1), (1, 3, 1)]⟩ :=
  ⟨Try.isAgg54, Try.sizeOf54, ⟨_, Try.zeroValue54, ⟨[Value.int IntKind.i64 0, Value.int IntKind.i64 0], rfl, fun S w η => .cons (zi _) (.cons (zi _) (.nil))⟩, (fun T h => by cases h; rfl)⟩, (fun T h => by cases h; exact ⟨rfl, rfl⟩), ⟨_, Try.runUnderlying54, rfl, fun w => by simp [Try.sizeOf3]⟩⟩
theorem ti55 : TIok Try.prog 55 ⟨false, 1, [.l .nilF], none, .fn⟩ :=
  ⟨Try.isAgg55, Try.sizeOf55, ⟨_, Try.zeroValue55, ⟨[Value.nilFunc], rfl, fun S w η => .cons (rfl) (.nil)⟩, (fun T h => by cases h)⟩, (fun T h => by cases h), ⟨_, _, _, Try.runUnderlying55⟩⟩
theorem ti56 : TIok Try.prog 56 ⟨false, 1, [.l .nilF], none, .fn⟩ :=
  ⟨Try.isAgg56, Try.sizeOf56, ⟨_, Try.zeroValue56, ⟨[Value.nilFunc], rfl, fun S w η => .cons (rfl) (.nil)⟩, (fun T h => by cases h)⟩, (fun T h => by cases h), ⟨_, _, _, Try.runUnderlying56⟩⟩
theorem ti57 : TIok Try.prog 57 ⟨true, 4, [.d (.int .i64) (0 : Int), .d (.int .i64) (0 : Int), .d (.int .i64) (0 : Int), .d (.int .i64) (0 : Int)], some (.pair (.int .i64) (.pair (.int .i64) (.pair (.int .i64) (.int .i64)))), .struct [(0, 3, 1), (1, 3, 1), (2, 3, 1), (3, 3, 1)]⟩ :=
  ⟨Try.isAgg57, Try.sizeOf57, ⟨_, Try.zeroValue57, ⟨[Value.int IntKind.i64 0, Value.int IntKind.i64 0, Value.int IntKind.i64 0, Value.int IntKind.i64 0], rfl, fun S w η => .cons (zi _) (.cons (zi _) (.cons (zi _) (.cons (zi _) (.nil))))⟩, (fun T h => by cases h; rfl)⟩, (fun T h => by cases h; exact ⟨rfl, rfl⟩), ⟨_, Try.runUnderlying57, rfl, fun w => by simp [Try.sizeOf3]⟩⟩
theorem ti58 : TIok Try.prog 58 ⟨true, 4, [.d (.int .i64) (0 : Int), .d (.int .i64) (0 : Int), .d (.int .i64) (0 : Int), .d (.int .i64) (0 : Int)], some (ty_api_Fix), .struct [(0, 3, 1), (1, 3, 1), (2, 3, 1), (3, 3, 1)]⟩ :=
  ⟨Try.isAgg58, Try.sizeOf58, ⟨_, Try.zeroValue58, ⟨[Value.int IntKind.i64 0, Value.int IntKind.i64 0, Value.int IntKind.i64 0, Value.int IntKind.i64 0], rfl, fun S w η => .cons (zi _) (.cons (zi _) (.cons (zi _) (.cons (zi _) (.nil))))⟩, (fun T h => by cases h; rfl)⟩, (fun T h => by cases h; exact ⟨rfl, rfl⟩), ⟨_, Try.runUnderlying58, rfl, fun w => by simp [Try.sizeOf3]⟩⟩
theorem ti59 : TIok Try.prog 59 ⟨false, 1, [.l .nilF], none, .fn⟩ :=
  ⟨Try.isAgg59, Try.sizeOf59, ⟨_, Try.zeroValue59, ⟨[Value.nilFunc], rfl, fun S w η => .cons (rfl) (.nil)⟩, (fun T h => by cases h)⟩, (fun T h => by cases h), ⟨_, _, _, Try.runUnderlying59⟩⟩
theorem ti60 : TIok Try.prog 60 ⟨false, 1, [.l .nilF], none, .fn⟩ :=
  ⟨Try.isAgg60, Try.sizeOf60, ⟨_, Try.zeroValue60, ⟨[Value.nilFunc], rfl, fun S w η => .cons (rfl) (.nil)⟩, (fun T h => by cases h)⟩, (fun T h => by cases h), ⟨_, _, _, Try.runUnderlying60⟩⟩
theorem ti61 : TIok Try.prog 61 ⟨true, 5, [.d (.int .i64) (0 : Int), .d (.int .i64) (0 : Int), .d (.int .i64) (0 : Int), .d (.int .i64) (0 : Int), .d (.int .i64) (0 : Int)], some (.pair (.int .i64) (.pair (.int .i64) (.pair (.int .i64) (.pair (.int .i64) (.int .i64))))), .array 5 3⟩ :=
  ⟨Try.isAgg61, Try.sizeOf61, ⟨_, Try.zeroValue61, ⟨[Value.int IntKind.i64 0, Value.int IntKind.i64 0, Value.int IntKind.i64 0, Value.int IntKind.i64 0, Value.int IntKind.i64 0], rfl, fun S w η => .cons (zi _) (.cons (zi _) (.cons (zi _) (.cons (zi _) (.cons (zi _) (.nil)))))⟩, (fun T h => by cases h; rfl)⟩, (fun T h => by cases h; exact ⟨rfl, rfl⟩), Try.runUnderlying61⟩
theorem ti62 : TIok Try.prog 62 ⟨false, 1, [.l .nilF], none, .fn⟩ :=
  ⟨Try.isAgg62, Try.sizeOf62, ⟨_, Try.zeroValue62, ⟨[Value.nilFunc], rfl, fun S w η => .cons (rfl) (.nil)⟩, (fun T h => by cases h)⟩, (fun T h => by cases h), ⟨_, _, _, Try.runUnderlying62⟩⟩
theorem ti63 : TIok Try.prog 63 ⟨true, 5, [.d (.int .i64) (0 : Int), .d (.int .i64) (0 : Int), .d (.int .i64) (0 : Int), .d (.int .i64) (0 : Int), .d (.int .i64) (0 : Int)], some (.pair (.int .i64) (.pair (.int .i64) (.pair (.int .i64) (.pair (.int .i64) (.int .i64))))), .struct [(0, 3, 1), (1, 3, 1), (2, 3, 1), (3, 3, 1), (4, 3, 1)]⟩ :=
  ⟨Try.isAgg63, Try.sizeOf63, ⟨_, Try.zeroValue63, ⟨[Value.int IntKind.i64 0, Value.int IntKind.i64 0, Value.int IntKind.i64 0, Value.int IntKind.i64 0, Value.int IntKind.i64 0], rfl, fun S w η => .cons (zi _) (.cons (zi _) (.cons (zi _) (.cons (zi _) (.cons (zi _) (.nil)))))⟩, (fun T h => by cases h; rfl)⟩, (fun T h => by cases h; exact ⟨rfl, rfl⟩), ⟨_, Try.runUnderlying63, rfl, fun w => by simp [Try.sizeOf3]⟩⟩
theorem ti64 : TIok Try.prog 64 ⟨true, 5, [.d (.int .i64) (0 : Int), .d (.int .i64) (0 : Int), .d (.int .i64) (0 : Int), .d (.int .i64) (0 : Int), .d (.int .i64) (0 : Int)], some (ty_api_Sight), .struct [(0, 3, 1), (1, 3, 1), (2, 3, 1), (3, 3, 1), (4, 3, 1)]⟩ :=
  ⟨Try.isAgg64, Try.sizeOf64, ⟨_, Try.zeroValue64, ⟨[Value.int IntKind.i64 0, Value.int IntKind.i64 0, Value.int IntKind.i64 0, Value.int IntKind.i64 0, Value.int IntKind.i64 0], rfl, fun S w η => .cons (zi _) (.cons (zi _) (.cons (zi _) (.cons (zi _) (.cons (zi _) (.nil)))))⟩, (fun T h => by cases h; rfl)⟩, (fun T h => by cases h; exact ⟨rfl, rfl⟩), ⟨_, Try.runUnderlying64, rfl, fun w => by simp [Try.sizeOf3]⟩⟩
theorem ti65 : TIok Try.prog 65 ⟨false, 1, [.l .nilF], none, .fn⟩ :=
  ⟨Try.isAgg65, Try.sizeOf65, ⟨_, Try.zeroValue65, ⟨[Value.nilFunc], rfl, fun S w η => .cons (rfl) (.nil)⟩, (fun T h => by cases h)⟩, (fun T h => by cases h), ⟨_, _, _, Try.runUnderlying65⟩⟩
theorem ti66 : TIok Try.prog 66 ⟨false, 1, [.l .nilF], none, .fn⟩ :=
  ⟨Try.isAgg66, Try.sizeOf66, ⟨_, Try.zeroValue66, ⟨[Value.nilFunc], rfl, fun S w η => .cons (rfl) (.nil)⟩, (fun T h => by cases h)⟩, (fun T h => by cases h), ⟨_, _, _, Try.runUnderlying66⟩⟩
theorem ti67 : TIok Try.prog 67 ⟨false, 1, [.l .nilF], none, .fn⟩ :=
  ⟨Try.isAgg67, Try.sizeOf67, ⟨_, Try.zeroValue67, ⟨[Value.nilFunc], rfl, fun S w η => .cons (rfl) (.nil)⟩, (fun T h => by cases h)⟩, (fun T h => by cases h), ⟨_, _, _, Try.runUnderlying67⟩⟩
theorem ti68 : TIok Try.prog 68 ⟨false, 1, [.l .nilF], none, .fn⟩ :=
  ⟨Try.isAgg68, Try.sizeOf68, ⟨_, Try.zeroValue68, ⟨[Value.nilFunc], rfl, fun S w η => .cons (rfl) (.nil)⟩, (fun T h => by cases h)⟩, (fun T h => by cases h), ⟨_, _, _, Try.runUnderlying68⟩⟩
theorem ti69 : TIok Try.prog 69 ⟨false, 1, [.l .nilF], none, .fn⟩ :=
  ⟨Try.isAgg69, Try.sizeOf69, ⟨_, Try.zeroValue69, ⟨[Value.nilFunc], rfl, fun S w η => .cons (rfl) (.nil)⟩, (fun T h => by cases h)⟩, (fun T h => by cases h), ⟨_, _, _, Try.runUnderlying69⟩⟩
theorem ti70 : TIok Try.prog 70 ⟨true, 3, [.l .nilS, .l .nilS, .d (.int .i64) (0 : Int)], some (.pair (.list (.int .i64)) (.pair (.list (.int .i64)) (.int .i64))), .struct [(0, 23, 1), (1, 23, 1), (2, 3, 1)]⟩ :=
  ⟨Try.isAgg70, Try.sizeOf70, ⟨_, Try.zeroValue70, ⟨[Value.slice none 0 0, Value.slice none 0 0, Value.int IntKind.i64 0], rfl, fun S w η => .cons (rfl) (.cons (rfl) (.cons (zi _) (.nil)))⟩, (fun T h => by cases h; rfl)⟩, (fun T h => by cases h; exact ⟨rfl, rfl⟩), ⟨_, Try.runUnderlying70, rfl, fun w => by simp [Try.sizeOf23, Try.sizeOf3]⟩⟩
theorem ti71 : TIok Try.prog 71 ⟨true, 3, [.l .nilS, .l .nilS, .d (.int .i64) (0 : Int)], some (ty_api_Least), .struct [(0, 23, 1), (1, 23, 1), (2, 3, 1)]⟩ :=
  ⟨Try.isAgg71, Try.sizeOf71, ⟨_, Try.zeroValue71, ⟨[Value.slice none 0 0, Value.slice none 0 0, Value.int IntKind.i64 0], rfl, fun S w η => .cons (rfl) (.cons (rfl) (.cons (zi _) (.nil)))⟩, (fun T h => by cases h; rfl)⟩, (fun T h => by cases h; exact ⟨rfl, rfl⟩), ⟨_, Try.runUnderlying71, rfl, fun w => by simp [Try.sizeOf23, Try.sizeOf3]⟩⟩
theorem ti73 : TIok Try.prog 73 ⟨false, 1, [.l .nilF], none, .fn⟩ :=
  ⟨Try.isAgg73, Try.sizeOf73, ⟨_, Try.zeroValue73, ⟨[Value.nilFunc], rfl, fun S w η => .cons (rfl) (.nil)⟩, (fun T h => by cases h)⟩, (fun T h => by cases h), ⟨_, _, _, Try.runUnderlying73⟩⟩
theorem ti74 : TIok Try.prog 74 ⟨false, 1, [.l .nilF], none, .fn⟩ :=
  ⟨Try.isAgg74, Try.sizeOf74, ⟨_, Try.zeroValue74, ⟨[Value.nilFunc], rfl, fun S w η => .cons (rfl) (.nil)⟩, (fun T h => by cases h)⟩, (fun T h => by cases h), ⟨_, _, _, Try.runUnderlying74⟩⟩
theorem ti75 : TIok Try.prog 75 ⟨false, 1, [.l .nilF], none, .fn⟩ :=
  ⟨Try.isAgg75, Try.sizeOf75, ⟨_, Try.zeroValue75, ⟨[Value.nilFunc], rfl, fun S w η => .cons (rfl) (.nil)⟩, (fun T h => by cases h)⟩, (fun T h => by cases h), ⟨_, _, _, Try.runUnderlying75⟩⟩
theorem ti76 : TIok Try.prog 76 ⟨false, 1, [.l .nilF], none, .fn⟩ :=
  ⟨Try.isAgg76, Try.sizeOf76, ⟨_, Try.zeroValue76, ⟨[Value.nilFunc], rfl, fun S w η => .cons (rfl) (.nil)⟩, (fun T h => by cases h)⟩, (fun T h => by cases h), ⟨_, _, _, Try.runUnderlying76⟩⟩
theorem ti77 : TIok Try.prog 77 ⟨false, 1, [.l .nilF], none, .fn⟩ :=
  ⟨Try.isAgg77, Try.sizeOf77, ⟨_, Try.zeroValue77, ⟨[Value.nilFunc], rfl, fun S w η => .cons (rfl) (.nil)⟩, (fun T h => by cases h)⟩, (fun T h => by cases h), ⟨_, _, _, Try.runUnderlying77⟩⟩
theorem ti79 : TIok Try.prog 79 ⟨false, 1, [.l .nilF], none, .fn⟩ :=
  ⟨Try.isAgg79, Try.sizeOf79, ⟨_, Try.zeroValue79, ⟨[Value.nilFunc], rfl, fun S w η => .cons (rfl) (.nil)⟩, (fun T h => by cases h)⟩, (fun T h => by cases h), ⟨_, _, _, Try.runUnderlying79⟩⟩
theorem ti80 : TIok Try.prog 80 ⟨false, 1, [.l .nilF], none, .fn⟩ :=
  ⟨Try.isAgg80, Try.sizeOf80, ⟨_, Try.zeroValue80, ⟨[Value.nilFunc], rfl, fun S w η => .cons (rfl) (.nil)⟩, (fun T h => by cases h)⟩, (fun T h => by cases h), ⟨_, _, _, Try.runUnderlying80⟩⟩
theorem ti81 : TIok Try.prog 81 ⟨false, 1, [.l .nilF], none, .fn⟩ :=
  ⟨Try.isAgg81, Try.sizeOf81, ⟨_, Try.zeroValue81, ⟨[Value.nilFunc], rfl, fun S w η => .cons (rfl) (.nil)⟩, (fun T h => by cases h)⟩, (fun T h => by cases h), ⟨_, _, _, Try.runUnderlying81⟩⟩
theorem ti82 : TIok Try.prog 82 ⟨true, 4, [.d (.int .i64) (0 : Int), .d (.int .i64) (0 : Int), .d (.int .i64) (0 : Int), .d (.int .i64) (0 : Int)], some (.pair (.int .i64) (.pair (.int .i64) (.pair (.int .i64) (.int .i64)))), .array 4 3⟩ :=
  ⟨Try.isAgg82, Try.sizeOf82, ⟨_, Try.zeroValue82, ⟨[Value.int IntKind.i64 0, Value.int IntKind.i64 0, Value.int IntKind.i64 0, Value.int IntKind.i64 0], rfl, fun S w η => .cons (zi _) (.cons (zi _) (.cons (zi _) (.cons (zi _) (.nil))))⟩, (fun T h => by cases h; rfl)⟩, (fun T h => by cases h; exact ⟨rfl, rfl⟩), Try.runUnderlying82⟩
theorem ti83 : TIok Try.prog 83 ⟨false, 1, [.l .nilF], none, .fn⟩ :=
  ⟨Try.isAgg83, Try.sizeOf83, ⟨_, Try.zeroValue83, ⟨[Value.nilFunc], rfl, fun S w η => .cons (rfl) (.nil)⟩, (fun T h => by cases h)⟩, (fun T h => by cases h), ⟨_, _, _, Try.runUnderlying83⟩⟩
theorem ti84 : TIok Try.prog 84 ⟨true, 4, [.d (.int .i64) (0 : Int), .l .nilS, .d (.int .i64) (0 : Int), .l .nilS], some (.pair (ty_api_Between) (ty_api_Between)), .array 2 45⟩ :=
  ⟨Try.isAgg84, Try.sizeOf84, ⟨_, Try.zeroValue84, ⟨[Value.int IntKind.i64 0, Value.slice none 0 0, Value.int IntKind.i64 0, Value.slice none 0 0], rfl, fun S w η => .cons (zi _) (.cons (rfl) (.cons (zi _) (.cons (rfl) (.nil))))⟩, (fun T h => by cases h; rfl)⟩, (fun T h => by cases h; exact ⟨rfl, rfl⟩), Try.runUnderlying84⟩
theorem ti85 : TIok Try.prog 85 ⟨false, 1, [.l .nilF], none, .fn⟩ :=
  ⟨Try.isAgg85, Try.sizeOf85, ⟨_, Try.zeroValue85, ⟨[Value.nilFunc], rfl, fun S w η => .cons (rfl) (.nil)⟩, (fun T h => by cases h)⟩, (fun T h => by cases h), ⟨_, _, _, Try.runUnderlying85⟩⟩
theorem ti86 : TIok Try.prog 86 ⟨false, 1, [.l .nilF], none, .fn⟩ :=
  ⟨Try.isAgg86, Try.sizeOf86, ⟨_, Try.zeroValue86, ⟨[Value.nilFunc], rfl, fun S w η => .cons (rfl) (.nil)⟩, (fun T h => by cases h)⟩, (fun T h => by cases h), ⟨_, _, _, Try.runUnderlying86⟩⟩
theorem ti87 : TIok Try.prog 87 ⟨false, 1, [.l .nilF], none, .fn⟩ :=
  ⟨Try.isAgg87, Try.sizeOf87, ⟨_, Try.zeroValue87, ⟨[Value.nilFunc], rfl, fun S w η => .cons (rfl) (.nil)⟩, (fun T h => by cases h)⟩, (fun T h => by cases h), ⟨_, _, _, Try.runUnderlying87⟩⟩
theorem ti88 : TIok Try.prog 88 ⟨false, 1, [.l .nilF], none, .fn⟩ :=
  ⟨Try.isAgg88, Try.sizeOf88, ⟨_, Try.zeroValue88, ⟨[Value.nilFunc], rfl, fun S w η => .cons (rfl) (.nil)⟩, (fun T h => by cases h)⟩, (fun T h => by cases h), ⟨_, _, _, Try.runUnderlying88⟩⟩
theorem ti89 : TIok Try.prog 89 ⟨false, 1, [.l .nilF], none, .fn⟩ :=
  ⟨Try.isAgg89, Try.sizeOf89, ⟨_, Try.zeroValue89, ⟨[Value.nilFunc], rfl, fun S w η => .cons (rfl) (.nil)⟩, (fun T h => by cases h)⟩, (fun T h => by cases h), ⟨_, _, _, Try.runUnderlying89⟩⟩
theorem ti91 : TIok Try.prog 91 ⟨false, 1, [.l .nilF], none, .fn⟩ :=
  ⟨Try.isAgg91, Try.sizeOf91, ⟨_, Try.zeroValue91, ⟨[Value.nilFunc], rfl, fun S w η => .cons (rfl) (.nil)⟩, (fun T h => by cases h)⟩, (fun T h => by cases h), ⟨_, _, _, Try.runUnderlying91⟩⟩
theorem ti92 : TIok Try.prog 92 ⟨true, 3, [.d (.int .i64) (0 : Int), .d (.int .i64) (0 : Int), .d (.int .i64) (0 : Int)], some (.pair (.int .i64) (.pair (.int .i64) (.int .i64))), .struct [(0, 3, 1), (1, 3, 1), (2, 3, 1)]⟩ :=
  ⟨Try.isAgg92, Try.sizeOf92, ⟨_, Try.zeroValue92, ⟨[Value.int IntKind.i64 0, Value.int IntKind.i64 0, Value.int IntKind.i64 0], rfl, fun S w η => .cons (zi _) (.cons (zi _) (.cons (zi _) (.nil)))⟩, (fun T h => by cases h; rfl)⟩, (fun T h => by cases h; exact ⟨rfl, rfl⟩), ⟨_, Try.runUnderlying92, rfl, fun w => by simp [Try.sizeOf3]⟩⟩
theorem ti93 : TIok Try.prog 93 ⟨true, 3, [.d (.int .i64) (0 : Int), .d (.int .i64) (0 : Int), .d (.int .i64) (0 : Int)], some (ty_api_Bound), .struct [(0, 3, 1), (1, 3, 1), (2, 3, 1)]⟩ :=
  ⟨Try.isAgg93, Try.sizeOf93, ⟨_, Try.zeroValue93, ⟨[Value.int IntKind.i64 0, Value.int IntKind.i64 0, Value.int IntKind.i64 0], rfl, fun S w η => .cons (zi _) (.cons (zi _) (.cons (zi _) (.nil)))⟩, (fun T h => by cases h; rfl)⟩, (fun T h => by cases h; exact ⟨rfl, rfl⟩), ⟨_, Try.runUnderlying93, rfl, fun w => by simp [Try.sizeOf3]⟩⟩
theorem ti94 : TIok Try.prog 94 ⟨false, 1, [.l .nilF], none, .fn⟩ :=
  ⟨Try.isAgg94, Try.sizeOf94, ⟨_, Try.zeroValue94, ⟨[Value.nilFunc], rfl, fun S w η => .cons (rfl) (.nil)⟩, (fun T h => by cases h)⟩, (fun T h => by cases h), ⟨_, _, _, Try.runUnderlying94⟩⟩
theorem ti95 : TIok Try.prog 95 ⟨false, 1, [.l .nilF], none, .fn⟩ :=
  ⟨Try.isAgg95, Try.sizeOf95, ⟨_, Try.zeroValue95, ⟨[Value.nilFunc], rfl, fun S w η => .cons (rfl) (.nil)⟩, (fun T h => by cases h)⟩, (fun T h => by cases h), ⟨_, _, _, Try.runUnderlying95⟩⟩
theorem ti96 : TIok Try.prog 96 ⟨false, 1, [.l .nilF], none, .fn⟩ :=
  ⟨Try.isAgg96, Try.sizeOf96, ⟨_, Try.zeroValue96, ⟨[Value.nilFunc], rfl, fun S w η => .cons (rfl) (.nil)⟩, (fun T h => by cases h)⟩, (fun T h => by cases h), ⟨_, _, _, Try.runUnderlying96⟩⟩
theorem ti97 : TIok Try.prog 97 ⟨false, 1, [.l .nilF], none, .fn⟩ :=
  ⟨Try.isAgg97, Try.sizeOf97, ⟨_, Try.zeroValue97, ⟨[Value.nilFunc], rfl, fun S w η => .cons (rfl) (.nil)⟩, (fun T h => by cases h)⟩, (fun T h => by cases h), ⟨_, _, _, Try.runUnderlying97⟩⟩
theorem ti98 : TIok Try.prog 98 ⟨false, 1, [.l .nilF], none, .fn⟩ :=
  ⟨Try.isAgg98, Try.sizeOf98, ⟨_, Try.zeroValue98, ⟨[Value.nilFunc], rfl, fun S w η => .cons (rfl) (.nil)⟩, (fun T h => by cases h)⟩, (fun T h => by cases h), ⟨_, _, _, Try.runUnderlying98⟩⟩
theorem ti99 : TIok Try.prog 99 ⟨false, 1, [.l .nilF], none, .fn⟩ :=
  ⟨Try.isAgg99, Try.sizeOf99, ⟨_, Try.zeroValue99, ⟨[Value.nilFunc], rfl, fun S w η => .cons (rfl) (.nil)⟩, (fun T h => by cases h)⟩, (fun T h => by cases h), ⟨_, _, _, Try.runUnderlying99⟩⟩
theorem ti100 : TIok Try.prog 100 ⟨false, 1, [.l .nilF], none, .fn⟩ :=
  ⟨Try.isAgg100, Try.sizeOf100, ⟨_, Try.zeroValue100, ⟨[Value.nilFunc], rfl, fun S w η => .cons (rfl) (.nil)⟩, (fun T h => by cases h)⟩, (fun T h => by cases h), ⟨_, _, _, Try.runUnderlying100⟩⟩
theorem ti101 : TIok Try.prog 101 ⟨true, 2, [.d (.int .i64) (0 : Int), .d (.int .i64) (0 : Int)], some (.pair (.int .i64) (.int .i64)), .struct [(0, 3, 1), (1, 3, 1)]⟩ :=
  ⟨Try.isAgg101, Try.sizeOf101, ⟨_, Try.zeroValue101, ⟨[Value.int IntKind.i64 0, Value.int IntKind.i64 0], rfl, fun S w η => .cons (zi _) (.cons (zi _) (.nil))⟩, (fun T h => by cases h; rfl)⟩, (fun T h => by cases h; exact ⟨rfl, rfl⟩), ⟨_, Try.runUnderlying101, rfl, fun w => by simp [Try.sizeOf3]⟩⟩
theorem ti102 : TIok Try.prog 102 ⟨true, 2, [.d (.int .i64) (0 : Int), .d (.int .i64) (0 : Int)], some (ty_network_vector), .struct [(0, 3, 1), (1, 3, 1)]⟩ :=
  ⟨Try.isAgg102, Try.sizeOf102, ⟨_, Try.zeroValue102, ⟨[Value.int IntKind.i64 0, Value.int IntKind.i64 0], rfl, fun S w η => .cons (zi _) (.cons (zi _) (.nil))⟩, (fun T h => by cases h; rfl)⟩, (fun T h => by cases h; exact ⟨rfl, rfl⟩), ⟨_, Try.runUnderlying102, rfl, fun w => by simp [Try.sizeOf3]⟩⟩
theorem ti103 : TIok Try.prog 103 ⟨true, 5, [.d (.int .i64) (0 : Int), .d (.int .i64) (0 : Int), .d (.int .i64) (0 : Int), .d (.int .i64) (0 : Int), .d (.int .i64) (0 : Int)], some (.pair (ty_network_vector) (.pair (.int .i64) (.pair (.int .i64) (.int .i64)))), .struct [(0, 102, 2), (2, 3, 1), (3, 3, 1), (4, 3, 1)]⟩ :=
  ⟨Try.isAgg103, Try.sizeOf103, ⟨_, Try.zeroValue103, ⟨[Value.int IntKind.i64 0, Value.int IntKind.i64 0, Value.int IntKind.i64 0, Value.int IntKind.i64 0, Value.int IntKind.i64 0], rfl, fun S w η => .cons (zi _) (.cons (zi _) (.cons (zi _) (.cons (zi _) (.cons (zi _) (.nil)))))⟩, (fun T h => by cases h; rfl)⟩, (fun T h => by cases h; exact ⟨rfl, rfl⟩), ⟨_, Try.runUnderlying103, rfl, fun w => by simp [Try.sizeOf102, Try.sizeOf3]⟩⟩
theorem ti104 : TIok Try.prog 104 ⟨true, 5, [.d (.int .i64) (0 : Int), .d (.int .i64) (0 : Int), .d (.int .i64) (0 : Int), .d (.int .i64) (0 : Int), .d (.int .i64) (0 : Int)], some (ty_network_observation), .struct [(0, 102, 2), (2, 3, 1), (3, 3, 1), (4, 3, 1)]⟩ :=
  ⟨Try.isAgg104, Try.sizeOf104, ⟨_, Try.zeroValue104, ⟨[Value.int IntKind.i64 0, Value.int IntKind.i64 0, Value.int IntKind.i64 0, Value.int IntKind.i64 0, Value.int IntKind.i64 0], rfl, fun S w η => .cons (zi _) (.cons (zi _) (.cons (zi _) (.cons (zi _) (.cons (zi _) (.nil)))))⟩, (fun T h => by cases h; rfl)⟩, (fun T h => by cases h; exact ⟨rfl, rfl⟩), ⟨_, Try.runUnderlying104, rfl, fun w => by simp [Try.sizeOf102, Try.sizeOf3]⟩⟩
theorem ti105 : TIok Try.prog 105 ⟨false, 1, [.l .nilF], none, .fn⟩ :=
  ⟨Try.isAgg105, Try.sizeOf105, ⟨_, Try.zeroValue105, ⟨[Value.nilFunc], rfl, fun S w η => .cons (rfl) (.nil)⟩, (fun T h => by cases h)⟩, (fun T h => by cases h), ⟨_, _, _, Try.runUnderlying105⟩⟩
theorem ti106 : TIok Try.prog 106 ⟨false, 1, [.l .nilF], none, .fn⟩ :=
  ⟨Try.isAgg106, Try.sizeOf106, ⟨_, Try.zeroValue106, ⟨[Value.nilFunc], rfl, fun S w η => .cons (rfl) (.nil)⟩, (fun T h => by cases h)⟩, (fun T h => by cases h), ⟨_, _, _, Try.runUnderlying106⟩⟩
theorem ti107 : TIok Try.prog 107 ⟨false, 1, [.l .nilF], none, .fn⟩ :=
  ⟨Try.isAgg107, Try.sizeOf107, ⟨_, Try.zeroValue107, ⟨[Value.nilFunc], rfl, fun S w η => .cons (rfl) (.nil)⟩, (fun T h => by cases h)⟩, (fun T h => by cases h), ⟨_, _, _, Try.runUnderlying107⟩⟩
theorem ti108 : TIok Try.prog 108 ⟨false, 1, [.l .nilF], none, .fn⟩ :=
  ⟨Try.isAgg108, Try.sizeOf108, ⟨_, Try.zeroValue108, ⟨[Value.nilFunc], rfl, fun S w η => .cons (rfl) (.nil)⟩, (fun T h => by cases h)⟩, (fun T h => by cases h), ⟨_, _, _, Try.runUnderlying108⟩⟩
theorem ti109 : TIok Try.prog 109 ⟨true, 2, [.d (.int .i64) (0 : Int), .d (.int .i64) (0 : Int)], some (.pair (.int .i64) (.int .i64)), .array 2 3⟩ :=
  ⟨Try.isAgg109, Try.sizeOf109, ⟨_, Try.zeroValue109, ⟨[Value.int IntKind.i64 0, Value.int IntKind.i64 0], rfl, fun S w η => .cons (zi _) (.cons (zi _) (.nil))⟩, (fun T h => by cases h; rfl)⟩, (fun T h => by cases h; exact ⟨rfl, rfl⟩), Try.runUnderlying109⟩
theorem ti110 : TIok Try.prog 110 ⟨false, 1, [.l .nilP], none, .ptr 133⟩ :=
  ⟨Try.isAgg110, Try.sizeOf110, ⟨_, Try.zeroValue110, ⟨[Value.pointer none], rfl, fun S w η => .cons (rfl) (.nil)⟩, (fun T h => by cases h)⟩, (fun T h => by cases h), Try.runUnderlying110⟩
theorem ti111 : TIok Try.prog 111 ⟨false, 1, [.l .nilF], none, .fn⟩ :=
  ⟨Try.isAgg111, Try.sizeOf111, ⟨_, Try.zeroValue111, ⟨[Value.nilFunc], rfl, fun S w η => .cons (rfl) (.nil)⟩, (fun T h => by cases h)⟩, (fun T h => by cases h), ⟨_, _, _, Try.runUnderlying111⟩⟩
theorem ti112 : TIok Try.prog 112 ⟨false, 1, [.l .nilF], none, .fn⟩ :=
  ⟨Try.isAgg112, Try.sizeOf112, ⟨_, Try.zeroValue112, ⟨[Value.nilFunc], rfl, fun S w η => .cons (rfl) (.nil)⟩, (fun T h => by cases h)⟩, (fun T h => by cases h), ⟨_, _, _, Try.runUnderlying112⟩⟩
theorem ti113 : TIok Try.prog 113 ⟨true, 10, [.d (.int .i64) (0 : Int), .d (.int .i64) (0 : Int), .d (.int .i64) (0 : Int), .d (.int .i64) (0 : Int), .d (.int .i64) (0 : Int), .d (.int .i64) (0 : Int), .d (.int .i64) (0 : Int), .d (.int .i64) (0 : Int), .d (.int .i64) (0 : Int), .d (.int .i64) (0 : Int)], none, .array 10 3⟩ :=
  ⟨Try.isAgg113, Try.sizeOf113, ⟨_, Try.zeroValue113, ⟨[Value.int IntKind.i64 0, Value.int IntKind.i64 0, Value.int IntKind.i64 0, Value.int IntKind.i64 0, Value.int IntKind.i64 0, Value.int IntKind.i64 0, Value.int IntKind.i64 0, Value.int IntKind.i64 0, Value.int IntKind.i64 0, Value.int IntKind.i64 0], rfl, fun S w η => .cons (zi _) (.cons (zi _) (.cons (zi _) (.cons (zi _) (.cons (zi _) (.cons (zi _) (.cons (zi _) (.cons (zi _) (.cons (zi _) (.cons (zi _) (.nil))))))))))⟩, (fun T h => by cases h)⟩, (fun T h => by cases h), Try.runUnderlying113⟩
theorem ti114 : TIok Try.prog 114 ⟨false, 1, [.l .nilF], none, .fn⟩ :=
  ⟨Try.isAgg114, Try.sizeOf114, ⟨_, Try.zeroValue114, ⟨[Value.nilFunc], rfl, fun S w η => .cons (rfl) (.nil)⟩, (fun T h => by cases h)⟩, (fun T h => by cases h), ⟨_, _, _, Try.runUnderlying114⟩⟩
theorem ti115 : TIok Try.prog 115 ⟨false, 1, [.l .nilS], none, .slice 114 8⟩ :=
  ⟨Try.isAgg115, Try.sizeOf115, ⟨_, Try.zeroValue115, ⟨[Value.slice none 0 0], rfl, fun S w η => .cons (rfl) (.nil)⟩, (fun T h => by cases h)⟩, (fun T h => by cases h), ⟨Try.underlying115, by decide, Try.t114, _, rfl, rfl, rfl, Try.zeroValue114, Try.sizeOf114⟩⟩
theorem ti116 : TIok Try.prog 116 ⟨false, 1, [.l .nilS], some (.list (.list (.list (.int .i64)))), .slice 39 24⟩ :=
  ⟨Try.isAgg116, Try.sizeOf116, ⟨_, Try.zeroValue116, ⟨[Value.slice none 0 0], rfl, fun S w η => .cons (rfl) (.nil)⟩, (fun T h => by cases h; rfl)⟩, (fun T h => by cases h; exact ⟨rfl, rfl⟩), ⟨Try.underlying116, by decide, Try.t39, _, rfl, rfl, rfl, Try.zeroValue39, Try.sizeOf39⟩⟩
theorem ti117 : TIok Try.prog 117 ⟨false, 1, [.l .nilF], none, .fn⟩ :=
  ⟨Try.isAgg117, Try.sizeOf117, ⟨_, Try.zeroValue117, ⟨[Value.nilFunc], rfl, fun S w η => .cons (rfl) (.nil)⟩, (fun T h => by cases h)⟩, (fun T h => by cases h), ⟨_, _, _, Try.runUnderlying117⟩⟩
theorem ti118 : TIok Try.prog 118 ⟨false, 1, [.l .nilF], none, .fn⟩ :=
  ⟨Try.isAgg118, Try.sizeOf118, ⟨_, Try.zeroValue118, ⟨[Value.nilFunc], rfl, fun S w η => .cons (rfl) (.nil)⟩, (fun T h => by cases h)⟩, (fun T h => by cases h), ⟨_, _, _, Try.runUnderlying118⟩⟩
theorem ti119 : TIok Try.prog 119 ⟨false, 1, [.l .nilF], none, .fn⟩ :=
  ⟨Try.isAgg119, Try.sizeOf119, ⟨_, Try.zeroValue119, ⟨[Value.nilFunc], rfl, fun S w η => .cons (rfl) (.nil)⟩, (fun T h => by cases h)⟩, (fun T h => by cases h), ⟨_, _, _, Try.runUnderlying119⟩⟩
theorem ti120 : TIok Try.prog 120 ⟨false, 1, [.l .nilF], none, .fn⟩ :=
  ⟨Try.isAgg120, Try.sizeOf120, ⟨_, Try.zeroValue120, ⟨[Value.nilFunc], rfl, fun S w η => .cons (rfl) (.nil)⟩, (fun T h => by cases h)⟩, (fun T h => by cases h), ⟨_, _, _, Try.runUnderlying120⟩⟩
theorem ti121 : TIok Try.prog 121 ⟨false, 1, [.l .nilF], none, .fn⟩ :=
  ⟨Try.isAgg121, Try.sizeOf121, ⟨_, Try.zeroValue121, ⟨[Value.nilFunc], rfl, fun S w η => .cons (rfl) (.nil)⟩, (fun T h => by cases h)⟩, (fun T h => by cases h), ⟨_, _, _, Try.runUnderlying121⟩⟩
theorem ti122 : TIok Try.prog 122 ⟨false, 1, [.l .nilF], none, .fn⟩ :=
  ⟨Try.isAgg122, Try.sizeOf122, ⟨_, Try.zeroValue122, ⟨[Value.nilFunc], rfl, fun S w η => .cons (rfl) (.nil)⟩, (fun T h => by cases h)⟩, (fun T h => by cases h), ⟨_, _, _, Try.runUnderlying122⟩⟩
theorem ti123 : TIok Try.prog 123 ⟨false, 1, [.d (.int .u64) (0 : Int)], some (.int .u64), .int .u64⟩ :=
  ⟨Try.isAgg123, Try.sizeOf123, ⟨_, Try.zeroValue123, ⟨[Value.int IntKind.u64 0], rfl, fun S w η => .cons (zi _) (.nil)⟩, (fun T h => by cases h; rfl)⟩, (fun T h => by cases h; exact ⟨rfl, rfl⟩), Try.runUnderlying123⟩
theorem ti124 : TIok Try.prog 124 ⟨false, 1, [.l .nilF], none, .fn⟩ :=
  ⟨Try.isAgg124, Try.sizeOf124, ⟨_, Try.zeroValue124, ⟨[Value.nilFunc], rfl, fun S w η => .cons (rfl) (.nil)⟩, (fun T h => by cases h)⟩, (fun T h => by cases h), ⟨_, _, _, Try.runUnderlying124⟩⟩
theorem ti125 : TIok Try.prog 125 ⟨false, 1, [.l .nilF], none, .fn⟩ :=
  ⟨Try.isAgg125, Try.sizeOf125, ⟨_, Try.zeroValue125, ⟨[Value.nilFunc], rfl, fun S w η => .cons (rfl) (.nil)⟩, (fun T h => by cases h)⟩, (fun T h => by cases h), ⟨_, _, _, Try.runUnderlying125⟩⟩
theorem ti126 : TIok Try.prog 126 ⟨false, 1, [.l .nilF], none, .fn⟩ :=
  ⟨Try.isAgg126, Try.sizeOf126, ⟨_, Try.zeroValue126, ⟨[Value.nilFunc], rfl, fun S w η => .cons (rfl) (.nil)⟩, (fun T h => by cases h)⟩, (fun T h => by cases h), ⟨_, _, _, Try.runUnderlying126⟩⟩
theorem ti127 : TIok Try.prog 127 ⟨false, 1, [.l .nilF], none, .fn⟩ :=
  ⟨Try.isAgg127, Try.sizeOf127, ⟨_, Try.zeroValue127, ⟨[Value.nilFunc], rfl, fun S w η => .cons (rfl) (.nil)⟩, (fun T h => by cases h)⟩, (fun T h => by cases h), ⟨_, _, _, Try.runUnderlying127⟩⟩
theorem ti128 : TIok Try.prog 128 ⟨false, 1, [.l .nilF], none, .fn⟩ :=
  ⟨Try.isAgg128, Try.sizeOf128, ⟨_, Try.zeroValue128, ⟨[Value.nilFunc], rfl, fun S w η => .cons (rfl) (.nil)⟩, (fun T h => by cases h)⟩, (fun T h => by cases h), ⟨_, _, _, Try.runUnderlying128⟩⟩
theorem ti129 : TIok Try.prog 129 ⟨false, 1, [.l .nilF], none, .fn⟩ :=
  ⟨Try.isAgg129, Try.sizeOf129, ⟨_, Try.zeroValue129, ⟨[Value.nilFunc], rfl, fun S w η => .cons (rfl) (.nil)⟩, (fun T h => by cases h)⟩, (fun T h => by cases h), ⟨_, _, _, Try.runUnderlying129⟩⟩
theorem ti130 : TIok Try.prog 130 ⟨false, 1, [.l .nilF], none, .fn⟩ :=
  ⟨Try.isAgg130, Try.sizeOf130, ⟨_, Try.zeroValue130, ⟨[Value.nilFunc], rfl, fun S w η => .cons (rfl) (.nil)⟩, (fun T h => by cases h)⟩, (fun T h => by cases h), ⟨_, _, _, Try.runUnderlying130⟩⟩
theorem ti131 : TIok Try.prog 131 ⟨false, 1, [.l .nilF], none, .fn⟩ :=
  ⟨Try.isAgg131, Try.sizeOf131, ⟨_, Try.zeroValue131, ⟨[Value.nilFunc], rfl, fun S w η => .cons (rfl) (.nil)⟩, (fun T h => by cases h)⟩, (fun T h => by cases h), ⟨_, _, _, Try.runUnderlying131⟩⟩
theorem ti132 : TIok Try.prog 132 ⟨true, 80, [.d (.int .i64) (0 : Int), .d (.int .i64) (0 : Int), .d (.int .i64) (0 : Int), .d (.int .i64) (0 : Int), .d (.int .i64) (0 : Int), .d (.int .i64) (0 : Int), .d (.int .i64) (0 : Int), .d (.int .i64) (0 : Int), .d (.int .i64) (0 : Int), .d (.int .i64) (0 : Int), .d (.int .i64) (0 : Int), .d (.int .i64) (0 : Int), .d (.int .i64) (0 : Int), .d (.int .i64) (0 : Int), .d (.int .i64) (0 : Int), .d (.int .i64) (0 : Int), .d (.int .i64) (0 : Int), .d (.int .i64) (0 : Int), .d (.int .i64) (0 : Int), .d (.int .i64) (0 : Int), .d (.int .i64) (0 : Int), .d (.int .i64) (0 : Int), .d (.int .i64) (0 : Int), .d (.int .i64) (0 : Int), .d (.int .i64) (0 : Int), .d (.int .i64) (0 : Int), .d (.int .i64) (0 : Int), .d (.int .i64) (0 : Int), .d (.int .i64) (0 : Int), .d (.int .i64) (0 : Int), .d (.int .i64) (0 : Int), .d (.int .i64) (0 : Int), .d (.int .i64) (0 : Int), .d (.int .i64) (0 : Int), .d (.int .i64) (0 : Int), .d (.int .i64) (0 : Int), .d (.int .i64) (0 : Int), .d (.int .i64) (0 : Int), .d (.int .i64) (0 : Int), .d (.int .i64) (0 : Int), .d (.int .i64) (0 : Int), .d (.int .i64) (0 : Int), .d (.int .i64) (0 : Int), .d (.int .i64) (0 : Int), .d (.int .i64) (0 : Int), .d (.int .i64) (0 : Int), .d (.int .i64) (0 : Int), .d (.int .i64) (0 : Int), .d (.int .i64) (0 : Int), .d (.int .i64) (0 : Int), .d (.int .i64) (0 : Int), .d (.int .i64) (0 : Int), .d (.int .i64) (0 : Int), .d (.int .i64) (0 : Int), .d (.int .i64) (0 : Int), .d (.int .i64) (0 : Int), .d (.int .i64) (0 : Int), .d (.int .i64) (0 : Int), .d (.int .i64) (0 : Int), .d (.int .i64) (0 : Int), .d (.int .i64) (0 : Int), .d (.int .i64) (0 : Int), .d (.int .i64) (0 : Int), .d (.int .i64) (0 : Int), .d (.int .i64) (0 : Int), .d (.int .i64) (0 : Int), .d (.int .i64) (0 : Int), .d (.int .i64) (0 : Int), .d (.int .i64) (0 : Int), .d (.int .i64) (0 : Int), .d (.int .i64) (0 : Int), .d (.int .i64) (0 : Int), .d (.int .i64) (0 : Int), .d (.int .i64) (0 : Int), .d (.int .i64) (0 : Int), .d (.int .i64) (0 : Int), .d (.int .i64) (0 : Int), .d (.int .i64) (0 : Int), .d (.int .i64) (0 : Int), .d (.int .i64) (0 : Int)], none, .array 8 113⟩ :=
  ⟨Try.isAgg132, Try.sizeOf132, ⟨_, Try.zeroValue132, ⟨[Value.int IntKind.i64 0, Value.int IntKind.i64 0, Value.int IntKind.i64 0, Value.int IntKind.i64 0, Value.int IntKind.i64 0, Value.int IntKind.i64 0, Value.int IntKind.i64 0, Value.int IntKind.i64 0, Value.int IntKind.i64 0, Value.int IntKind.i64 0, Value.int IntKind.i64 0, Value.int IntKind.i64 0, Value.int IntKind.i64 0, Value.int IntKind.i64 0, Value.int IntKind.i64 0, Value.int IntKind.i64 0, Value.int IntKind.i64 0, Value.int IntKind.i64 0, Value.int IntKind.i64 0, Value.int IntKind.i64 0, Value.int IntKind.i64 0, Value.int IntKind.i64 0, Value.int IntKind.i64 0, Value.int IntKind.i64 0, Value.int IntKind.i64 0, Value.int IntKind.i64 0, Value.int IntKind.i64 0, Value.int IntKind.i64 0, Value.int IntKind.i64 0, Value.int IntKind.i64 0, Value.int IntKind.i64 0, Value.int IntKind.i64 0, Value.int IntKind.i64 0, Value.int IntKind.i64 0, Value.int IntKind.i64 0, Value.int IntKind.i64 0, Value.int IntKind.i64 0, Value.int IntKind.i64 0, Value.int IntKind.i64 0, Value.int IntKind.i64 0, Value.int IntKind.i64 0, Value.int IntKind.i64 0, Value.int IntKind.i64 0, Value.int IntKind.i64 0, Value.int IntKind.i64 0, Value.int IntKind.i64 0, Value.int IntKind.i64 0, Value.int IntKind.i64 0, Value.int IntKind.i64 0, Value.int IntKind.i64 0, Value.int IntKind.i64 0, Value.int IntKind.i64 0, Value.int IntKind.i64 0, Value.int IntKind.i64 0, Value.int IntKind.i64 0, Value.int IntKind.i64 0, Value.int IntKind.i64 0, Value.int IntKind.i64 0, Value.int IntKind.i64 0, Value.int IntKind.i64 0, Value.int IntKind.i64 0, Value.int IntKind.i64 0, Value.int IntKind.i64 0, Value.int IntKind.i64 0, Value.int IntKind.i64 0, Value.int IntKind.i64 0, Value.int IntKind.i64 0, Value.int IntKind.i64 0, Value.int IntKind.i64 0, Value.int IntKind.i64 0, Value.int IntKind.i64 0, Value.int IntKind.i64 0, Value.int IntKind.i64 0, Value.int IntKind.i64 0, Value.int IntKind.i64 0, Value.int IntKind.i64 0, Value.int IntKind.i64 0, Value.int IntKind.i64 0, Value.int IntKind.i64 0, Value.int IntKind.i64 0], rfl, fun S w η => .cons (zi _) (.cons (zi _) (.cons (zi _) (.cons (zi _) (.cons (zi _) (.cons (zi _) (.cons (zi _) (.cons (zi _) (.cons (zi _) (.cons (zi _) (.cons (zi _) (.cons (zi _) (.cons (zi _) (.cons (zi _) (.cons (zi _) (.cons (zi _) (.cons (zi _) (.cons (zi _) (.cons (zi _) (.cons (zi _) (.cons (zi _) (.cons (zi _) (.cons (zi _) (.cons (zi _) (.cons (zi _) (.cons (zi _) (.cons (zi _) (.cons (zi _) (.cons (zi _) (.cons (zi _) (.cons (zi _) (.cons (zi _) (.cons (zi _) (.cons (zi _) (.cons (zi _) (.cons (zi _) (.cons (zi _) (.cons (zi _) (.cons (zi _) (.cons (zi _) (.cons (zi _) (.cons (zi _) (.cons (zi _) (.cons (zi _) (.cons (zi _) (.cons (zi _) (.cons (zi _) (.cons (zi _) (.cons (zi _) (.cons (zi _) (.cons (zi _) (.cons (zi _) (.cons (zi _) (.cons (zi _) (.cons (zi _) (.cons (zi _) (.cons (zi _) (.cons (zi _) (.cons (zi _) (.cons (zi _) (.cons (zi _) (.cons (zi _) (.cons (zi _) (.cons (zi _) (.cons (zi _) (.cons (zi _) (.cons (zi _) (.cons (zi _) (.cons (zi _) (.cons (zi _) (.cons (zi _) (.cons (zi _) (.cons (zi _) (.cons (zi _) (.cons (zi _) (.cons (zi _) (.cons (zi _) (.cons (zi _) (.cons (zi _) (.cons (zi _) (.nil))))))))))))))))))))))))))))))))))))))))))))))))))))))))))))))))))))))))))))))))⟩, (fun T h => by cases h)⟩, (fun T h => by cases h), Try.runUnderlying132⟩
theorem ti133 : TIok Try.prog 133 ⟨true, 80, [.d (.int .i64) (0 : Int), .d (.int .i64) (0 : Int), .d (.int .i64) (0 : Int), .d (.int .i64) (0 : Int), .d (.int .i64) (0 : Int), .d (.int .i64) (0 : Int), .d (.int .i64) (0 : Int), .d (.int .i64) (0 : Int), .d (.int .i64) (0 : Int), .d (.int .i64) (0 : Int), .d (.int .i64) (0 : Int), .d (.int .i64) (0 : Int), .d (.int .i64) (0 : Int), .d (.int .i64) (0 : Int), .d (.int .i64) (0 : Int), .d (.int .i64) (0 : Int), .d (.int .i64) (0 : Int), .d (.int .i64) (0 : Int), .d (.int .i64) (0 : Int), .d (.int .i64) (0 : Int), .d (.int .i64) (0 : Int), .d (.int .i64) (0 : Int), .d (.int .i64) (0 : Int), .d (.int .i64) (0 : Int), .d (.int .i64) (0 : Int), .d (.int .i64) (0 : Int), .d (.int .i64) (0 : Int), .d (.int .i64) (0 : Int), .d (.int .i64) (0 : Int), .d (.int .i64) (0 : Int), .d (.int .i64) (0 : Int), .d (.int .i64) (0 : Int), .d (.int .i64) (0 : Int), .d (.int .i64) (0 : Int), .d (.int .i64) (0 : Int), .d (.int .i64) (0 : Int), .d (.int .i64) (0 : Int), .d (.int .i64) (0 : Int), .d (.int .i64) (0 : Int), .d (.int .i64) (0 : Int), .d (.int .i64) (0 : Int), .d (.int .i64) (0 : Int), .d (.int .i64) (0 : Int), .d (.int .i64) (0 : Int), .d (.int .i64) (0 : Int), .d (.int .i64) (0 : Int), .d (.int .i64) (0 : Int), .d (.int .i64) (0 : Int), .d (.int .i64) (0 : Int), .d (.int .i64) (0 : Int), .d (.int .i64) (0 : Int), .d (.int .i64) (0 : Int), .d (.int .i64) (0 : Int), .d (.int .i64) (0 : Int), .d (.int .i64) (0 : Int), .d (.int .i64) (0 : Int), .d (.int .i64) (0 : Int), .d (.int .i64) (0 : Int), .d (.int .i64) (0 : Int), .d (.int .i64) (0 : Int), .d (.int .i64) (0 : Int), .d (.int .i64) (0 : Int), .d (.int .i64) (0 : Int), .d (.int .i64) (0 : Int), .d (.int .i64) (0 : Int), .d (.int .i64) (0 : Int), .d (.int .i64) (0 : Int), .d (.int .i64) (0 : Int), .d (.int .i64) (0 : Int), .d (.int .i64) (0 : Int), .d (.int .i64) (0 : Int), .d (.int .i64) (0 : Int), .d (.int .i64) (0 : Int), .d (.int .i64) (0 : Int), .d (.int .i64) (0 : Int), .d (.int .i64) (0 : Int), .d (.int .i64) (0 : Int), .d (.int .i64) (0 : Int), .d (.int .i64) (0 : Int), .d (.int .i64) (0 : Int)], none, .array 8 113⟩ :=
  ⟨Try.isAgg133, Try.sizeOf133, ⟨_, Try.zeroValue133, ⟨[Value.int IntKind.i64 0, Value.int IntKind.i64 0, Value.int IntKind.i64 0, Value.int IntKind.i64 0, Value.int IntKind.i64 0, Value.int IntKind.i64 0, Value.int IntKind.i64 0, Value.int IntKind.i64 0, Value.int IntKind.i64 0, Value.int IntKind.i64 0, Value.int IntKind.i64 0, Value.int IntKind.i64 0, Value.int IntKind.i64 0, Value.int IntKind.i64 0, Value.int IntKind.i64 0, Value.int IntKind.i64 0, Value.int IntKind.i64 0, Value.int IntKind.i64 0, Value.int IntKind.i64 0, Value.int IntKind.i64 0, Value.int IntKind.i64 0, Value.int IntKind.i64 0, Value.int IntKind.i64 0, Value.int IntKind.i64 0, Value.int IntKind.i64 0, Value.int IntKind.i64 0, Value.int IntKind.i64 0, Value.int IntKind.i64 0, Value.int IntKind.i64 0, Value.int IntKind.i64 0, Value.int IntKind.i64 0, Value.int IntKind.i64 0, Value.int IntKind.i64 0, Value.int IntKind.i64 0, Value.int IntKind.i64 0, Value.int IntKind.i64 0, Value.int IntKind.i64 0, Value.int IntKind.i64 0, Value.int IntKind.i64 0, Value.int IntKind.i64 0, Value.int IntKind.i64 0, Value.int IntKind.i64 0, Value.int IntKind.i64 0, Value.int IntKind.i64 0, Value.int IntKind.i64 0, Value.int IntKind.i64 0, Value.int IntKind.i64 0, Value.int IntKind.i64 0, Value.int IntKind.i64 0, Value.int IntKind.i64 0, Value.int IntKind.i64 0, Value.int IntKind.i64 0, Value.int IntKind.i64 0, Value.int IntKind.i64 0, Value.int IntKind.i64 0, Value.int IntKind.i64 0, Value.int IntKind.i64 0, Value.int IntKind.i64 0, Value.int IntKind.i64 0, Value.int IntKind.i64 0, Value.int IntKind.i64 0, Value.int IntKind.i64 0, Value.int IntKind.i64 0, Value.int IntKind.i64 0, Value.int IntKind.i64 0, Value.int IntKind.i64 0, Value.int IntKind.i64 0, Value.int IntKind.i64 0, Value.int IntKind.i64 0, Value.int IntKind.i64 0, Value.int IntKind.i64 0, Value.int IntKind.i64 0, Value.int IntKind.i64 0, Value.int IntKind.i64 0, Value.int IntKind.i64 0, Value.int IntKind.i64 0, Value.int IntKind.i64 0, Value.int IntKind.i64 0, Value.int IntKind.i64 0, Value.int IntKind.i64 0], rfl, fun S w η => .cons (zi _) (.cons (zi _) (.cons (zi _) (.cons (zi _) (.cons (zi _) (.cons (zi _) (.cons (zi _) (.cons (zi _) (.cons (zi _) (.cons (zi _) (.cons (zi _) (.cons (zi _) (.cons (zi _) (.cons (zi _) (.cons (zi _) (.cons (zi _) (.cons (zi _) (.cons (zi _) (.cons (zi _) (.cons (zi _) (.cons (zi _) (.cons (zi _) (.cons (zi _) (.cons (zi _) (.cons (zi _) (.cons (zi _) (.cons (zi _) (.cons (zi _) (.cons (zi _) (.cons (zi _) (.cons (zi _) (.cons (zi _) (.cons (zi _) (.cons (zi _) (.cons (zi _) (.cons (zi _) (.cons (zi _) (.cons (zi _) (.cons (zi _) (.cons (zi _) (.cons (zi _) (.cons (zi _) (.cons (zi _) (.cons (zi _) (.cons (zi _) (.cons (zi _) (.cons (zi _) (.cons (zi _) (.cons (zi _) (.cons (zi _) (.cons (zi _) (.cons (zi _) (.cons (zi _) (.cons (zi _) (.cons (zi _) (.cons (zi _) (.cons (zi _) (.cons (zi _) (.cons (zi _) (.cons (zi _) (.cons (zi _) (.cons (zi _) (.cons (zi _) (.cons (zi _) (.cons (zi _) (.cons (zi _) (.cons (zi _) (.cons (zi _) (.cons (zi _) (.cons (zi _) (.cons (zi _) (.cons (zi _) (.cons (zi _) (.cons (zi _) (.cons (zi _) (.cons (zi _) (.cons (zi _) (.cons (zi _) (.cons (zi _) (.cons (zi _) (.nil))))))))))))))))))))))))))))))))))))))))))))))))))))))))))))))))))))))))))))))))⟩, (fun T h => by cases h)⟩, (fun T h => by cases h), Try.runUnderlying133⟩
theorem ti134 : TIok Try.prog 134 ⟨false, 1, [.l .nilF], none, .fn⟩ :=
  ⟨Try.isAgg134, Try.sizeOf134, ⟨_, Try.zeroValue134, ⟨[Value.nilFunc], rfl, fun S w η => .cons (rfl) (.nil)⟩, (fun T h => by cases h)⟩, (fun T h => by cases h), ⟨_, _, _, Try.runUnderlying134⟩⟩
theorem ti135 : TIok Try.prog 135 ⟨false, 1, [.l .nilF], none, .fn⟩ :=
  ⟨Try.isAgg135, Try.sizeOf135, ⟨_, Try.zeroValue135, ⟨[Value.nilFunc], rfl, fun S w η => .cons (rfl) (.nil)⟩, (fun T h => by cases h)⟩, (fun T h => by cases h), ⟨_, _, _, Try.runUnderlying135⟩⟩
theorem ti136 : TIok Try.prog 136 ⟨false, 1, [.l .nilF], none, .fn⟩ :=
  ⟨Try.isAgg136, Try.sizeOf136, ⟨_, Try.zeroValue136, ⟨[Value.nilFunc], rfl, fun S w η => .cons (rfl) (.nil)⟩, (fun T h => by cases h)⟩, (fun T h => by cases h), ⟨_, _, _, Try.runUnderlying136⟩⟩
theorem ti137 : TIok Try.prog 137 ⟨false, 1, [.l .nilF], none, .fn⟩ :=
  ⟨Try.isAgg137, Try.sizeOf137, ⟨_, Try.zeroValue137, ⟨[Value.nilFunc], rfl, fun S w η => .cons (rfl) (.nil)⟩, (fun T h => by cases h)⟩, (fun T h => by cases h), ⟨_, _, _, Try.runUnderlying137⟩⟩
theorem ti138 : TIok Try.prog 138 ⟨false, 1, [.l .nilF], none, .fn⟩ :=
  ⟨Try.isAgg138, Try.sizeOf138, ⟨_, Try.zeroValue138, ⟨[Value.nilFunc], rfl, fun S w η => .cons (rfl) (.nil)⟩, (fun T h => by cases h)⟩, (fun T h => by cases h), ⟨_, _, _, Try.runUnderlying138⟩⟩
theorem ti139 : TIok Try.prog 139 ⟨false, 1, [.d (.int .i64) (0 : Int)], some (.int .i64), .int .i64⟩ :=
  ⟨Try.isAgg139, Try.sizeOf139, ⟨_, Try.zeroValue139, ⟨[Value.int IntKind.i64 0], rfl, fun S w η => .cons (zi _) (.nil)⟩, (fun T h => by cases h; rfl)⟩, (fun T h => by cases h; exact ⟨rfl, rfl⟩), Try.runUnderlying139⟩
theorem ti141 : TIok Try.prog 141 ⟨false, 1, [.l .nilF], none, .fn⟩ :=
  ⟨Try.isAgg141, Try.sizeOf141, ⟨_, Try.zeroValue141, ⟨[Value.nilFunc], rfl, fun S w η => .cons (rfl) (.nil)⟩, (fun T h => by cases h)⟩, (fun T h => by cases h), ⟨_, _, _, Try.runUnderlying141⟩⟩
theorem ti142 : TIok Try.prog 142 ⟨false, 1, [.l .nilF], none, .fn⟩ :=
  ⟨Try.isAgg142, Try.sizeOf142, ⟨_, Try.zeroValue142, ⟨[Value.nilFunc], rfl, fun S w η => .cons (rfl) (.nil)⟩, (fun T h => by cases h)⟩, (fun T h => by cases h), ⟨_, _, _, Try.runUnderlying142⟩⟩
theorem ti143 : TIok Try.prog 143 ⟨false, 1, [.l .nilF], none, .fn⟩ :=
  ⟨Try.isAgg143, Try.sizeOf143, ⟨_, Try.zeroValue143, ⟨[Value.nilFunc], rfl, fun S w η => .cons (rfl) (.nil)⟩, (fun T h => by cases h)⟩, (fun T h => by cases h), ⟨_, _, _, Try.runUnderlying143⟩⟩
theorem ti144 : TIok Try.prog 144 ⟨false, 1, [.l .nilF], none, .fn⟩ :=
  ⟨Try.isAgg144, Try.sizeOf144, ⟨_, Try.zeroValue144, ⟨[Value.nilFunc], rfl, fun S w η => .cons (rfl) (.nil)⟩, (fun T h => by cases h)⟩, (fun T h => by cases h), ⟨_, _, _, Try.runUnderlying144⟩⟩
theorem ti146 : TIok Try.prog 146 ⟨false, 1, [.l .nilF], none, .fn⟩ :=
  ⟨Try.isAgg146, Try.sizeOf146, ⟨_, Try.zeroValue146, ⟨[Value.nilFunc], rfl, fun S w η => .cons (rfl) (.nil)⟩, (fun T h => by cases h)⟩, (fun T h => by cases h), ⟨_, _, _, Try.runUnderlying146⟩⟩
theorem ti147 : TIok Try.prog 147 ⟨false, 1, [.l .nilF], none, .fn⟩ :=
  ⟨Try.isAgg147, Try.sizeOf147, ⟨_, Try.zeroValue147, ⟨[Value.nilFunc], rfl, fun S w η => .cons (rfl) (.nil)⟩, (fun T h => by cases h)⟩, (fun T h => by cases h), ⟨_, _, _, Try.runUnderlying147⟩⟩
theorem ti148 : TIok Try.prog 148 ⟨false, 1, [.d (.int .u32) (0 : Int)], some (.int .u32), .int .u32⟩ :=
  ⟨Try.isAgg148, Try.sizeOf148, ⟨_, Try.zeroValue148, ⟨[Value.int IntKind.u32 0], rfl, fun S w η => .cons (zi _) (.nil)⟩, (fun T h => by cases h; rfl)⟩, (fun T h => by cases h; exact ⟨rfl, rfl⟩), Try.runUnderlying148⟩
theorem ti149 : TIok Try.prog 149 ⟨false, 1, [.l .nilF], none, .fn⟩ :=
  ⟨Try.isAgg149, Try.sizeOf149, ⟨_, Try.zeroValue149, ⟨[Value.nilFunc], rfl, fun S w η => .cons (rfl) (.nil)⟩, (fun T h => by cases h)⟩, (fun T h => by cases h), ⟨_, _, _, Try.runUnderlying149⟩⟩
theorem ti150 : TIok Try.prog 150 ⟨false, 1, [.d (.int .u64) (0 : Int)], some (.int .u64), .int .u64⟩ :=
  ⟨Try.isAgg150, Try.sizeOf150, ⟨_, Try.zeroValue150, ⟨[Value.int IntKind.u64 0], rfl, fun S w η => .cons (zi _) (.nil)⟩, (fun T h => by cases h; rfl)⟩, (fun T h => by cases h; exact ⟨rfl, rfl⟩), Try.runUnderlying150⟩
theorem ti151 : TIok Try.prog 151 ⟨false, 1, [.d (.int .u64) (0 : Int)], some (.int .u64), .int .u64⟩ :=
  ⟨Try.isAgg151, Try.sizeOf151, ⟨_, Try.zeroValue151, ⟨[Value.int IntKind.u64 0], rfl, fun S w η => .cons (zi _) (.nil)⟩, (fun T h => by cases h; rfl)⟩, (fun T h => by cases h; exact ⟨rfl, rfl⟩), Try.runUnderlying151⟩
theorem ti152 : TIok Try.prog 152 ⟨false, 1, [.l .nilF], none, .fn⟩ :=
  ⟨Try.isAgg152, Try.sizeOf152, ⟨_, Try.zeroValue152, ⟨[Value.nilFunc], rfl, fun S w η => .cons (rfl) (.nil)⟩, (fun T h => by cases h)⟩, (fun T h => by cases h), ⟨_, _, _, Try.runUnderlying152⟩⟩
theorem ti153 : TIok Try.prog 153 ⟨false, 1, [.l .nilF], none, .fn⟩ :=
  ⟨Try.isAgg153, Try.sizeOf153, ⟨_, Try.zeroValue153, ⟨[Value.nilFunc], rfl, fun S w η => .cons (rfl) (.nil)⟩, (fun T h => by cases h)⟩, (fun T h => by cases h), ⟨_, _, _, Try.runUnderlying153⟩⟩
theorem ti154 : TIok Try.prog 154 ⟨false, 1, [.l .nilF], none, .fn⟩ :=
  ⟨Try.isAgg154, Try.sizeOf154, ⟨_, Try.zeroValue154, ⟨[Value.nilFunc], rfl, fun S w η => .cons (rfl) (.nil)⟩, (fun T h => by cases h)⟩, (fun T h => by cases h), ⟨_, _, _, Try.runUnderlying154⟩⟩
theorem ti155 : TIok Try.prog 155 ⟨false, 1, [.l .nilP], none, .ptr 3⟩ :=
  ⟨Try.isAgg155, Try.sizeOf155, ⟨_, Try.zeroValue155, ⟨[Value.pointer none], rfl, fun S w η => .cons (rfl) (.nil)⟩, (fun T h => by cases h)⟩, (fun T h => by cases h), Try.runUnderlying155⟩
theorem ti156 : TIok Try.prog 156 ⟨false, 1, [.l .nilF], none, .fn⟩ :=
  ⟨Try.isAgg156, Try.sizeOf156, ⟨_, Try.zeroValue156, ⟨[Value.nilFunc], rfl, fun S w η => .cons (rfl) (.nil)⟩, (fun T h => by cases h)⟩, (fun T h => by cases h), ⟨_, _, _, Try.runUnderlying156⟩⟩
theorem ti157 : TIok Try.prog 157 ⟨false, 1, [.l .nilF], none, .fn⟩ :=
  ⟨Try.isAgg157, Try.sizeOf157, ⟨_, Try.zeroValue157, ⟨[Value.nilFunc], rfl, fun S w η => .cons (rfl) (.nil)⟩, (fun T h => by cases h)⟩, (fun T h => by cases h), ⟨_, _, _, Try.runUnderlying157⟩⟩
theorem ti158 : TIok Try.prog 158 ⟨false, 1, [.l .nilP], none, .ptr 151⟩ :=
  ⟨Try.isAgg158, Try.sizeOf158, ⟨_, Try.zeroValue158, ⟨[Value.pointer none], rfl, fun S w η => .cons (rfl) (.nil)⟩, (fun T h => by cases h)⟩, (fun T h => by cases h), Try.runUnderlying158⟩
theorem ti160 : TIok Try.prog 160 ⟨false, 1, [.l .nilF], none, .fn⟩ :=
  ⟨Try.isAgg160, Try.sizeOf160, ⟨_, Try.zeroValue160, ⟨[Value.nilFunc], rfl, fun S w η => .cons (rfl) (.nil)⟩, (fun T h => by cases h)⟩, (fun T h => by cases h), ⟨_, _, _, Try.runUnderlying160⟩⟩
theorem ti161 : TIok Try.prog 161 ⟨false, 1, [.l .nilF], none, .fn⟩ :=
  ⟨Try.isAgg161, Try.sizeOf161, ⟨_, Try.zeroValue161, ⟨[Value.nilFunc], rfl, fun S w η => .cons (rfl) (.nil)⟩, (fun T h => by cases h)⟩, (fun T h => by cases h), ⟨_, _, _, Try.runUnderlying161⟩⟩
theorem ti162 : TIok Try.prog 162 ⟨true, 4, [.l .nilP, .l .nilP, .l .nilP, .d .str ([] : List UInt8)], none, .struct [(0, 17, 1), (1, 17, 1), (2, 17, 1), (3, 9, 1)]⟩ :=
  ⟨Try.isAgg162, Try.sizeOf162, ⟨_, Try.zeroValue162, ⟨[Value.pointer none, Value.pointer none, Value.pointer none, Value.string ⟨#[]⟩], rfl, fun S w η => .cons (rfl) (.cons (rfl) (.cons (rfl) (.cons (zs) (.nil))))⟩, (fun T h => by cases h)⟩, (fun T h => by cases h), ⟨_, Try.runUnderlying162, rfl, fun w => by simp [Try.sizeOf17, Try.sizeOf9]⟩⟩
theorem ti165 : TIok Try.prog 165 ⟨true, 0, [], none, .other⟩ :=
  ⟨Try.isAgg165, Try.sizeOf165, ⟨_, Try.zeroValue165, ⟨[], rfl, fun S w η => .nil⟩, (fun T h => by cases h)⟩, (fun T h => by cases h), trivial⟩
theorem ti169 : TIok Try.prog 169 ⟨false, 1, [.l .nilF], none, .fn⟩ :=
  ⟨Try.isAgg169, Try.sizeOf169, ⟨_, Try.zeroValue169, ⟨[Value.nilFunc], rfl, fun S w η => .cons (rfl) (.nil)⟩, (fun T h => by cases h)⟩, (fun T h => by cases h), ⟨_, _, _, Try.runUnderlying169⟩⟩
theorem ti170 : TIok Try.prog 170 ⟨false, 1, [.l .nilP], none, .ptr 5⟩ :=
  ⟨Try.isAgg170, Try.sizeOf170, ⟨_, Try.zeroValue170, ⟨[Value.pointer none], rfl, fun S w η => .cons (rfl) (.nil)⟩, (fun T h => by cases h)⟩, (fun T h => by cases h), Try.runUnderlying170⟩
theorem ti173 : TIok Try.prog 173 ⟨true, 11, [.d (.int .u64) (0 : Int), .d (.int .u64) (0 : Int), .d (.int .u32) (0 : Int), .d (.int .u8) (0 : Int), .d (.int .u8) (0 : Int), .d (.int .u8) (0 : Int), .d (.int .u8) (0 : Int), .l .nilF, .l .nilP, .d (.int .i32) (0 : Int), .d (.int .i32) (0 : Int)], none, .other⟩ :=
  ⟨Try.isAgg173, Try.sizeOf173, ⟨_, Try.zeroValue173, ⟨[Value.int IntKind.u64 0, Value.int IntKind.u64 0, Value.int IntKind.u32 0, Value.int IntKind.u8 0, Value.int IntKind.u8 0, Value.int IntKind.u8 0, Value.int IntKind.u8 0, Value.nilFunc, Value.pointer none, Value.int IntKind.i32 0, Value.int IntKind.i32 0], rfl, fun S w η => .cons (zi _) (.cons (zi _) (.cons (zi _) (.cons (zi _) (.cons (zi _) (.cons (zi _) (.cons (zi _) (.cons (rfl) (.cons (rfl) (.cons (zi _) (.cons (zi _) (.nil)))))))))))⟩, (fun T h => by cases h)⟩, (fun T h => by cases h), trivial⟩
theorem tyOK : ∀ id ti, lk tyTab id = some ti → TIok Try.prog id ti := by
  unfold tyTab
  refine lk_all ti1 ?_
  refine lk_all ti2 ?_
  refine lk_all ti3 ?_
  refine lk_all ti4 ?_
  refine lk_all ti5 ?_
  refine lk_all ti7 ?_
  refine lk_all ti9 ?_
  refine lk_all ti12 ?_
  refine lk_all ti13 ?_
  refine lk_all ti15 ?_
  refine lk_all ti16 ?_
  refine lk_all ti17 ?_
  refine lk_all ti18 ?_
  refine lk_all ti20 ?_
  refine lk_all ti21 ?_
  refine lk_all ti22 ?_
  refine lk_all ti23 ?_
  refine lk_all ti24 ?_
  refine lk_all ti25 ?_
  refine lk_all ti26 ?_
  refine lk_all ti27 ?_
  refine lk_all ti28 ?_
  refine lk_all ti29 ?_
  refine lk_all ti30 ?_
  refine lk_all ti31 ?_
  refine lk_all ti32 ?_
  refine lk_all ti33 ?_
  refine lk_all ti34 ?_
  refine lk_all ti36 ?_
  refine lk_all ti37 ?_
  refine lk_all ti38 ?_
  refine lk_all ti39 ?_
  refine lk_all ti40 ?_
  refine lk_all ti42 ?_
  refine lk_all ti43 ?_
  refine lk_all ti44 ?_
  refine lk_all ti45 ?_
  refine lk_all ti46 ?_
  refine lk_all ti47 ?_
  refine lk_all ti48 ?_
  refine lk_all ti49 ?_
  refine lk_all ti51 ?_
  refine lk_all ti52 ?_
  refine lk_all ti53 ?_
  refine lk_all ti54 ?_
  refine lk_all ti55 ?_
  refine lk_all ti56 ?_
  refine lk_all ti57 ?_
  refine lk_all ti58 ?_
  refine lk_all ti59 ?_
  refine lk_all ti60 ?_
  refine lk_all ti61 ?_
  refine lk_all ti62 ?_
  refine lk_all ti63 ?_
  refine lk_all ti64 ?_
  refine lk_all ti65 ?_
  refine lk_all ti66 ?_
  refine lk_all ti67 ?_
  refine lk_all ti68 ?_
  refine lk_all ti69 ?_
  refine lk_all ti70 ?_
  refine lk_all ti71 ?_
  refine lk_all ti73 ?_
  refine lk_all ti74 ?_
  refine lk_all ti75 ?_
  refine lk_all ti76 ?_
  refine lk_all ti77 ?_
  refine lk_all ti79 ?_
  refine lk_all ti80 ?_
  refine lk_all ti81 ?_
  refine lk_all ti82 ?_
  refine lk_all ti83 ?_
  refine lk_all ti84 ?_
  refine lk_all ti85 ?_
  refine lk_all ti86 ?_
  refine lk_all ti87 ?_
  refine lk_all ti88 ?_
  refine lk_all ti89 ?_
  refine lk_all ti91 ?_
  refine lk_all ti92 ?_
  refine lk_all ti93 ?_
  refine lk_all ti94 ?_
  refine lk_all ti95 ?_
  refine lk_all ti96 ?_
  refine lk_all ti97 ?_
  refine lk_all ti98 ?_
  refine lk_all ti99 ?_
  refine lk_all ti100 ?_
  refine lk_all ti101 ?_
  refine lk_all ti102 ?_
  refine lk_all ti103 ?_
  refine lk_all ti104 ?_
  refine lk_all ti105 ?_
  refine lk_all ti106 ?_
  refine lk_all ti107 ?_
  refine lk_all ti108 ?_
  refine lk_all ti109 ?_
  refine lk_all ti110 ?_
  refine lk_all ti111 ?_
  refine lk_all ti112 ?_
  refine lk_all ti113 ?_
  refine lk_all ti114 ?_
  refine lk_all ti115 ?_
  refine lk_all ti116 ?_
  refine lk_all ti117 ?_
  refine lk_all ti118 ?_
  refine lk_all ti119 ?_
  refine lk_all ti120 ?_
  refine lk_all ti121 ?_
  refine lk_all ti122 ?_
  refine lk_all ti123 ?_
  refine lk_all ti124 ?_
  refine lk_all ti125 ?_
  refine lk_all ti126 ?_
  refine lk_all ti127 ?_
  refine lk_all ti128 ?_
  refine lk_all ti129 ?_
  refine lk_all ti130 ?_
  refine lk_all ti131 ?_
  refine lk_all ti132 ?_
  refine lk_all ti133 ?_
  refine lk_all ti134 ?_
  refine lk_all ti135 ?_
  refine lk_all ti136 ?_
  refine lk_all ti137 ?_
  refine lk_all ti138 ?_
  refine lk_all ti139 ?_
  refine lk_all ti141 ?_
  refine lk_all ti142 ?_
  refine lk_all ti143 ?_
  refine lk_all ti144 ?_
  refine lk_all ti146 ?_
  refine lk_all ti147 ?_
  refine lk_all ti148 ?_
  refine lk_all ti149 ?_
  refine lk_all ti150 ?_
  refine lk_all ti151 ?_
  refine lk_all ti152 ?_
  refine lk_all ti153 ?_
  refine lk_all ti154 ?_
  refine lk_all ti155 ?_
  refine lk_all ti156 ?_
  refine lk_all ti157 ?_
  refine lk_all ti158 ?_
  refine lk_all ti160 ?_
  refine lk_all ti161 ?_
  refine lk_all ti162 ?_
  refine lk_all ti165 ?_
  refine lk_all ti169 ?_
  refine lk_all ti170 ?_
  refine lk_all ti173 ?_
  exact lk_none
noncomputable def fnTab : List (FuncId × Func) := [(3, Try.f3), (4, Try.f4), (5, Try.f5), (6, Try.f6), (7, Try.f7), (8, Try.f8), (9, Try.f9), (10, Try.f10), (11, Try.f11), (12, Try.f12), (13, Try.f13), (14, Try.f14), (15, Try.f15), (16, Try.f16), (17, Try.f17), (18, Try.f18), (19, Try.f19), (20, Try.f20), (21, Try.f21), (22, Try.f22), (23, Try.f23), (24, Try.f24), (25, Try.f25), (26, Try.f26), (27, Try.f27), (28, Try.f28), (29, Try.f29), (30, Try.f30), (31, Try.f31), (32, Try.f32), (33, Try.f33), (34, Try.f34), (35, Try.f35), (36, Try.f36), (37, Try.f37), (38, Try.f38), (39, Try.f39), (40, Try.f40), (41, Try.f41), (42, Try.f42), (43, Try.f43), (44, Try.f44), (45, Try.f45), (46, Try.f46), (47, Try.f47), (48, Try.f48), (49, Try.f49), (50, Try.f50), (51, Try.f51), (52, Try.f52), (53, Try.f53), (54, Try.f54), (55, Try.f55), (56, Try.f56), (57, Try.f57), (58, Try.f58), (59, Try.f59), (60, Try.f60), (61, Try.f61), (62, Try.f62), (63, Try.f63), (64, Try.f64), (65, Try.f65), (66, Try.f66), (67, Try.f67), (68, Try.f68), (69, Try.f69), (70, Try.f70), (71, Try.f71), (72, Try.f72), (73, Try.f73), (74, Try.f74), (75, Try.f75), (76, Try.f76), (77, Try.f77), (78, Try.f78), (79, Try.f79), (80, Try.f80), (81, Try.f81), (82, Try.f82), (83, Try.f83), (84, Try.f84), (85, Try.f85), (86, Try.f86), (87, Try.f87), (88, Try.f88), (89, Try.f89), (90, Try.f90), (91, Try.f91), (92, Try.f92), (93, Try.f93)]
theorem fnOK : ∀ f fn, lk fnTab f = some fn → Try.prog.funcs[f]? = some fn ∧ ∀ (args : Array Value) (w : World), (callFunc f args).run Try.prog w = .ok (.enter f args) w := by
  unfold fnTab
  refine lk_all (p := fun f fn => Try.prog.funcs[f]? = some fn ∧ ∀ (args : Array Value) (w : World), (callFunc f args).run Try.prog w = .ok (.enter f args) w) ⟨Try.func3, Try.call3⟩ ?_
  refine lk_all (p := fun f fn => Try.prog.funcs[f]? = some fn ∧ ∀ (args : Array Value) (w : World), (callFunc f args).run Try.prog w = .ok (.enter f args) w) ⟨Try.func4, Try.call4⟩ ?_
  refine lk_all (p := fun f fn => Try.prog.funcs[f]? = some fn ∧ ∀ (args : Array Value) (w : World), (callFunc f args).run Try.prog w = .ok (.enter f args) w) ⟨Try.func5, Try.call5⟩ ?_
  refine lk_all (p := fun f fn => Try.prog.funcs[f]? = some fn ∧ ∀ (args : Array Value) (w : World), (callFunc f args).run Try.prog w = .ok (.enter f args) w) ⟨Try.func6, Try.call6⟩ ?_
  refine lk_all (p := fun f fn => Try.prog.funcs[f]? = some fn ∧ ∀ (args : Array Value) (w : World), (callFunc f args).run Try.prog w = .ok (.enter f args) w) ⟨Try.func7, Try.call7⟩ ?_
  refine lk_all (p := fun f fn => Try.prog.funcs[f]? = some fn ∧ ∀ (args : Array Value) (w : World), (callFunc f args).run Try.prog w = .ok (.enter f args) w) ⟨Try.func8, Try.call8⟩ ?_
  refine lk_all (p := fun f fn => Try.prog.funcs[f]? = some fn ∧ ∀ (args : Array Value) (w : World), (callFunc f args).run Try.prog w = .ok (.enter f args) w) ⟨Try.func9, Try.call9⟩ ?_
  refine lk_all (p := fun f fn => Try.prog.funcs[f]? = some fn ∧ ∀ (args : Array Value) (w : World), (callFunc f args).run Try.prog w = .ok (.enter f args) w) ⟨Try.func10, Try.call10⟩ ?_
  refine lk_all (p := fun f fn => Try.prog.funcs[f]? = some fn ∧ ∀ (args : Array Value) (w : World), (callFunc f args).run Try.prog w = .ok (.enter f args) w) ⟨Try.func11, Try.call11⟩ ?_
  refine lk_all (p := fun f fn => Try.prog.funcs[f]? = some fn ∧ ∀ (args : Array Value) (w : World), (callFunc f args).run Try.prog w = .ok (.enter f args) w) ⟨Try.func12, Try.call12⟩ ?_
  refine lk_all (p := fun f fn => Try.prog.funcs[f]? = some fn ∧ ∀ (args : Array Value) (w : World), (callFunc f args).run Try.prog w = .ok (.enter f args) w) ⟨Try.func13, Try.call13⟩ ?_
  refine lk_all (p := fun f fn => Try.prog.funcs[f]? = some fn ∧ ∀ (args : Array Value) (w : World), (callFunc f args).run Try.prog w = .ok (.enter f args) w) ⟨Try.func14, Try.call14⟩ ?_
  refine lk_all (p := fun f fn => Try.prog.funcs[f]? = some fn ∧ ∀ (args : Array Value) (w : World), (callFunc f args).run Try.prog w = .ok (.enter f args) w) ⟨Try.func15, Try.call15⟩ ?_
  refine lk_all (p := fun f fn => Try.prog.funcs[f]? = some fn ∧ ∀ (args : Array Value) (w : World), (callFunc f args).run Try.prog w = .ok (.enter f args) w) ⟨Try.func16, Try.call16⟩ ?_
  refine lk_all (p := fun f fn => Try.prog.funcs[f]? = some fn ∧ ∀ (args : Array Value) (w : World), (callFunc f args).run Try.prog w = .ok (.enter f args) w) ⟨Try.func17, Try.call17⟩ ?_
  refine lk_all (p := fun f fn => Try.prog.funcs[f]? = some fn ∧ ∀ (args : Array Value) (w : World), (callFunc f args).run Try.prog w = .ok (.enter f args) w) ⟨Try.func18, Try.call18⟩ ?_
  refine lk_all (p := fun f fn => Try.prog.funcs[f]? = some fn ∧ ∀ (args : Array Value) (w : World), (callFunc f args).run Try.prog w = .ok (.enter f args) w) ⟨Try.func19, Try.call19⟩ ?_
  refine lk_all (p := fun f fn => Try.prog.funcs[f]? = some fn ∧ ∀ (args : Array Value) (w : World), (callFunc f args).run Try.prog w = .ok (.enter f args) w) ⟨Try.func20, Try.call20⟩ ?_
  refine lk_all (p := fun f fn => Try.prog.funcs[f]? = some fn ∧ ∀ (args : Array Value) (w : World), (callFunc f args).run Try.prog w = .ok (.enter f args) w) ⟨Try.func21, Try.call21⟩ ?_
  refine lk_all (p := fun f fn => Try.prog.funcs[f]? = some fn ∧ ∀ (args : Array Value) (w : World), (callFunc f args).run Try.prog w = .ok (.enter f args) w) ⟨Try.func22, Try.call22⟩ ?_
  refine lk_all (p := fun f fn => Try.prog.funcs[f]? = some fn ∧ ∀ (args : Array Value) (w : World), (callFunc f args).run Try.prog w = .ok (.enter f args) w) ⟨Try.func23, Try.call23⟩ ?_
  refine lk_all (p := fun f fn => Try.prog.funcs[f]? = some fn ∧ ∀ (args : Array Value) (w : World), (callFunc f args).run Try.prog w = .ok (.enter f args) w) ⟨Try.func24, Try.call24⟩ ?_
  refine lk_all (p := fun f fn => Try.prog.funcs[f]? = some fn ∧ ∀ (args : Array Value) (w : World), (callFunc f args).run Try.prog w = .ok (.enter f args) w) ⟨Try.func25, Try.call25⟩ ?_
  refine lk_all (p := fun f fn => Try.prog.funcs[f]? = some fn ∧ ∀ (args : Array Value) (w : World), (callFunc f args).run Try.prog w = .ok (.enter f args) w) ⟨Try.func26, Try.call26⟩ ?_
  refine lk_all (p := fun f fn => Try.prog.funcs[f]? = some fn ∧ ∀ (args : Array Value) (w : World), (callFunc f args).run Try.prog w = .ok (.enter f args) w) ⟨Try.func27, Try.call27⟩ ?_
  refine lk_all (p := fun f fn => Try.prog.funcs[f]? = some fn ∧ ∀ (args : Array Value) (w : World), (callFunc f args).run Try.prog w = .ok (.enter f args) w) ⟨Try.func28, Try.call28⟩ ?_
  refine lk_all (p := fun f fn => Try.prog.funcs[f]? = some fn ∧ ∀ (args : Array Value) (w : World), (callFunc f args).run Try.prog w = .ok (.enter f args) w) ⟨Try.func29, Try.call29⟩ ?_
  refine lk_all (p := fun f fn => Try.prog.funcs[f]? = some fn ∧ ∀ (args : Array Value) (w : World), (callFunc f args).run Try.prog w = .ok (.enter f args) w) ⟨Try.func30, Try.call30⟩ ?_
  refine lk_all (p := fun f fn => Try.prog.funcs[f]? = some fn ∧ ∀ (args : Array Value) (w : World), (callFunc f args).run Try.prog w = .ok (.enter f args) w) ⟨Try.func31, Try.call31⟩ ?_
  refine lk_all (p := fun f fn => Try.prog.funcs[f]? = some fn ∧ ∀ (args : Array Value) (w : World), (callFunc f args).run Try.prog w = .ok (.enter f args) w) ⟨Try.func32, Try.call32⟩ ?_
  refine lk_all (p := fun f fn => Try.prog.funcs[f]? = some fn ∧ ∀ (args : Array Value) (w : World), (callFunc f args).run Try.prog w = .ok (.enter f args) w) ⟨Try.func33, Try.call33⟩ ?_
  refine lk_all (p := fun f fn => Try.prog.funcs[f]? = some fn ∧ ∀ (args : Array Value) (w : World), (callFunc f args).run Try.prog w = .ok (.enter f args) w) ⟨Try.func34, Try.call34⟩ ?_
  refine lk_all (p := fun f fn => Try.prog.funcs[f]? = some fn ∧ ∀ (args : Array Value) (w : World), (callFunc f args).run Try.prog w = .ok (.enter f args) w) ⟨Try.func35, Try.call35⟩ ?_
  refine lk_all (p := fun f fn => Try.prog.funcs[f]? = some fn ∧ ∀ (args : Array Value) (w : World), (callFunc f args).run Try.prog w = .ok (.enter f args) w) ⟨Try.func36, Try.call36⟩ ?_
  refine lk_all (p := fun f fn => Try.prog.funcs[f]? = some fn ∧ ∀ (args : Array Value) (w : World), (callFunc f args).run Try.prog w = .ok (.enter f args) w) ⟨Try.func37, Try.call37⟩ ?_
  refine lk_all (p := fun f fn => Try.prog.funcs[f]? = some fn ∧ ∀ (args : Array Value) (w : World), (callFunc f args).run Try.prog w = .ok (.enter f args) w) ⟨Try.func38, Try.call38⟩ ?_
  refine lk_all (p := fun f fn => Try.prog.funcs[f]? = some fn ∧ ∀ (args : Array Value) (w : World), (callFunc f args).run Try.prog w = .ok (.enter f args) w) ⟨Try.func39, Try.call39⟩ ?_
  refine lk_all (p := fun f fn => Try.prog.funcs[f]? = some fn ∧ ∀ (args : Array Value) (w : World), (callFunc f args).run Try.prog w = .ok (.enter f args) w) ⟨Try.func40, Try.call40⟩ ?_
  refine lk_all (p := fun f fn => Try.prog.funcs[f]? = some fn ∧ ∀ (args : Array Value) (w : World), (callFunc f args).run Try.prog w = .ok (.enter f args) w) ⟨Try.func41, Try.call41⟩ ?_
  refine lk_all (p := fun f fn => Try.prog.funcs[f]? = some fn ∧ ∀ (args : Array Value) (w : World), (callFunc f args).run Try.prog w = .ok (.enter f args) w) ⟨Try.func42, Try.call42⟩ ?_
  refine lk_all (p := fun f fn => Try.prog.funcs[f]? = some fn ∧ ∀ (args : Array Value) (w : World), (callFunc f args).run Try.prog w = .ok (.enter f args) w) ⟨Try.func43, Try.call43⟩ ?_
  refine lk_all (p := fun f fn => Try.prog.funcs[f]? = some fn ∧ ∀ (args : Array Value) (w : World), (callFunc f args).run Try.prog w = .ok (.enter f args) w) ⟨Try.func44, Try.call44⟩ ?_
  refine lk_all (p := fun f fn => Try.prog.funcs[f]? = some fn ∧ ∀ (args : Array Value) (w : World), (callFunc f args).run Try.prog w = .ok (.enter f args) w) ⟨Try.func45, Try.call45⟩ ?_
  refine lk_all (p := fun f fn => Try.prog.funcs[f]? = some fn ∧ ∀ (args : Array Value) (w : World), (callFunc f args).run Try.prog w = .ok (.enter f args) w) ⟨Try.func46, Try.call46⟩ ?_
  refine lk_all (p := fun f fn => Try.prog.funcs[f]? = some fn ∧ ∀ (args : Array Value) (w : World), (callFunc f args).run Try.prog w = .ok (.enter f args) w) ⟨Try.func47, Try.call47⟩ ?_
  refine lk_all (p := fun f fn => Try.prog.funcs[f]? = some fn ∧ ∀ (args : Array Value) (w : World), (callFunc f args).run Try.prog w = .ok (.enter f args) w) ⟨Try.func48, Try.call48⟩ ?_
  refine lk_all (p := fun f fn => Try.prog.funcs[f]? = some fn ∧ ∀ (args : Array Value) (w : World), (callFunc f args).run Try.prog w = .ok (.enter f args) w) ⟨Try.func49, Try.call49⟩ ?_
  refine lk_all (p := fun f fn => Try.prog.funcs[f]? = some fn ∧ ∀ (args : Array Value) (w : World), (callFunc f args).run Try.prog w = .ok (.enter f args) w) ⟨Try.func50, Try.call50⟩ ?_
  refine lk_all (p := fun f fn => Try.prog.funcs[f]? = some fn ∧ ∀ (args : Array Value) (w : World), (callFunc f args).run Try.prog w = .ok (.enter f args) w) ⟨Try.func51, Try.call51⟩ ?_
  refine lk_all (p := fun f fn => Try.prog.funcs[f]? = some fn ∧ ∀ (args : Array Value) (w : World), (callFunc f args).run Try.prog w = .ok (.enter f args) w) ⟨Try.func52, Try.call52⟩ ?_
  refine lk_all (p := fun f fn => Try.prog.funcs[f]? = some fn ∧ ∀ (args : Array Value) (w : World), (callFunc f args).run Try.prog w = .ok (.enter f args) w) ⟨Try.func53, Try.call53⟩ ?_
  refine lk_all (p := fun f fn => Try.prog.funcs[f]? = some fn ∧ ∀ (args : Array Value) (w : World), (callFunc f args).run Try.prog w = .ok (.enter f args) w) ⟨Try.func54, Try.call54⟩ ?_
  refine lk_all (p := fun f fn => Try.prog.funcs[f]? = some fn ∧ ∀ (args : Array Value) (w : World), (callFunc f args).run Try.prog w = .ok (.enter f args) w) ⟨Try.func55, Try.call55⟩ ?_
  refine lk_all (p := fun f fn => Try.prog.funcs[f]? = some fn ∧ ∀ (args : Array Value) (w : World), (callFunc f args).run Try.prog w = .ok (.enter f args) w) ⟨Try.func56, Try.call56⟩ ?_
  refine lk_all (p := fun f fn => Try.prog.funcs[f]? = some fn ∧ ∀ (args : Array Value) (w : World), (callFunc f args).run Try.prog w = .ok (.enter f args) w) ⟨Try.func57, Try.call57⟩ ?_
  refine lk_all (p := fun f fn => Try.prog.funcs[f]? = some fn ∧ ∀ (args : Array Value) (w : World), (callFunc f args).run Try.prog w = .ok (.enter f args) w) ⟨Try.func58, Try.call58⟩ ?_
  refine lk_all (p := fun f fn => Try.prog.funcs[f]? = some fn ∧ ∀ (args : Array Value) (w : World), (callFunc f args).run Try.prog w = .ok (.enter f args) w) ⟨Try.func59, Try.call59⟩ ?_
  refine lk_all (p := fun f fn => Try.prog.funcs[f]? = some fn ∧ ∀ (args : Array Value) (w : World), (callFunc f args).run Try.prog w = .ok (.enter f args) w) ⟨Try.func60, Try.call60⟩ ?_
  refine lk_all (p := fun f fn => Try.prog.funcs[f]? = some fn ∧ ∀ (args : Array Value) (w : World), (callFunc f args).run Try.prog w = .ok (.enter f args) w) ⟨Try.func61, Try.call61⟩ ?_
  refine lk_all (p := fun f fn => Try.prog.funcs[f]? = some fn ∧ ∀ (args : Array Value) (w : World), (callFunc f args).run Try.prog w = .ok (.enter f args) w) ⟨Try.func62, Try.call62⟩ ?_
  refine lk_all (p := fun f fn => Try.prog.funcs[f]? = some fn ∧ ∀ (args : Array Value) (w : World), (callFunc f args).run Try.prog w = .ok (.enter f args) w) ⟨Try.func63, Try.call63⟩ ?_
  refine lk_all (p := fun f fn => Try.prog.funcs[f]? = some fn ∧ ∀ (args : Array Value) (w : World), (callFunc f args).run Try.prog w = .ok (.enter f args) w) ⟨Try.func64, Try.call64⟩ ?_
  refine lk_all (p := fun f fn => Try.prog.funcs[f]? = some fn ∧ ∀ (args : Array Value) (w : World), (callFunc f args).run Try.prog w = .ok (.enter f args) w) ⟨Try.func65, Try.call65⟩ ?_
  refine lk_all (p := fun f fn => Try.prog.funcs[f]? = some fn ∧ ∀ (args : Array Value) (w : World), (callFunc f args).run Try.prog w = .ok (.enter f args) w) ⟨Try.func66, Try.call66⟩ ?_
  refine lk_all (p := fun f fn => Try.prog.funcs[f]? = some fn ∧ ∀ (args : Array Value) (w : World), (callFunc f args).run Try.prog w = .ok (.enter f args) w) ⟨Try.func67, Try.call67⟩ ?_
  refine lk_all (p := fun f fn => Try.prog.funcs[f]? = some fn ∧ ∀ (args : Array Value) (w : World), (callFunc f args).run Try.prog w = .ok (.enter f args) w) ⟨Try.func68, Try.call68⟩ ?_
  refine lk_all (p := fun f fn => Try.prog.funcs[f]? = some fn ∧ ∀ (args : Array Value) (w : World), (callFunc f args).run Try.prog w = .ok (.enter f args) w) ⟨Try.func69, Try.call69⟩ ?_
  refine lk_all (p := fun f fn => Try.prog.funcs[f]? = some fn ∧ ∀ (args : Array Value) (w : World), (callFunc f args).run Try.prog w = .ok (.enter f args) w) ⟨Try.func70, Try.call70⟩ ?_
  refine lk_all (p := fun f fn => Try.prog.funcs[f]? = some fn ∧ ∀ (args : Array Value) (w : World), (callFunc f args).run Try.prog w = .ok (.enter f args) w) ⟨Try.func71, Try.call71⟩ ?_
  refine lk_all (p := fun f fn => Try.prog.funcs[f]? = some fn ∧ ∀ (args : Array Value) (w : World), (callFunc f args).run Try.prog w = .ok (.enter f args) w) ⟨Try.func72, Try.call72⟩ ?_
  refine lk_all (p := fun f fn => Try.prog.funcs[f]? = some fn ∧ ∀ (args : Array Value) (w : World), (callFunc f args).run Try.prog w = .ok (.enter f args) w) ⟨Try.func73, Try.call73⟩ ?_
  refine lk_all (p := fun f fn => Try.prog.funcs[f]? = some fn ∧ ∀ (args : Array Value) (w : World), (callFunc f args).run Try.prog w = .ok (.enter f args) w) ⟨Try.func74, Try.call74⟩ ?_
  refine lk_all (p := fun f fn => Try.prog.funcs[f]? = some fn ∧ ∀ (args : Array Value) (w : World), (callFunc f args).run Try.prog w = .ok (.enter f args) w) ⟨Try.func75, Try.call75⟩ ?_
  refine lk_all (p := fun f fn => Try.prog.funcs[f]? = some fn ∧ ∀ (args : Array Value) (w : World), (callFunc f args).run Try.prog w = .ok (.enter f args) w) ⟨Try.func76, Try.call76⟩ ?_
  refine lk_all (p := fun f fn => Try.prog.funcs[f]? = some fn ∧ ∀ (args : Array Value) (w : World), (callFunc f args).run Try.prog w = .ok (.enter f args) w) ⟨Try.func77, Try.call77⟩ ?_
  refine lk_all (p := fun f fn => Try.prog.funcs[f]? = some fn ∧ ∀ (args : Array Value) (w : World), (callFunc f args).run Try.prog w = .ok (.enter f args) w) ⟨Try.func78, Try.call78⟩ ?_
  refine lk_all (p := fun f fn => Try.prog.funcs[f]? = some fn ∧ ∀ (args : Array Value) (w : World), (callFunc f args).run Try.prog w = .ok (.enter f args) w) ⟨Try.func79, Try.call79⟩ ?_
  refine lk_all (p := fun f fn => Try.prog.funcs[f]? = some fn ∧ ∀ (args : Array Value) (w : World), (callFunc f args).run Try.prog w = .ok (.enter f args) w) ⟨Try.func80, Try.call80⟩ ?_
  refine lk_all (p := fun f fn => Try.prog.funcs[f]? = some fn ∧ ∀ (args : Array Value) (w : World), (callFunc f args).run Try.prog w = .ok (.enter f args) w) ⟨Try.func81, Try.call81⟩ ?_
  refine lk_all (p := fun f fn => Try.prog.funcs[f]? = some fn ∧ ∀ (args : Array Value) (w : World), (callFunc f args).run Try.prog w = .ok (.enter f args) w) ⟨Try.func82, Try.call82⟩ ?_
  refine lk_all (p := fun f fn => Try.prog.funcs[f]? = some fn ∧ ∀ (args : Array Value) (w : World), (callFunc f args).run Try.prog w = .ok (.enter f args) w) ⟨Try.func83, Try.call83⟩ ?_
  refine lk_all (p := fun f fn => Try.prog.funcs[f]? = some fn ∧ ∀ (args : Array Value) (w : World), (callFunc f args).run Try.prog w = .ok (.enter f args) w) ⟨Try.func84, Try.call84⟩ ?_
  refine lk_all (p := fun f fn => Try.prog.funcs[f]? = some fn ∧ ∀ (args : Array Value) (w : World), (callFunc f args).run Try.prog w = .ok (.enter f args) w) ⟨Try.func85, Try.call85⟩ ?_
  refine lk_all (p := fun f fn => Try.prog.funcs[f]? = some fn ∧ ∀ (args : Array Value) (w : World), (callFunc f args).run Try.prog w = .ok (.enter f args) w) ⟨Try.func86, Try.call86⟩ ?_
  refine lk_all (p := fun f fn => Try.prog.funcs[f]? = some fn ∧ ∀ (args : Array Value) (w : World), (callFunc f args).run Try.prog w = .ok (.enter f args) w) ⟨Try.func87, Try.call87⟩ ?_
  refine lk_all (p := fun f fn => Try.prog.funcs[f]? = some fn ∧ ∀ (args : Array Value) (w : World), (callFunc f args).run Try.prog w = .ok (.enter f args) w) ⟨Try.func88, Try.call88⟩ ?_
  refine lk_all (p := fun f fn => Try.prog.funcs[f]? = some fn ∧ ∀ (args : Array Value) (w : World), (callFunc f args).run Try.prog w = .ok (.enter f args) w) ⟨Try.func89, Try.call89⟩ ?_
  refine lk_all (p := fun f fn => Try.prog.funcs[f]? = some fn ∧ ∀ (args : Array Value) (w : World), (callFunc f args).run Try.prog w = .ok (.enter f args) w) ⟨Try.func90, Try.call90⟩ ?_
  refine lk_all (p := fun f fn => Try.prog.funcs[f]? = some fn ∧ ∀ (args : Array Value) (w : World), (callFunc f args).run Try.prog w = .ok (.enter f args) w) ⟨Try.func91, Try.call91⟩ ?_
  refine lk_all (p := fun f fn => Try.prog.funcs[f]? = some fn ∧ ∀ (args : Array Value) (w : World), (callFunc f args).run Try.prog w = .ok (.enter f args) w) ⟨Try.func92, Try.call92⟩ ?_
  refine lk_all (p := fun f fn => Try.prog.funcs[f]? = some fn ∧ ∀ (args : Array Value) (w : World), (callFunc f args).run Try.prog w = .ok (.enter f args) w) ⟨Try.func93, Try.call93⟩ ?_
  exact lk_none
set_option maxRecDepth 100000 in
theorem eqOK49 : EqOK Try.prog 49 [.int .i64, .int .i64, .int .i64, .int .i64] := by
  refine ⟨by kernel_rfl, fun vs us h1 h2 w => ?_⟩
  rcases h1 with _ | ⟨⟨a0, rfl⟩, _ | ⟨⟨a1, rfl⟩, _ | ⟨⟨a2, rfl⟩, _ | ⟨⟨a3, rfl⟩, _ | _⟩⟩⟩⟩
  rcases h2 with _ | ⟨⟨b0, rfl⟩, _ | ⟨⟨b1, rfl⟩, _ | ⟨⟨b2, rfl⟩, _ | ⟨⟨b3, rfl⟩, _ | _⟩⟩⟩⟩
  have u3 := Try.underlying3
  have x3 := Try.isAgg3
  have z3 := Try.sizeOf3
  have hS : Try.prog.underlying 49 = some (.struct (Try.prog.fieldsOf 49)) := by kernel_rfl
  have hp : Try.prog.stoodInHeld 49 = false := by kernel_rfl
  rw [show (10000 : Nat) = 9999 + 1 from rfl, run_equalIn_agg w 9999 49 _ _ hS hp]
  simp only [Program.fieldsOf, Try.underlying49]
  go_simp
  by_cases e0 : a0 = b0
  all_goals by_cases e1 : a1 = b1
  all_goals by_cases e2 : a2 = b2
  all_goals by_cases e3 : a3 = b3
  all_goals simp [eqVs, eqV, ByteArray.toList_eq, e0, e1, e2, e3]
set_option maxRecDepth 100000 in
theorem eqOK54 : EqOK Try.prog 54 [.int .i64, .int .i64] := by
  refine ⟨by kernel_rfl, fun vs us h1 h2 w => ?_⟩
  rcases h1 with _ | ⟨⟨a0, rfl⟩, _ | ⟨⟨a1, rfl⟩, _ | _⟩⟩
  rcases h2 with _ | ⟨⟨b0, rfl⟩, _ | ⟨⟨b1, rfl⟩, _ | _⟩⟩
  have u3 := Try.underlying3
  have x3 := Try.isAgg3
  have z3 := Try.sizeOf3
  have hS : Try.prog.underlying 54 = some (.struct (Try.prog.fieldsOf 54)) := by kernel_rfl
  have hp : Try.prog.stoodInHeld 54 = false := by kernel_rfl
  rw [show (10000 : Nat) = 9999 + 1 from rfl, run_equalIn_agg w 9999 54 _ _ hS hp]
  simp only [Program.fieldsOf, Try.underlying54]
  go_simp
  by_cases e0 : a0 = b0
  all_goals by_cases e1 : a1 = b1
  all_goals simp [eqVs, eqV, ByteArray.toList_eq, e0, e1]
set_option maxRecDepth 100000 in
theorem eqOK58 : EqOK Try.prog 58 [.int .i64, .int .i64, .int .i64, .int .i64] := by
  refine ⟨by kernel_rfl, fun vs us h1 h2 w => ?_⟩
  rcases h1 with _ | ⟨⟨a0, rfl⟩, _ | ⟨⟨a1, rfl⟩, _ | ⟨⟨a2, rfl⟩, _ | ⟨⟨a3, rfl⟩, _ | _⟩⟩⟩⟩
  rcases h2 with _ | ⟨⟨b0, rfl⟩, _ | ⟨⟨b1, rfl⟩, _ | ⟨⟨b2, rfl⟩, _ | ⟨⟨b3, rfl⟩, _ | _⟩⟩⟩⟩
  have u3 := Try.underlying3
  have x3 := Try.isAgg3
  have z3 := Try.sizeOf3
  have hS : Try.prog.underlying 58 = some (.struct (Try.prog.fieldsOf 58)) := by kernel_rfl
  have hp : Try.prog.stoodInHeld 58 = false := by kernel_rfl
  rw [show (10000 : Nat) = 9999 + 1 from rfl, run_equalIn_agg w 9999 58 _ _ hS hp]
  simp only [Program.fieldsOf, Try.underlying58]
  go_simp
  by_cases e0 : a0 = b0
  all_goals by_cases e1 : a1 = b1
  all_goals by_cases e2 : a2 = b2
  all_goals by_cases e3 : a3 = b3
  all_goals simp [eqVs, eqV, ByteArray.toList_eq, e0, e1, e2, e3]
set_option maxRecDepth 100000 in
theorem eqOK64 : EqOK Try.prog 64 [.int .i64, .int .i64, .int .i64, .int .i64, .int .i64] := by
  refine ⟨by kernel_rfl, fun vs us h1 h2 w => ?_⟩
  rcases h1 with _ | ⟨⟨a0, rfl⟩, _ | ⟨⟨a1, rfl⟩, _ | ⟨⟨a2, rfl⟩, _ | ⟨⟨a3, rfl⟩, _ | ⟨⟨a4, rfl⟩, _ | _⟩⟩⟩⟩⟩
  rcases h2 with _ | ⟨⟨b0, rfl⟩, _ | ⟨⟨b1, rfl⟩, _ | ⟨⟨b2, rfl⟩, _ | ⟨⟨b3, rfl⟩, _ | ⟨⟨b4, rfl⟩, _ | _⟩⟩⟩⟩⟩
  have u3 := Try.underlying3
  have x3 := Try.isAgg3
  have z3 := Try.sizeOf3
  have hS : Try.prog.underlying 64 = some (.struct (Try.prog.fieldsOf 64)) := by kernel_rfl
  have hp : Try.prog.stoodInHeld 64 = false := by kernel_rfl
  rw [show (10000 : Nat) = 9999 + 1 from rfl, run_equalIn_agg w 9999 64 _ _ hS hp]
  simp only [Program.fieldsOf, Try.underlying64]
  go_simp
  by_cases e0 : a0 = b0
  all_goals by_cases e1 : a1 = b1
  all_goals by_cases e2 : a2 = b2
  all_goals by_cases e3 : a3 = b3
  all_goals by_cases e4 : a4 = b4
  all_goals simp [eqVs, eqV, ByteArray.toList_eq, e0, e1, e2, e3, e4]
set_option maxRecDepth 100000 in
theorem eqOK93 : EqOK Try.prog 93 [.int .i64, .int .i64, .int .i64] := by
  refine ⟨by kernel_rfl, fun vs us h1 h2 w => ?_⟩
  rcases h1 with _ | ⟨⟨a0, rfl⟩, _ | ⟨⟨a1, rfl⟩, _ | ⟨⟨a2, rfl⟩, _ | _⟩⟩⟩
  rcases h2 with _ | ⟨⟨b0, rfl⟩, _ | ⟨⟨b1, rfl⟩, _ | ⟨⟨b2, rfl⟩, _ | _⟩⟩⟩
  have u3 := Try.underlying3
  have x3 := Try.isAgg3
  have z3 := Try.sizeOf3
  have hS : Try.prog.underlying 93 = some (.struct (Try.prog.fieldsOf 93)) := by kernel_rfl
  have hp : Try.prog.stoodInHeld 93 = false := by kernel_rfl
  rw [show (10000 : Nat) = 9999 + 1 from rfl, run_equalIn_agg w 9999 93 _ _ hS hp]
  simp only [Program.fieldsOf, Try.underlying93]
  go_simp
  by_cases e0 : a0 = b0
  all_goals by_cases e1 : a1 = b1
  all_goals by_cases e2 : a2 = b2
  all_goals simp [eqVs, eqV, ByteArray.toList_eq, e0, e1, e2]
set_option maxRecDepth 100000 in
theorem eqOK102 : EqOK Try.prog 102 [.int .i64, .int .i64] := by
  refine ⟨by kernel_rfl, fun vs us h1 h2 w => ?_⟩
  rcases h1 with _ | ⟨⟨a0, rfl⟩, _ | ⟨⟨a1, rfl⟩, _ | _⟩⟩
  rcases h2 with _ | ⟨⟨b0, rfl⟩, _ | ⟨⟨b1, rfl⟩, _ | _⟩⟩
  have u3 := Try.underlying3
  have x3 := Try.isAgg3
  have z3 := Try.sizeOf3
  have hS : Try.prog.underlying 102 = some (.struct (Try.prog.fieldsOf 102)) := by kernel_rfl
  have hp : Try.prog.stoodInHeld 102 = false := by kernel_rfl
  rw [show (10000 : Nat) = 9999 + 1 from rfl, run_equalIn_agg w 9999 102 _ _ hS hp]
  simp only [Program.fieldsOf, Try.underlying102]
  go_simp
  by_cases e0 : a0 = b0
  all_goals by_cases e1 : a1 = b1
  all_goals simp [eqVs, eqV, ByteArray.toList_eq, e0, e1]
def eqTab : List (TypeId × List Ty) := [(49, [.int .i64, .int .i64, .int .i64, .int .i64]), (54, [.int .i64, .int .i64]), (58, [.int .i64, .int .i64, .int .i64, .int .i64]), (64, [.int .i64, .int .i64, .int .i64, .int .i64, .int .i64]), (93, [.int .i64, .int .i64, .int .i64]), (102, [.int .i64, .int .i64])]
theorem eqsOK : ∀ t ks, lk eqTab t = some ks → EqOK Try.prog t ks := by
  unfold eqTab
  refine lk_all (p := fun t ks => EqOK Try.prog t ks) eqOK49 ?_
  refine lk_all (p := fun t ks => EqOK Try.prog t ks) eqOK54 ?_
  refine lk_all (p := fun t ks => EqOK Try.prog t ks) eqOK58 ?_
  refine lk_all (p := fun t ks => EqOK Try.prog t ks) eqOK64 ?_
  refine lk_all (p := fun t ks => EqOK Try.prog t ks) eqOK93 ?_
  refine lk_all (p := fun t ks => EqOK Try.prog t ks) eqOK102 ?_
  exact lk_none
noncomputable def tabs0 : Tabs := ⟨tyTab, fnTab, [], [], [], eqTab, []⟩
theorem tabs0OK : TabOK Try.prog tabs0 := ⟨tyOK, fnOK, (fun _ _ h => by cases h), (fun _ _ h => by cases h), by kernel_rfl, (fun _ h => by cases h), eqsOK, (fun _ h => by cases h)⟩
end Go.Proofs.Ytklddmmnggcffaa
/-
  The pure machine: slices.SortFunc at structs without memory, out of the library's contract.
  Conditions: none; it holds over any program P.
-/
namespace Go.PE
open Go Go.RowKit Go.Abs Go.Sort
open Go.Proofs (ltOf)
set_option linter.unusedVariables false
set_option linter.unusedSimpArgs false

/-- A datum put into its range. -/
def clampT : (t : Ty) → t.den → t.den
  | .int k, x => k.wrap x
  | .bool, x => x
  | .str, x => List.take maxLen x
  | .list _, x => x
  | .one t, x => clampT t x
  | .pair a b, x => (clampT a x.1, clampT b x.2)
/-- The cells of a datum without memory. -/
def encF : (t : Ty) → t.den → List Value
  | .int k, x => [.int k x]
  | .bool, x => [.bool x]
  | .str, x => [.string ⟨List.toArray x⟩]
  | .list _, _ => [.slice none 0 0]
  | .one t, x => encF t x
  | .pair a b, x => encF a x.1 ++ encF b x.2
def encT (t : Ty) (x : t.den) : List Value := encF t (clampT t x)
theorem encF_length : ∀ (t : Ty) (x : t.den), (encF t x).length = t.size
  | .int _, _ => rfl
  | .bool, _ => rfl
  | .str, _ => rfl
  | .list _, _ => rfl
  | .one t, x => encF_length t x
  | .pair a b, x => by
    show (encF a x.1 ++ encF b x.2).length = a.size + b.size
    rw [List.length_append, encF_length, encF_length]
theorem encF_one : ∀ (t : Ty) (x : t.den), ∀ v ∈ encF t x, v.oneCell' = true
  | .int _, _, v, h => by simp [encF] at h; subst h; rfl
  | .bool, _, v, h => by simp [encF] at h; subst h; rfl
  | .str, _, v, h => by simp [encF] at h; subst h; rfl
  | .list _, _, v, h => by simp [encF] at h; subst h; rfl
  | .one t, x, v, h => encF_one t x v h
  | .pair a b, x, v, h => by
    rcases List.mem_append.1 h with h | h
    · exact encF_one a x.1 v h
    · exact encF_one b x.2 v h
section
variable {S : Cells} {w : World} {η : Eta}
theorem rep_encF : ∀ {t : Ty} (x : t.den), t.flat = true → Rep S w t (clampT t x) (encF t (clampT t x))
  | .int k, x, _ => ⟨rfl, wrap_has k x⟩
  | .bool, _, _ => rfl
  | .str, x, _ => ⟨rfl, by show (List.take maxLen x).length ≤ maxLen; rw [List.length_take]; exact Nat.min_le_left _ _⟩
  | .list _, _, h => by cases h
  | .one t, x, h => rep_encF (t := t) x h
  | .pair a b, x, h => by
    simp only [Ty.flat, Bool.and_eq_true] at h
    exact ⟨_, _, rfl, rep_encF x.1 h.1, rep_encF x.2 h.2⟩
theorem rep_flat : ∀ {t : Ty} {x : t.den} {cs : List Value}, t.flat = true → Rep S w t x cs → clampT t x = x ∧ cs = encF t x
  | .int k, x, cs, _, h => ⟨has_wrap h.2, h.1⟩
  | .bool, _, _, _, h => ⟨rfl, h⟩
  | .str, x, cs, _, h => ⟨List.take_of_length_le h.2, h.1⟩
  | .list _, _, _, h, _ => by cases h
  | .one t, x, cs, hf, h => by
    have h' : Rep S w t x cs := h
    exact rep_flat (t := t) hf h'
  | .pair a b, x, cs, hf, h => by
    simp only [Ty.flat, Bool.and_eq_true] at hf
    obtain ⟨c1, c2, rfl, h1, h2⟩ := h
    obtain ⟨g1, g2⟩ := rep_flat hf.1 h1
    obtain ⟨g3, g4⟩ := rep_flat hf.2 h2
    refine ⟨?_, by rw [g2, g4]; rfl⟩
    show (clampT a x.1, clampT b x.2) = x
    rw [g1, g3]
end
/-- The comparison, on data put into range. -/
def cmpC (t : Ty) (cf : t.den → t.den → Int) (x y : t.den) : Int := cf (clampT t x) (clampT t y)
/-- What slices.SortFunc leaves. -/
def sortM (t : Ty) (cf : t.den → t.den → Int) (xs : List t.den) : Option (List t.den) := match decide (xs.length < 4611686018427387904) with
  | true => some (pdq (ltOf (cmpC t cf)) xs.toArray 0 xs.length (Lib.bitLen xs.length) true true).toList
  | false => none
theorem swo_cmpC {t : Ty} {cf : t.den → t.den → Int} (h : SWO (ltOf cf)) : SWO (ltOf (cmpC t cf)) :=
  ⟨fun x => h.irrefl _, fun x y z => h.trans _ _ _, fun x y z => h.ntrans _ _ _⟩
/-- A world that has only grown. -/
theorem grow_of {w w' : World} (h : Below w.heap.size w w') (hd : w.drawn ≤ w'.drawn) : ∃ q os, w' = grow (w.drewN q) os := by
  refine ⟨w'.drawn - w.drawn, w'.heap.extract w.heap.size w'.heap.size, ?_⟩
  have hh : w'.heap = w.heap ++ w'.heap.extract w.heap.size w'.heap.size := by
    apply Array.ext_getElem?
    intro k
    by_cases hk : k < w.heap.size
    · rw [Array.getElem?_append_left hk, h.block k hk]
    · rw [Array.getElem?_append_right (by omega)]
      have hs := h.size
      by_cases hk2 : k < w'.heap.size
      · simp [Array.getElem?_extract, show w.heap.size + (k - w.heap.size) = k by omega]
        omega
      · rw [Array.getElem?_eq_none (by omega), Array.getElem?_eq_none (by simp; omega)]
  obtain ⟨h1, h2, h3, _, _⟩ := h
  cases w
  cases w'
  simp only [grow, World.drewN] at *
  subst h1 h2 h3
  rw [← hh]
  congr 1
  omega
theorem cmpLays_of {P : Program} {g : FuncId} {t : Ty} (hf : t.flat = true) (ha : t.agg = true) {mg : Tup ([t, t].map .d) → Option (Tup ([Ty.int .i64].map .d))} (hg : SpecOK P g ⟨[t, t], [.int .i64], mg⟩) {cf : t.den → t.den → Int} (hm : ∀ x y, mg (x, y) = some (cf x y)) (blk off size : Nat) (w : World) :
    Go.Proofs.CmpLays P g #[] (encT t) t.size (cmpC t cf) blk off size w := by
  intro m os dk hs x y
  have hv : ∀ z : t.den, RM (fun _ _ => False) (Go.Proofs.sortWorldK (encT t) t.size w blk off m dk os) (fun _ => none) (t.rv (clampT t z)) (.agg (encT t z).toArray) := fun z => by
    refine VRep.rm ⟨encT t z, rep_encF z hf, ?_⟩
    unfold Ty.wrap
    rw [ha]; rfl
  have h := hg (clampT t x, clampT t y) (cmpC t cf x y) (hm _ _) (fun _ _ => False) (Go.Proofs.sortWorldK (encT t) t.size w blk off m dk os) (fun _ => none) [.agg (encT t x).toArray, .agg (encT t y).toArray] (fun _ _ h => h.elim) (.cons (hv x) (.cons (hv y) .nil))
  refine h.mono fun en w' ⟨v, S', he, hgr, hp⟩ => ?_
  have hp' : PM S' w' (fun _ => none) (.c (.d (.int .i64) (cmpC t cf x y))) v := hp
  obtain ⟨hv, _⟩ := PM.int.1 hp'
  exact ⟨by rw [he, hv], grow_of hgr.below hgr.lk.drawn⟩
theorem rep_world {t : Ty} {S S' : Cells} {w w' : World} {x : t.den} {cs : List Value} (hf : t.flat = true) (h : Rep S w t x cs) : Rep S' w' t x cs := Rep.flat hf h
theorem div_mul_mod (j k : Nat) : j / k * k + j % k = j := by
  have := Nat.div_add_mod j k
  rw [Nat.mul_comm] at this
  exact this
theorem getB {α : Type} [Inhabited α] {a : Array α} {i : Nat} (h : i < a.size) : a[i]! = a[i] := getElem!_pos a i h
theorem getLB {α : Type} [Inhabited α] {a : List α} {i : Nat} {v : α} (h : a[i]? = some v) : a[i]! = v := by
  obtain ⟨h1, h2⟩ := List.getElem?_eq_some_iff.1 h
  rw [getElem!_pos a i h1, h2]
/-- slices.SortFunc at a struct without memory, by a comparison that has a contract. -/
theorem sortOK_of {P : Program} {ρ : Go.Shelf.Ren} (L : Go.Proofs.SlLaysF0.n6 P ρ) {f g : FuncId} (hfid : ρ.f 6 = f) {t : Ty} (hf : t.flat = true) (ha : t.agg = true)
    (aE : ∀ w, (isAgg (ρ.t 24)).run P w = .ok true w) (zE : ∀ w, (Go.sizeOf (ρ.t 24)).run P w = .ok t.size w)
    (ef : ∀ (args : Array Value) (w : World), (callFunc f args).run P w = .ok (.enter f args) w) (eg : ∀ (args : Array Value) (w : World), (callFunc g args).run P w = .ok (.enter g args) w)
    {mg : Tup ([t, t].map .d) → Option (Tup ([Ty.int .i64].map .d))} (hg : SpecOK P g ⟨[t, t], [.int .i64], mg⟩) {cf : t.den → t.den → Int} (hm : ∀ x y, mg (x, y) = some (cf x y)) (hO : SWO (ltOf cf)) : SortOK P ⟨f, g, t, sortM t cf⟩ := by
  refine ⟨ef, fun xs ys h B S F w u hB hin hF hA => ?_⟩
  have h : sortM t cf xs = some ys := h
  have hA : ArrH F S w u t xs := hA
  show Calls P f #[u, .func (.func g) #[] #[]] w fun en w' => en = .returned (.tuple #[]) ∧ Grow B S w S w' ∧ ArrH F S w' u t ys ∧ _ ∧ _
  unfold sortM at h
  split at h
  · rename_i hlt
    have hlt := of_decide_eq_true hlt
    have hy := Option.some.inj h
    have hsort := Go.Sort.pdq_sorts (ltOf (cmpC t cf)) (swo_cmpC hO) xs.toArray 0 xs.length (Lib.bitLen xs.length) true true (Nat.zero_le _) (by simp) (Or.inl rfl)
    have hperm := hsort.1
    generalize hd' : pdq (ltOf (cmpC t cf)) xs.toArray 0 xs.length (Lib.bitLen xs.length) true true = d' at hy hperm
    have hsz : d'.size = xs.length := by have := hperm.1; simpa using this
    have hyl : ys.length = xs.length := by rw [← hy]; simpa using hsz
    obtain ⟨base, cap, rfl, c1, c2, c3⟩ := hA
    by_cases hn : xs.length = 0
    · have hxs : xs = [] := List.eq_nil_of_length_eq_zero hn
      have hys : ys = [] := List.eq_nil_of_length_eq_zero (by omega)
      subst hxs hys
      have hc := Go.Proofs.AnyF.slices_SortFunc_none L base cap (.func (.func g) #[] #[]) w
      rw [hfid] at hc
      exact hc.mono fun en w' ⟨he, hw⟩ => by
        subst hw
        exact ⟨he, Grow.refl hin, ⟨base, cap, rfl, c1, c2, c3⟩, fun _ _ _ _ => ⟨rfl, rfl⟩, fun _ _ _ => rfl⟩
    · rcases c3 with c3 | ⟨b, off, rfl, hFe, ht, hx⟩
      · omega
      have hpos := t.size_pos
      have hmul : xs.length * t.size ≤ cap * t.size := Nat.mul_le_mul_right _ c1
      have hmul1 : 1 * 1 ≤ xs.length * t.size := Nat.mul_le_mul (by omega) hpos
      have hin1 : ∀ j, j < xs.length * t.size → F b (off + j) := fun j hj => (hFe _ _).2 ⟨rfl, by omega, by omega⟩
      obtain ⟨hBb, hblk, _⟩ := hF b (off + 0) (hin1 0 (by omega))
      have hflat : ∀ (d : Array t.den), (∀ i (hi : i < d.size), clampT t d[i] = d[i]) → ∀ j, j < d.size * t.size → (flatK (encT t) t.size d)[j]! = (encF t d[j / t.size]!)[j % t.size]! := fun d hd j hj => by
        have hi : j / t.size < d.size := Nat.div_lt_of_lt_mul (by rw [Nat.mul_comm]; exact hj)
        rw [get_flatK _ _ _ _ hj, getB hi]
        unfold encT
        rw [hd _ hi]
      have hxin : ∀ i (hi : i < xs.length), ∃ es, Rep S w t xs[i] es ∧ (∀ j v, es[j]? = some v → w.cell? ⟨b, off + i * t.size + j, none⟩ = some v) := fun i hi => hx i xs[i] (List.getElem?_eq_getElem hi)
      have hH : HoldsK (encT t) t.size w b off xs.toArray := by
        intro j hj
        rw [size_flatK] at hj
        have hj' : j < xs.length * t.size := by simpa using hj
        have hi : j / t.size < xs.length := Nat.div_lt_of_lt_mul (by rw [Nat.mul_comm]; exact hj')
        have hm' : j % t.size < t.size := Nat.mod_lt _ hpos
        obtain ⟨es, he, hc⟩ := hxin _ hi
        obtain ⟨k1, k2⟩ := rep_flat hf he
        refine ⟨?_, (ht (off + j) (by omega) (by omega)).2⟩
        rw [hflat xs.toArray (fun i hi => by
          have hi' : i < xs.length := by simpa using hi
          obtain ⟨es, he, _⟩ := hxin _ hi'
          simpa using (rep_flat hf he).1) j hj, getB (by simpa using hi)]
        have hcell := hc (j % t.size) (es[j % t.size]'(by rw [he.length]; exact hm')) (List.getElem?_eq_getElem _)
        rw [Nat.add_assoc, div_mul_mod] at hcell
        rw [hcell]
        congr 1
        have : (encF t xs[j / t.size])[j % t.size]? = some (es[j % t.size]'(by rw [he.length]; exact hm')) := by rw [← k2]; exact List.getElem?_eq_getElem _
        simpa using (getLB this).symm
      have hcon := Go.Proofs.AnyQ.slices_SortFunc_eq L t.size aE zE (encT t) (fun x => encF_length t _) (fun x => encF_one t _) (cmpC t cf) (swo_cmpC hO) g #[] b off cap xs.toArray w (fun args w => eg args w) (cmpLays_of hf ha hg hm b off xs.toArray.size w) hH hblk (by simpa using hlt)
      rw [hfid] at hcon
      have hse : xs.toArray.size = xs.length := by simp
      rw [hse, hd'] at hcon
      refine hcon.mono fun en w' ⟨he, n, os, hw⟩ => ⟨he, ?_⟩
      -- the world behind
      have hH1 : Holds id (Go.Sort.ahead w n) b off (flatK (encT t) t.size xs.toArray) := hH
      have hfs : (flatK (encT t) t.size d').size = (flatK (encT t) t.size xs.toArray).size := by rw [size_flatK, size_flatK, hsz, hse]
      have hfn : (flatK (encT t) t.size d').size = xs.length * t.size := by rw [size_flatK, hsz]
      have hw : w' = grow (putRow id (Go.Sort.ahead w n) b off (flatK (encT t) t.size d')) os := hw
      have hps : (putRow id (Go.Sort.ahead w n) b off (flatK (encT t) t.size d')).heap.size = w.heap.size := by rw [size_putRow]; rfl
      have cin : ∀ j, j < xs.length * t.size → w'.cell? ⟨b, off + j, none⟩ = some (flatK (encT t) t.size d')[j]! := fun j hj => by
        rw [hw, cell?_grow _ _ _ (by rw [hps]; exact hblk)]
        exact cell?_putRow id _ b off _ _ hH1 hfs j (by rw [hfn]; exact hj)
      have cout : ∀ b' o, b' < w.heap.size → (b' ≠ b ∨ o < off ∨ off + xs.length * t.size ≤ o) → w'.cell? ⟨b', o, none⟩ = w.cell? ⟨b', o, none⟩ := fun b' o hb' ho => by
        rw [hw, cell?_grow _ _ _ (by rw [hps]; exact hb'), cell?_putRow_other id _ b off _ _ (by rw [hfn]; exact ho)]
        rfl
      have fout : ∀ b' o, b' < w.heap.size → w'.frozen? ⟨b', o, none⟩ = w.frozen? ⟨b', o, none⟩ := fun b' o hb' => by
        rw [hw, frozen?_grow _ _ _ (by rw [hps]; exact hb'), frozen?_putRow]
        rfl
      have hout : ∀ b', b' < w.heap.size → b' ≠ b → w'.heap[b']? = w.heap[b']? := fun b' hb' hne => by
        rw [hw, heap_grow_old _ _ (by rw [hps]; exact hb')]
        show (w.heap.modify b _)[b']? = _
        rw [Array.getElem?_modify, if_neg (Ne.symm hne)]
      have hcut : ∀ b' o, ¬ F b' o → (b' ≠ b ∨ o < off ∨ off + xs.length * t.size ≤ o) := fun b' o hno => by
        by_cases e : b' = b
        · subst e
          refine .inr ?_
          rcases Nat.lt_or_ge o off with h1 | h1
          · exact .inl h1
          · rcases Nat.lt_or_ge o (off + xs.length * t.size) with h2 | h2
            · have := hin1 (o - off) (by omega)
              rw [show off + (o - off) = o by omega] at this
              exact absurd this hno
            · exact .inr h2
        · exact .inl e
      have hkeep : Keep S w S w' := ⟨fun _ _ h => h, fun b' o hs => cout b' o (hin b' o hs) (hcut b' o fun hf' => (hF b' o hf').2.2 hs)⟩
      have hcells : ∃ c e fr, w.heap[b]? = some (.cells c e fr) := by
        obtain ⟨⟨v, hv⟩, _⟩ := ht (off + 0) (by omega) (by omega)
        obtain ⟨c, e, fr, h1, _⟩ := cells_of_cell? hv
        exact ⟨c, e, fr, h1⟩
      have hgr : Grow B S w S w' := by
        refine ⟨⟨by rw [hw]; rfl, by rw [hw]; rfl, by rw [hw]; rfl, by rw [hw, size_grow, hps]; omega, fun k hk => hout k (by omega) (by omega)⟩, hkeep, fun b' o hs => ?_, fun _ _ h => .inl h, .of ?_ fun b' o ho hne => ?_⟩
        · have := hin b' o hs
          rw [hw, size_grow, hps]; omega
        · rw [hw]
          show w.drawn ≤ w.drawn + n
          omega
        · by_cases e : b' = b
          · subst e
            obtain ⟨c, el, fr, hc⟩ := hcells
            rw [hc] at ho
            exact absurd (Option.some.inj ho).symm (hne _ _ _)
          · rw [hout b' (Array.getElem?_eq_some_iff.1 ho).1 e]; exact ho
      -- what the array holds
      have hmem : ∀ i (hi : i < d'.size), ∃ j, ∃ hj : j < xs.length, d'[i] = xs[j] := fun i hi => by
        have hp := hperm.2.2
        have h1 : d'.extract 0 xs.length = d' := by rw [← hsz]; simp
        have h2 : xs.toArray.extract 0 xs.length = xs.toArray := by rw [← hse]; simp
        rw [h1, h2] at hp
        have : d'[i] ∈ d'.toList := by simp
        have := hp.mem_iff.1 this
        obtain ⟨j, hj, e⟩ := List.mem_iff_getElem.1 this
        exact ⟨j, by simpa using hj, by simpa using e.symm⟩
      have hcl : ∀ i (hi : i < d'.size), clampT t d'[i] = d'[i] := fun i hi => by
        obtain ⟨j, hj, e⟩ := hmem i hi
        obtain ⟨es, he, _⟩ := hxin j hj
        rw [e]; exact (rep_flat hf he).1
      have hyi : ∀ (i : Nat) (y : t.den), ys[i]? = some y → ∃ hi : i < d'.size, d'[i] = y := fun i y hi => by
        rw [← hy] at hi
        obtain ⟨h1, h2⟩ := List.getElem?_eq_some_iff.1 hi
        exact ⟨by simpa using h1, by simpa using h2⟩
      refine ⟨hgr, ⟨some ⟨b, off, none⟩, cap, by rw [hyl], by omega, c2, .inr ⟨b, off, rfl, hFe, fun o h1 h2 => ?_, fun i y hi => ?_⟩⟩, fun b' o hb' hno => ⟨cout b' o hb' (hcut b' o hno), fout b' o hb'⟩, fun b' hb' hno => hout b' hb' fun e => ?_⟩
      · refine ⟨?_, by rw [fout b o hblk]; exact (ht o h1 h2).2⟩
        by_cases ho : o < off + xs.length * t.size
        · have := cin (o - off) (by omega)
          rw [show off + (o - off) = o by omega] at this
          exact ⟨_, this⟩
        · rw [cout b o hblk (.inr (.inr (by omega)))]
          exact (ht o h1 h2).1
      · obtain ⟨hi', e⟩ := hyi i y hi
        obtain ⟨j, hj, e2⟩ := hmem i hi'
        obtain ⟨es, he, _⟩ := hxin j hj
        have hes := (rep_flat hf he).2
        refine ⟨es, ?_, fun m v hm' => ?_⟩
        · rw [← e, e2]; exact rep_world hf he
        · have hml : m < t.size := by rw [← he.length]; exact (List.getElem?_eq_some_iff.1 hm').1
          have hlt2 : i * t.size + m < xs.length * t.size := by
            have := Nat.mul_le_mul_right t.size (show i + 1 ≤ xs.length by omega)
            rw [Nat.add_mul] at this
            omega
          have e3 : (i * t.size + m) / t.size = i := by
            rw [Nat.mul_comm, Nat.mul_add_div hpos, Nat.div_eq_of_lt hml, Nat.add_zero]
          have e4 : (i * t.size + m) % t.size = m := by
            rw [Nat.mul_comm, Nat.mul_add_mod, Nat.mod_eq_of_lt hml]
          have := cin (i * t.size + m) hlt2
          rw [← Nat.add_assoc] at this
          rw [this, hflat d' hcl _ (by rw [hsz]; exact hlt2), e3, e4, getB hi', e2, ← hes]
          congr 1
          exact getLB hm'
      · subst e
        exact hno _ (hin1 0 (by omega))
  · cases h
end Go.PE
/-
  The pure machine: slices.Sort and slices.Compact at ints, out of the library's contracts.
  Conditions: none; it holds over any program P.
-/
namespace Go.PE
open Go Go.RowKit Go.Abs Go.Sort
set_option linter.unusedVariables false
set_option linter.unusedSimpArgs false

def insI (x : Int) : List Int → List Int
  | [] => [x]
  | y :: r => bif leM x y then x :: y :: r else y :: insI x r
def isortI : List Int → List Int
  | [] => []
  | x :: r => insI x (isortI r)
theorem insI_perm (x : Int) : ∀ l, (insI x l).Perm (x :: l)
  | [] => .refl _
  | y :: r => by
    unfold insI
    cases leM x y
    · exact ((insI_perm x r).cons y).trans (.swap x y r)
    · exact .refl _
theorem isortI_perm : ∀ l, (isortI l).Perm l
  | [] => .refl _
  | x :: r => (insI_perm x (isortI r)).trans ((isortI_perm r).cons x)
theorem insI_sorted (x : Int) : ∀ {l : List Int}, List.Pairwise (· ≤ ·) l → List.Pairwise (· ≤ ·) (insI x l)
  | [], _ => by unfold insI; simp
  | y :: r, h => by
    unfold insI
    have h2 := List.pairwise_cons.1 h
    cases hb : leM x y with
    | true =>
      have hb' : x ≤ y := of_decide_eq_true hb
      refine List.pairwise_cons.2 ⟨fun z hz => ?_, h⟩
      rcases List.mem_cons.1 hz with rfl | hz
      · exact hb'
      · exact Int.le_trans hb' (h2.1 z hz)
    | false =>
      have hb' : ¬ x ≤ y := of_decide_eq_false hb
      refine List.pairwise_cons.2 ⟨fun z hz => ?_, insI_sorted x h2.2⟩
      rcases List.mem_cons.1 ((insI_perm x r).mem_iff.1 hz) with rfl | hz
      · omega
      · exact h2.1 z hz
theorem isortI_sorted : ∀ l, List.Pairwise (· ≤ ·) (isortI l)
  | [] => .nil
  | x :: r => insI_sorted x (isortI_sorted r)
theorem merge_isortI (l : List Int) : (l.mergeSort fun x y => decide (x ≤ y)) = isortI l := by
  refine List.Perm.eq_of_pairwise (le := fun x y => x ≤ y) (fun a b _ _ h1 h2 => by omega) ?_ (isortI_sorted l) ((List.mergeSort_perm l _).trans (isortI_perm l).symm)
  have := List.pairwise_mergeSort (le := fun (x y : Int) => decide (x ≤ y)) (fun a b c h1 h2 => by simp at *; omega) (fun a b => by simp; omega) l
  exact this.imp fun h => by simpa using h
def sortI (xs : List Int) : Option (List Int) := match decide (xs.length < 4611686018427387904) with
  | true => some (isortI xs)
  | false => none
/-- The list without repetitions that lie side by side. -/
def compI (xs : List Int) : Option (List Int) := match decide (xs.length ≤ 4611686018427387904) with
  | true => some (Lib.compact xs)
  | false => none
section
variable {B : Nat} {S F : Cells} {w w' : World}
theorem world_put {b off cap n : Nat} {xs d : List Int} {os : Array Obj} (hin : InW S w) (hF : ∀ b o, F b o → B ≤ b ∧ b < w.heap.size ∧ ¬ S b o) (hFe : ∀ b' o, F b' o ↔ b' = b ∧ off ≤ o ∧ o < off + cap * 1) (c1 : xs.length ≤ cap) (hn : 0 < xs.length)
    (ht : ∀ o, off ≤ o → o < off + cap * 1 → World.there w b o) (hH : Holds (Value.int .i64) w b off xs.toArray) (hd : d.length = xs.length) (hw : w' = grow (putRow (Value.int .i64) (Go.Sort.ahead w n) b off d.toArray) os) :
    Grow B S w S w' ∧ (∀ j, j < xs.length → w'.cell? ⟨b, off + j, none⟩ = some (.int .i64 (d.toArray)[j]!)) ∧ (∀ b' o, b' < w.heap.size → ¬ F b' o → w'.cell? ⟨b', o, none⟩ = w.cell? ⟨b', o, none⟩ ∧ w'.frozen? ⟨b', o, none⟩ = w.frozen? ⟨b', o, none⟩) ∧
      (∀ b', b' < w.heap.size → (∀ o, ¬ F b' o) → w'.heap[b']? = w.heap[b']?) ∧ ∀ o, off ≤ o → o < off + cap * 1 → World.there w' b o := by
  have hin1 : ∀ j, j < xs.length → F b (off + j) := fun j hj => (hFe _ _).2 ⟨rfl, by omega, by omega⟩
  obtain ⟨hBb, hblk, _⟩ := hF b (off + 0) (hin1 0 hn)
  have hH1 : Holds (Value.int .i64) (Go.Sort.ahead w n) b off xs.toArray := hH
  have hfs : d.toArray.size = xs.toArray.size := by simpa using hd
  have hfn : d.toArray.size = xs.length := by simpa using hd
  have hps : (putRow (Value.int .i64) (Go.Sort.ahead w n) b off d.toArray).heap.size = w.heap.size := by rw [size_putRow]; rfl
  have cin : ∀ j, j < xs.length → w'.cell? ⟨b, off + j, none⟩ = some (.int .i64 (d.toArray)[j]!) := fun j hj => by
    rw [hw, cell?_grow _ _ _ (by rw [hps]; exact hblk)]
    exact cell?_putRow (Value.int .i64) _ b off _ _ hH1 hfs j (by rw [hfn]; exact hj)
  have cout : ∀ b' o, b' < w.heap.size → (b' ≠ b ∨ o < off ∨ off + xs.length ≤ o) → w'.cell? ⟨b', o, none⟩ = w.cell? ⟨b', o, none⟩ := fun b' o hb' ho => by
    rw [hw, cell?_grow _ _ _ (by rw [hps]; exact hb'), cell?_putRow_other (Value.int .i64) _ b off _ _ (by rw [hfn]; exact ho)]
    rfl
  have fout : ∀ b' o, b' < w.heap.size → w'.frozen? ⟨b', o, none⟩ = w.frozen? ⟨b', o, none⟩ := fun b' o hb' => by
    rw [hw, frozen?_grow _ _ _ (by rw [hps]; exact hb'), frozen?_putRow]
    rfl
  have hout : ∀ b', b' < w.heap.size → b' ≠ b → w'.heap[b']? = w.heap[b']? := fun b' hb' hne => by
    rw [hw, heap_grow_old _ _ (by rw [hps]; exact hb')]
    show (w.heap.modify b _)[b']? = _
    rw [Array.getElem?_modify, if_neg (Ne.symm hne)]
  have hcut : ∀ b' o, ¬ F b' o → (b' ≠ b ∨ o < off ∨ off + xs.length ≤ o) := fun b' o hno => by
    by_cases e : b' = b
    · subst e
      refine .inr ?_
      rcases Nat.lt_or_ge o off with h1 | h1
      · exact .inl h1
      · rcases Nat.lt_or_ge o (off + xs.length) with h2 | h2
        · have := hin1 (o - off) (by omega)
          rw [show off + (o - off) = o by omega] at this
          exact absurd this hno
        · exact .inr h2
    · exact .inl e
  have hkeep : Keep S w S w' := ⟨fun _ _ h => h, fun b' o hs => cout b' o (hin b' o hs) (hcut b' o fun hf' => (hF b' o hf').2.2 hs)⟩
  have hcells : ∃ c e fr, w.heap[b]? = some (.cells c e fr) := by
    obtain ⟨⟨v, hv⟩, _⟩ := ht (off + 0) (by omega) (by omega)
    obtain ⟨c, e, fr, h1, _⟩ := cells_of_cell? hv
    exact ⟨c, e, fr, h1⟩
  refine ⟨⟨⟨by rw [hw]; rfl, by rw [hw]; rfl, by rw [hw]; rfl, by rw [hw, size_grow, hps]; omega, fun k hk => hout k (by omega) (by omega)⟩, hkeep, fun b' o hs => ?_, fun _ _ h => .inl h, .of ?_ fun b' o ho hne => ?_⟩, cin, fun b' o hb' hno => ⟨cout b' o hb' (hcut b' o hno), fout b' o hb'⟩, fun b' hb' hno => hout b' hb' fun e => ?_, fun o h1 h2 => ⟨?_, by rw [fout b o hblk]; exact (ht o h1 h2).2⟩⟩
  · have := hin b' o hs
    rw [hw, size_grow, hps]; omega
  · rw [hw]
    show w.drawn ≤ w.drawn + n
    omega
  · by_cases e : b' = b
    · subst e
      obtain ⟨c, el, fr, hc⟩ := hcells
      rw [hc] at ho
      exact absurd (Option.some.inj ho).symm (hne _ _ _)
    · rw [hout b' (Array.getElem?_eq_some_iff.1 ho).1 e]; exact ho
  · subst e
    exact hno _ (hin1 0 hn)
  · by_cases ho : o < off + xs.length
    · have := cin (o - off) (by omega)
      rw [show off + (o - off) = o by omega] at this
      exact ⟨_, this⟩
    · rw [cout b o hblk (.inr (.inr (by omega)))]
      exact (ht o h1 h2).1
theorem rep_int {x : Int} {es : List Value} (h : Rep S w (.int .i64) x es) : es = [.int .i64 x] ∧ IntKind.i64.has x := ⟨h.1, h.2⟩
theorem holds_of {b off : Nat} {xs : List Int} {cap : Nat} (c1 : xs.length ≤ cap) (ht : ∀ o, off ≤ o → o < off + cap * 1 → World.there w b o) (hx : ∀ (i : Nat) (x : Int), xs[i]? = some x → ∃ es, Rep S w (.int .i64) x es ∧ ∀ j v, es[j]? = some v → w.cell? ⟨b, off + i * 1 + j, none⟩ = some v) :
    Holds (Value.int .i64) w b off xs.toArray ∧ ∀ x ∈ xs, IntKind.i64.has x := by
  refine ⟨fun j hj => ?_, fun x hx' => ?_⟩
  · have hj' : j < xs.length := by simpa using hj
    obtain ⟨es, he, hc⟩ := hx j xs[j] (List.getElem?_eq_getElem hj')
    obtain ⟨rfl, _⟩ := rep_int he
    have := hc 0 _ rfl
    refine ⟨?_, (ht (off + j) (by omega) (by omega)).2⟩
    rw [getB hj]
    simpa using this
  · obtain ⟨i, hi, rfl⟩ := List.getElem_of_mem hx'
    obtain ⟨es, he, _⟩ := hx i _ (List.getElem?_eq_getElem hi)
    exact (rep_int he).2
end
theorem so1_sort {P : Program} {ρ : Go.Shelf.Ren} (L : Go.Proofs.Lays.n189 P ρ) {f : FuncId} (hfid : ρ.f 189 = f) (ef : ∀ (args : Array Value) (w : World), (callFunc f args).run P w = .ok (.enter f args) w) : So1OK P ⟨f, .int .i64, false, sortI⟩ := by
  refine ⟨ef, fun xs ys h B S F w u hB hin hF hA => ?_⟩
  have h : sortI xs = some ys := h
  have hA : ArrH F S w u (.int .i64) xs := hA
  show Calls P f #[u] w _
  unfold sortI at h
  split at h
  · rename_i hlt
    have hlt := of_decide_eq_true hlt
    have hy := Option.some.inj h
    have hperm := isortI_perm xs
    rw [hy] at hperm
    have hyl : ys.length = xs.length := hperm.length_eq
    obtain ⟨base, cap, rfl, c1, c2, c3⟩ := hA
    by_cases hn : xs.length = 0
    · have hxs : xs = [] := List.eq_nil_of_length_eq_zero hn
      have hys : ys = [] := List.eq_nil_of_length_eq_zero (by omega)
      subst hxs hys
      have hc := Go.Proofs.Any.slices_Sort_int_none L base cap w
      rw [hfid] at hc
      exact hc.mono fun en w' ⟨he, hw⟩ => by
        subst hw
        exact ⟨_, .slice base 0 cap, he, fun h => (by cases h), fun _ => ⟨rfl, rfl⟩, rfl, Grow.refl hin, ⟨base, cap, rfl, c1, c2, c3⟩, fun _ _ _ _ => ⟨rfl, rfl⟩, fun _ _ _ => rfl⟩
    · rcases c3 with c3 | ⟨b, off, rfl, hFe, ht, hx⟩
      · omega
      obtain ⟨hH, hhas⟩ := holds_of c1 ht hx
      have hblk : b < w.heap.size := (hF b (off + 0) ((hFe _ _).2 ⟨rfl, by omega, by show off + 0 < off + cap * 1; omega⟩)).2.1
      have hc := Go.Proofs.Any.slices_Sort_int L b off cap xs w hH hblk hlt
      rw [hfid, merge_isortI, hy] at hc
      refine hc.mono fun en w' ⟨he, n, os, hw⟩ => ?_
      obtain ⟨g1, g2, g3, g4, g5⟩ := world_put hin hF hFe c1 (by omega) ht hH hyl hw
      refine ⟨_, .slice (some ⟨b, off, none⟩) xs.length cap, he, fun h => (by cases h), fun _ => ⟨rfl, rfl⟩, rfl, g1, ⟨_, cap, by rw [hyl], by rw [hyl]; exact c1, c2, .inr ⟨b, off, rfl, hFe, g5, fun i y hi => ?_⟩⟩, g3, g4⟩
      have hil := (List.getElem?_eq_some_iff.1 hi).1
      have hmem : y ∈ xs := hperm.mem_iff.1 (List.mem_of_getElem? hi)
      refine ⟨[.int .i64 y], ⟨rfl, hhas y hmem⟩, fun j v hj => ?_⟩
      cases j with
      | zero =>
        cases hj
        have e : ys.toArray[i]! = y := by rw [getB (by simpa using hil)]; simpa using (List.getElem?_eq_some_iff.1 hi).2
        show w'.cell? ⟨b, off + i * 1 + 0, none⟩ = _
        rw [Nat.mul_one, Nat.add_zero, g2 i (by omega), e]
      | succ j => simp at hj
  · cases h
theorem grow_none (w : World) : grow w #[] = w := by
  cases w
  simp [grow]
theorem compact_mem {zs : List Int} {y : Int} (h : y ∈ Lib.compact zs) : y ∈ zs := by
  unfold Lib.compact Lib.compactUpTo at h
  obtain ⟨j, hj, rfl⟩ := List.mem_map.1 h
  have hjl : j < zs.length := List.mem_range.1 (List.mem_filter.1 hj).1
  rw [getB (by simpa using hjl)]
  simp
theorem compact_len (zs : List Int) : (Lib.compact zs).length ≤ zs.length := by
  unfold Lib.compact Lib.compactUpTo
  rw [List.length_map]
  exact Nat.le_trans (List.length_filter_le _ _) (by simp)
theorem so1_comp {P : Program} {ρ : Go.Shelf.Ren} (L : Go.Proofs.Lays2.n20 P ρ) {f : FuncId} (hfid : ρ.f 20 = f) (ef : ∀ (args : Array Value) (w : World), (callFunc f args).run P w = .ok (.enter f args) w) : So1OK P ⟨f, .int .i64, true, compI⟩ := by
  refine ⟨ef, fun xs ys h B S F w u hB hin hF hA => ?_⟩
  have h : compI xs = some ys := h
  have hA : ArrH F S w u (.int .i64) xs := hA
  show Calls P f #[u] w _
  unfold compI at h
  split at h
  · rename_i hlt
    have hlt := of_decide_eq_true hlt
    have hy := Option.some.inj h
    have hyl : ys.length ≤ xs.length := by rw [← hy]; exact compact_len xs
    obtain ⟨base, cap, rfl, c1, c2, c3⟩ := hA
    by_cases hn : xs.length = 0
    · have hxs : xs = [] := List.eq_nil_of_length_eq_zero hn
      have hys : ys = [] := List.eq_nil_of_length_eq_zero (by omega)
      subst hxs hys
      have hc := Go.Proofs.Any.slices_Compact_int_empty L base cap w
      rw [hfid] at hc
      exact hc.mono fun en w' ⟨he, hw⟩ => by
        subst hw
        exact ⟨_, .slice base 0 cap, he, fun _ => rfl, fun h => (by cases h), rfl, Grow.refl hin, ⟨base, cap, rfl, c1, c2, c3⟩, fun _ _ _ _ => ⟨rfl, rfl⟩, fun _ _ _ => rfl⟩
    · rcases c3 with c3 | ⟨b, off, rfl, hFe, ht, hx⟩
      · omega
      obtain ⟨hH, hhas⟩ := holds_of c1 ht hx
      have hc := Go.Proofs.Any.slices_Compact_int L b off cap xs w hH (by omega) c1
      rw [hfid, hy] at hc
      refine hc.mono fun en w' ⟨he, q, hw⟩ => ?_
      have hdl : (ys ++ List.replicate (xs.length - ys.length) (0 : Int)).length = xs.length := by rw [List.length_append, List.length_replicate]; omega
      obtain ⟨g1, g2, g3, g4, g5⟩ := world_put (os := #[]) hin hF hFe c1 (by omega) ht hH hdl (hw.trans (grow_none _).symm)
      refine ⟨_, .slice (some ⟨b, off, none⟩) ys.length cap, he, fun _ => rfl, fun h => (by cases h), rfl, g1, ⟨_, cap, rfl, by omega, c2, .inr ⟨b, off, rfl, hFe, g5, fun i y hi => ?_⟩⟩, g3, g4⟩
      have hil := (List.getElem?_eq_some_iff.1 hi).1
      have hmem : y ∈ xs := compact_mem (by rw [hy]; exact List.mem_of_getElem? hi)
      refine ⟨[.int .i64 y], ⟨rfl, hhas y hmem⟩, fun j v hj => ?_⟩
      cases j with
      | zero =>
        cases hj
        have e : (ys ++ List.replicate (xs.length - ys.length) (0 : Int)).toArray[i]! = y := by
          rw [getB (by simp; omega)]
          simp only [List.getElem_toArray]
          rw [List.getElem_append_left hil]
          exact (List.getElem?_eq_some_iff.1 hi).2
        show w'.cell? ⟨b, off + i * 1 + 0, none⟩ = _
        rw [Nat.mul_one, Nat.add_zero, g2 i (by omega), e]
      | succ j => simp at hj
  · cases h
end Go.PE
/-
  The tables of this seat with the library's sort and compaction of ints. Written by a program (gen_so1.py). No conditions.
-/
set_option linter.all false
namespace Go.Proofs
open Go.Shelf
def Try.lays134_ren : Go.Shelf.Ren := ⟨fun | 189 => 34 | 125 => 59 | 257 => 58 | 128 => 84 | 129 => 85 | 294 => 75 | 295 => 76 | 296 => 77 | 297 => 78 | 298 => 79 | 299 => 80 | 216 => 81 | 300 => 82 | 301 => 83 | 328 => 87 | 329 => 88 | 330 => 89 | 331 => 90 | 332 => 91 | 215 => 92 | 343 => 93 | n => n, fun | 28 => 23 | 3 => 3 | 46 => 123 | 0 => 0 | 51 => 148 | 53 => 150 | 4 => 4 | 183 => 140 | 182 => 139 | 131 => 145 | 5 => 5 | 9 => 9 | 218 => 151 | 222 => 155 | 228 => 158 | 229 => 159 | n => n, fun | n => n⟩
theorem Try.lays134 : Go.Proofs.Lays.n189 Try.prog Try.lays134_ren := {
  mixed := by kernel_rfl
  f125 := Try.func59.trans (congrArg some (by kernel_rfl))
  f128 := Try.func84.trans (congrArg some (by kernel_rfl))
  f129 := Try.func85.trans (congrArg some (by kernel_rfl))
  f189 := Try.func34.trans (congrArg some (by kernel_rfl))
  f215 := Try.func92.trans (congrArg some (by kernel_rfl))
  f216 := Try.func81.trans (congrArg some (by kernel_rfl))
  f257 := Try.func58.trans (congrArg some (by kernel_rfl))
  f294 := Try.func75.trans (congrArg some (by kernel_rfl))
  f295 := Try.func76.trans (congrArg some (by kernel_rfl))
  f296 := Try.func77.trans (congrArg some (by kernel_rfl))
  f297 := Try.func78.trans (congrArg some (by kernel_rfl))
  f298 := Try.func79.trans (congrArg some (by kernel_rfl))
  f299 := Try.func80.trans (congrArg some (by kernel_rfl))
  f300 := Try.func82.trans (congrArg some (by kernel_rfl))
  f301 := Try.func83.trans (congrArg some (by kernel_rfl))
  f328 := Try.func87.trans (congrArg some (by kernel_rfl))
  f329 := Try.func88.trans (congrArg some (by kernel_rfl))
  f330 := Try.func89.trans (congrArg some (by kernel_rfl))
  f331 := Try.func90.trans (congrArg some (by kernel_rfl))
  f332 := Try.func91.trans (congrArg some (by kernel_rfl))
  f343 := Try.func93.trans (congrArg some (by kernel_rfl))
  t0 := Try.underlying0
  a0 := Try.isAgg0
  z0 := Try.sizeOf0
  v0 := Try.zeroValue0
  t3 := Try.underlying3
  a3 := Try.isAgg3
  z3 := Try.sizeOf3
  v3 := Try.zeroValue3
  t4 := Try.underlying4
  a4 := Try.isAgg4
  z4 := Try.sizeOf4
  v4 := Try.zeroValue4
  t5 := Try.underlying5
  a5 := Try.isAgg5
  z5 := Try.sizeOf5
  v5 := Try.zeroValue5
  t9 := Try.underlying9
  a9 := Try.isAgg9
  z9 := Try.sizeOf9
  v9 := Try.zeroValue9
  t28 := Try.underlying23
  a28 := Try.isAgg23
  z28 := Try.sizeOf23
  v28 := Try.zeroValue23
  t46 := Try.underlying123
  a46 := Try.isAgg123
  z46 := Try.sizeOf123
  v46 := Try.zeroValue123
  t51 := Try.underlying148
  a51 := Try.isAgg148
  z51 := Try.sizeOf148
  v51 := Try.zeroValue148
  t53 := Try.underlying150
  a53 := Try.isAgg150
  z53 := Try.sizeOf150
  v53 := Try.zeroValue150
  t131 := Try.underlying145
  a131 := Try.isAgg145
  z131 := Try.sizeOf145
  v131 := Try.zeroValue145
  t182 := Try.underlying139
  a182 := Try.isAgg139
  z182 := Try.sizeOf139
  v182 := Try.zeroValue139
  t183 := Try.underlying140
  a183 := Try.isAgg140
  z183 := Try.sizeOf140
  v183 := Try.zeroValue140
  t218 := Try.underlying151
  a218 := Try.isAgg151
  z218 := Try.sizeOf151
  v218 := Try.zeroValue151
  t222 := Try.underlying155
  a222 := Try.isAgg155
  z222 := Try.sizeOf155
  v222 := Try.zeroValue155
  t228 := Try.underlying158
  a228 := Try.isAgg158
  z228 := Try.sizeOf158
  v228 := Try.zeroValue158
  t229 := Try.underlying159
  a229 := Try.isAgg159
  z229 := Try.sizeOf159
  v229 := Try.zeroValue159 }
def Try.lays135_ren : Go.Shelf.Ren := ⟨fun | 20 => 35 | n => n, fun | 22 => 23 | 3 => 3 | 4 => 4 | 0 => 0 | n => n, fun | n => n⟩
theorem Try.lays135 : Go.Proofs.Lays2.n20 Try.prog Try.lays135_ren := {
  mixed := by kernel_rfl
  f20 := Try.func35.trans (congrArg some (by kernel_rfl))
  t0 := Try.underlying0
  a0 := Try.isAgg0
  z0 := Try.sizeOf0
  v0 := Try.zeroValue0
  t3 := Try.underlying3
  a3 := Try.isAgg3
  z3 := Try.sizeOf3
  v3 := Try.zeroValue3
  t4 := Try.underlying4
  a4 := Try.isAgg4
  z4 := Try.sizeOf4
  v4 := Try.zeroValue4
  t22 := Try.underlying23
  a22 := Try.isAgg23
  z22 := Try.sizeOf23
  v22 := Try.zeroValue23
  i3 := by kernel_rfl }
end Go.Proofs
namespace Go.Proofs.Ytklddmmnggcffaa
open Go Go.Abs Go.PE Go.Proofs
theorem so1_34 : So1OK Try.prog ⟨34, .int .i64, false, sortI⟩ := so1_sort Try.lays134 rfl Try.call34
theorem so1_35 : So1OK Try.prog ⟨35, .int .i64, true, compI⟩ := so1_comp Try.lays135 rfl Try.call35
noncomputable def tabs : Tabs := { tabs0 with so1 := [⟨34, .int .i64, false, sortI⟩, ⟨35, .int .i64, true, compI⟩] }
theorem tabsOK : TabOK Try.prog tabs := ⟨tabs0OK.ty, tabs0OK.fn, tabs0OK.sp, tabs0OK.en, tabs0OK.mixed, tabs0OK.so, tabs0OK.eqs, fun s hs => by
  have hs : s ∈ [(⟨34, .int .i64, false, sortI⟩ : So1), (⟨35, .int .i64, true, compI⟩ : So1)] := hs
  simp only [List.mem_cons, List.not_mem_nil, or_false] at hs
  rcases hs with rfl | rfl
  · exact so1_34
  · exact so1_35⟩
end Go.Proofs.Ytklddmmnggcffaa
/-
  Models of the functions of this seat, and that the functions compute them (printed by gen_models.py). No conditions.
-/
namespace Go.Proofs.Ytklddmmnggcffaa
open Go Go.Abs Go.PE Go.Proofs
set_option linter.unusedVariables false
set_option maxRecDepth 100000

/-! putlog/network.within -/
def as38 : List Ty := [tI, tI, tI]
def rs38 : List Ty := [.bool]
noncomputable def an38 : Ann := .a
noncomputable def m38 : (Int × Int × Int) → Option (Bool) :=
  fun (x : Int × Int × Int) => some (PE.andM (leM x.2.1 x.1) (leM x.1 x.2.2))
theorem c38 : SpecOK Try.prog 38 ⟨as38, rs38, m38⟩ :=
  fnM_ok (own := []) (an := an38) (n := 400) tabsOK (F := OPS) OPS_sound OPS_nice (f := 38) (fn := Try.f38) (code := Try.f38.body.getD .skip) (by kernel_rfl) (by kernel_rfl) (by kernel_rfl) fun x => by kernel_rfl
noncomputable def tabs38 : Tabs := Tabs.add tabs 38 ⟨as38, rs38, m38⟩
theorem tabs38OK : TabOK Try.prog tabs38 := TabOK.add tabsOK c38 Try.call38

/-! putlog/network.isNear -/
def as42 : List Ty := [tI, tI, tI]
def rs42 : List Ty := [.bool]
noncomputable def an42 : Ann := .a
noncomputable def m42 : (Int × Int × Int) → Option (Bool) :=
  fun (x : Int × Int × Int) => Option.bind (m38 (x.1, IntKind.wrap IntKind.i64 (negM x.2.2), x.2.2)) fun (r : Bool) => Option.bind (bif r then m38 (x.2.1,
  IntKind.wrap IntKind.i64 (negM x.2.2), x.2.2) else some false) fun (r_1 : Bool) => some (PE.andM r r_1)
theorem c42 : SpecOK Try.prog 42 ⟨as42, rs42, m42⟩ :=
  fnM_ok (own := []) (an := an42) (n := 400) tabs38OK (F := OPS) OPS_sound OPS_nice (f := 42) (fn := Try.f42) (code := Try.f42.body.getD .skip) (by kernel_rfl) (by kernel_rfl) (by kernel_rfl) fun x => by kernel_rfl
noncomputable def tabs42 : Tabs := Tabs.add tabs38 42 ⟨as42, rs42, m42⟩
theorem tabs42OK : TabOK Try.prog tabs42 := TabOK.add tabs38OK c42 Try.call42

/-! putlog/network.Valid -/
def as18 : List Ty := [(.pair tI (.pair (.list (.pair tI (.pair tI (.pair tI tI)))) (.list (.pair tI (.pair tI (.pair tI (.pair tI tI)))))))]
def rs18 : List Ty := [.bool]
noncomputable def an18 : Ann := .seq (.a) (.seq (.a) (.seq (.a) (.seq (.a) (.seq (.reg [] [] [.s [] [],.s [0] [],.s [] [],.r,.s [] [],.s [] [],.s [] [],.s [0] [],.s [] [],.r,.s [] [],.s [] [],.s [] []] (.call [] [] (.seq (.a) (.seq (.reg [] [] [.s [] [],.s [] [],.r,.s [] [],.s [] []] (.call [] [(.norm,⟨[(7,.r (.c (.d (.d tI))))],[],[],[]⟩)] (.seq (.a) (.seq (.seq (.a) (.block (.loop ⟨[(8,.r (.c (.d (.d tI))))],[5,9,10,11,12,13,14,15,16,18],[],[]⟩ [(.exit 0,⟨[],[5,8,9,10,11,12,13,14,15,16,18],[],[]⟩),(.ret,⟨[(4,.r (.c (.d (.d tI))))],[5,8,9,10,11,12,13,14,15,16,17,18],[],[]⟩)] (.seq (.a) (.seq (.a) (.seq (.block (.seq (.a) (.seq (.reg [] [] [.s [] [],.s [] [],.s [] [],.s [] [],.s [] [],.r] (.call [] [] (.seq (.a) (.a)) (.a))) (.a)))) (.a))))))) (.a))) (.a))) (.a))) (.call [] [(.norm,⟨[(32,.r (.c (.d (.d .bool))))],[],[],[]⟩)] (.seq (.a) (.seq (.reg [] [] [.s [] [],.s [] [],.r,.s [] [],.s [] []] (.call [] [(.norm,⟨[(7,.r (.c (.d (.d tI))))],[],[],[]⟩)] (.seq (.a) (.seq (.seq (.a) (.block (.loop ⟨[(8,.r (.c (.d (.d tI))))],[5,9,10,11,12,13,14,15,16,18],[],[]⟩ [(.exit 0,⟨[],[5,8,9,10,11,12,13,14,15,16,18],[],[]⟩),(.ret,⟨[(4,.r (.c (.d (.d tI))))],[5,8,9,10,11,12,13,14,15,16,17,18],[],[]⟩)] (.seq (.a) (.seq (.a) (.seq (.block (.seq (.a) (.seq (.reg [] [] [.s [] [],.s [] [],.s [] [],.s [] [],.s [] [],.r] (.call [] [] (.seq (.a) (.a)) (.a))) (.a)))) (.a))))))) (.a))) (.a))) (.a))) (.a)))) (.a)))))
noncomputable def m18 : (Int × (List (Int × Int × Int × Int)) × List (Int × Int × Int × Int × Int)) → Option (Bool) :=
  fun (x : Int × List (Int × Int × Int × Int) × List (Int × Int × Int × Int × Int)) => Option.bind (m38 (x.1, (0 : Int), (8 : Int))) fun (r : Bool) => bif PE.orM
  (PE.orM (PE.notM r) (ltM (8 : Int) (lenM x.2.1))) (ltM (20 : Int) (lenM x.2.2)) then some false else Option.bind (Option.bind (loopM (fun (s : Int) => bif ltM
  s (lenM x.2.1) then Option.bind (idxM x.2.1 s) fun (r_1 : Int × Int × Int × Int) => Option.bind (m38 (r_1.1, (0 : Int), IntKind.wrap IntKind.i64 (x.1 - (1 :
  Int)))) fun (r_2 : Bool) => Option.bind (bif PE.notM (PE.notM r_2) then m42 (r_1.2.1, r_1.2.2.1, (10000 : Int)) else some false) fun (r_3 : Bool) =>
  Option.bind (bif PE.notM (PE.orM (PE.notM r_2) (PE.notM r_3)) then m38 (r_1.2.2.2, (0 : Int), (1000 : Int)) else some false) fun (r : Bool) => bif PE.orM
  (PE.orM (PE.notM r_2) (PE.notM r_3)) (PE.notM r) then some (Sum.inr (Sum.inr s)) else some (Sum.inl (IntKind.wrap IntKind.i64 (s + (1 : Int)))) else some
  (Sum.inr (Sum.inl ()))) (0 : Int)) fun (o : Unit ⊕ Int) => Sum.elim (fun (t : Unit) => some (-1 : Int)) (fun (t : Int) => some t) o) fun (ov : Int) =>
  Option.bind (bif PE.notM (leM (0 : Int) ov) then Option.bind (Option.bind (loopM (fun (s : Int) => bif ltM s (lenM x.2.2) then Option.bind (idxM x.2.2 s) fun
  (r_1 : Int × Int × Int × Int × Int) => Option.bind (m38 (r_1.1, (0 : Int), IntKind.wrap IntKind.i64 (x.1 - (1 : Int)))) fun (r_2 : Bool) => Option.bind (bif
  PE.notM (PE.notM r_2) then m38 (r_1.2.1, (0 : Int), IntKind.wrap IntKind.i64 (x.1 - (1 : Int))) else some false) fun (r_3 : Bool) => Option.bind (bif PE.notM
  (PE.orM (PE.orM (PE.notM r_2) (PE.notM r_3)) (eqM r_1.1 r_1.2.1)) then m42 (r_1.2.2.1, r_1.2.2.2.1, (10000 : Int)) else some false) fun (r_4 : Bool) =>
  Option.bind (bif PE.notM (PE.orM (PE.orM (PE.orM (PE.notM r_2) (PE.notM r_3)) (eqM r_1.1 r_1.2.1)) (PE.notM r_4)) then m38 (r_1.2.2.2.2, (0 : Int), (1000 :
  Int)) else some false) fun (r : Bool) => bif PE.orM (PE.orM (PE.orM (PE.orM (PE.notM r_2) (PE.notM r_3)) (eqM r_1.1 r_1.2.1)) (PE.notM r_4)) (PE.notM r) then
  some (Sum.inr (Sum.inr s)) else some (Sum.inl (IntKind.wrap IntKind.i64 (s + (1 : Int)))) else some (Sum.inr (Sum.inl ()))) (0 : Int)) fun (o : Unit ⊕ Int) =>
  Sum.elim (fun (t : Unit) => some (-1 : Int)) (fun (t : Int) => some t) o) fun (ov : Int) => some (leM (0 : Int) ov) else some false) fun (ov_1 : Bool) => some
  (PE.andM (PE.notM (leM (0 : Int) ov)) (PE.notM ov_1))
theorem c18 : SpecOK Try.prog 18 ⟨as18, rs18, m18⟩ :=
  fnM_ok (own := []) (an := an18) (n := 400) tabs42OK (F := OPS) OPS_sound OPS_nice (f := 18) (fn := Try.f18) (code := Try.f18.body.getD .skip) (by kernel_rfl) (by kernel_rfl) (by kernel_rfl) fun x => by kernel_rfl
noncomputable def tabs18 : Tabs := Tabs.add tabs42 18 ⟨as18, rs18, m18⟩
theorem tabs18OK : TabOK Try.prog tabs18 := TabOK.add tabs42OK c18 Try.call18

/-! (putlog/network.vector).right -/
def as53 : List Ty := [(.pair tI tI)]
def rs53 : List Ty := [tI]
noncomputable def an53 : Ann := .a
noncomputable def m53 : (Int × Int) → Option (Int) :=
  fun (x : Int × Int) => some x.1
theorem c53 : SpecOK Try.prog 53 ⟨as53, rs53, m53⟩ :=
  fnM_ok (own := []) (an := an53) (n := 400) tabs18OK (F := OPS) OPS_sound OPS_nice (f := 53) (fn := Try.f53) (code := Try.f53.body.getD .skip) (by kernel_rfl) (by kernel_rfl) (by kernel_rfl) fun x => by kernel_rfl
noncomputable def tabs53 : Tabs := Tabs.add tabs18 53 ⟨as53, rs53, m53⟩
theorem tabs53OK : TabOK Try.prog tabs53 := TabOK.add tabs18OK c53 Try.call53

/-! (putlog/network.vector).up -/
def as54 : List Ty := [(.pair tI tI)]
def rs54 : List Ty := [tI]
noncomputable def an54 : Ann := .a
noncomputable def m54 : (Int × Int) → Option (Int) :=
  fun (x : Int × Int) => some x.2
theorem c54 : SpecOK Try.prog 54 ⟨as54, rs54, m54⟩ :=
  fnM_ok (own := []) (an := an54) (n := 400) tabs53OK (F := OPS) OPS_sound OPS_nice (f := 54) (fn := Try.f54) (code := Try.f54.body.getD .skip) (by kernel_rfl) (by kernel_rfl) (by kernel_rfl) fun x => by kernel_rfl
noncomputable def tabs54 : Tabs := Tabs.add tabs53 54 ⟨as54, rs54, m54⟩
theorem tabs54OK : TabOK Try.prog tabs54 := TabOK.add tabs53OK c54 Try.call54

/-! putlog/network.axes -/
def as32 : List Ty := [(.pair tI (.pair (.list (.pair tI (.pair tI (.pair tI tI)))) (.list (.pair tI (.pair tI (.pair tI (.pair tI tI)))))))]
def rs32 : List Ty := [(.pair (.pair tI (.list (.pair tI (.pair tI tI)))) (.pair tI (.list (.pair tI (.pair tI tI)))))]
noncomputable def an32 : Ann := .seq (.a) (.seq (.a) (.seq (.seq (.reg [] [] [.s [0] [],.r] (.call [] [] (.seq (.a) (.a)) (.a))) (.block (.call [] [] (.seq (.seq (.a) (.block (.loop ⟨[(10,.r (.c (.d (.d tI))))],[4,11,12,13,14,15,16,17,18,19,20,21,22,23,24,25,26,27,28,29],[(2,.box [.d (.d tI),.h 5,.d (.d tI),.h 6]),(4,.lp .ready)],[.arr (.pair tI (.pair tI tI)),.arr (.pair tI (.pair tI tI))]⟩ [(.exit 0,⟨[],[4,10,11,12,13,14,15,16,17,18,19,20,21,22,23,24,25,26,27,28,29],[(2,.box [.d (.d tI),.h 5,.d (.d tI),.h 6]),(4,.lp .ready)],[.arr (.pair tI (.pair tI tI)),.arr (.pair tI (.pair tI tI))]⟩)] (.seq (.a) (.seq (.a) (.seq (.block (.seq (.a) (.seq (.reg [] [] [.s [] [],.s [] [],.s [7] [],.s [] [],.s [7] [],.s [] [],.s [] [],.s [3] [],.s [] [],.s [7] [],.s [] [],.s [7] [],.s [] [],.r,.s [] []] (.call [] [] (.seq (.a) (.block (.seq (.a) (.block (.seq (.seq (.a) (.seq (.a) (.seq (.block (.seq (.a) (.seq (.a) (.reg [0,0,2,6,14,0,32,0,128,0,0,1024,3584,8160,0,16384,0,65536,0,262144,0,1835008,4177920,8388576,16777214,33554431,67108863,134217727] [0,1,2,3,4,5,6,7,8,9,10,11,12,13,14,15,16,17,18,19,20,21,22,23,24,25,26,27] [.s [] [],.s [] [],.s [2] [],.s [] [],.s [2] [],.s [] [],.s [8] [],.s [] [],.s [8] [],.s [] [],.s [] [],.s [8] [],.s [] [],.s [] [],.s [] [],.s [8] [],.s [] [],.s [8] [],.s [] [],.s [8] [],.s [] [],.s [] [],.s [] [],.s [] [],.s [5] [10,5],.s [2] [],.s [] [],.s [2,10] [2]] (.a))))) (.a)))) (.seq (.seq (.a) (.seq (.a) (.seq (.block (.seq (.a) (.seq (.a) (.reg [0,0,2,6,14,0,32,0,128,0,0,1024,3584,8160,0,16384,0,65536,0,262144,0,1835008,4177920,8388576,16777214,33554431,67108863,134217727] [0,1,2,3,4,5,6,7,8,9,10,11,12,13,14,15,16,17,18,19,20,21,22,23,24,25,26,27] [.s [] [],.s [] [],.s [2] [],.s [] [],.s [2] [],.s [] [],.s [8] [],.s [] [],.s [8] [],.s [] [],.s [] [],.s [8] [],.s [] [],.s [] [],.s [] [],.s [8] [],.s [] [],.s [8] [],.s [] [],.s [8] [],.s [] [],.s [] [],.s [] [],.s [] [],.s [6] [11,6],.s [2] [],.s [] [],.s [2,11] [2]] (.a))))) (.a)))) (.seq (.a) (.join [] (.a))))))))) (.a))) (.a)))) (.a))))))) (.seq (.a) (.block (.loop ⟨[(33,.r (.c (.d (.d tI))))],[6,34,35,36,37,38,39,40,41,42,43,44,45,46,47,48,49,50,51,52],[(2,.box [.d (.d tI),.h 7,.d (.d tI),.h 8]),(4,.lp .ready),(5,.gone),(6,.gone)],[.arr (.pair tI (.pair tI tI)),.arr (.pair tI (.pair tI tI))]⟩ [(.exit 2,⟨[],[6,33,34,35,36,37,38,39,40,41,42,43,44,45,46,47,48,49,50,51,52],[(2,.box [.d (.d tI),.h 7,.d (.d tI),.h 8]),(4,.lp .ready),(5,.gone),(6,.gone)],[.arr (.pair tI (.pair tI tI)),.arr (.pair tI (.pair tI tI))]⟩)] (.seq (.a) (.seq (.a) (.seq (.block (.seq (.a) (.seq (.reg [] [] [.s [] [],.s [] [],.s [9] [],.s [] [],.s [9] [],.s [] [],.s [] [],.s [9] [],.s [] [],.s [9] [],.s [] [],.s [9] [],.s [] [],.r,.s [] []] (.call [] [] (.seq (.a) (.block (.seq (.a) (.block (.seq (.seq (.a) (.seq (.a) (.seq (.block (.seq (.a) (.seq (.a) (.reg [0,0,2,6,14,0,32,0,128,0,0,1024,3584,8160,0,16384,0,65536,0,262144,0,1835008,4177920,8388576,16777214,33554431,67108863,134217727] [0,1,2,3,4,5,6,7,8,9,10,11,12,13,14,15,16,17,18,19,20,21,22,23,24,25,26,27] [.s [] [],.s [] [],.s [2] [],.s [] [],.s [2] [],.s [] [],.s [10] [],.s [] [],.s [10] [],.s [] [],.s [] [],.s [10] [],.s [] [],.s [] [],.s [] [],.s [10] [],.s [] [],.s [10] [],.s [] [],.s [10] [],.s [] [],.s [] [],.s [] [],.s [] [],.s [7] [12,7],.s [2] [],.s [] [],.s [2,12] [2]] (.a))))) (.a)))) (.seq (.seq (.a) (.seq (.a) (.seq (.block (.seq (.a) (.seq (.a) (.reg [0,0,2,6,14,0,32,0,128,0,0,1024,3584,8160,0,16384,0,65536,0,262144,0,1835008,4177920,8388576,16777214,33554431,67108863,134217727] [0,1,2,3,4,5,6,7,8,9,10,11,12,13,14,15,16,17,18,19,20,21,22,23,24,25,26,27] [.s [] [],.s [] [],.s [2] [],.s [] [],.s [2] [],.s [] [],.s [10] [],.s [] [],.s [10] [],.s [] [],.s [] [],.s [10] [],.s [] [],.s [] [],.s [] [],.s [10] [],.s [] [],.s [10] [],.s [] [],.s [10] [],.s [] [],.s [] [],.s [] [],.s [] [],.s [8] [13,8],.s [2] [],.s [] [],.s [2,13] [2]] (.a))))) (.a)))) (.seq (.a) (.join [] (.a))))))))) (.a))) (.a)))) (.a)))))))) (.a)))) (.a)))
noncomputable def m32 : (Int × (List (Int × Int × Int × Int)) × List (Int × Int × Int × Int × Int)) → Option ((Int × List (Int × Int × Int)) × Int × List (Int × Int × Int)) :=
  fun (x : Int × List (Int × Int × Int × Int) × List (Int × Int × Int × Int × Int)) => Option.bind (loopM (fun (s : Int × Int × Int × List (Int × Int × Int) ×
  List (Int × Int × Int)) => bif ltM s.1 (lenM x.2.1) then Option.bind (idxM x.2.1 s.1) fun (r : Int × Int × Int × Int) => Option.bind (m53 (r.2.1, r.2.2.1))
  fun (r_1 : Int) => Option.bind (appM (nat_lit 24) s.2.2.2.1 [(x.1, r.1, IntKind.wrap IntKind.i64 (r_1 + r.2.2.2)), (r.1, x.1, IntKind.wrap IntKind.i64
  (r.2.2.2 - r_1))]) fun (r_2 : List (Int × Int × Int)) => Option.bind (m54 (r.2.1, r.2.2.1)) fun (r_3 : Int) => Option.bind (appM (nat_lit 24) s.2.2.2.2 [(x.1,
  r.1, IntKind.wrap IntKind.i64 (r_3 + r.2.2.2)), (r.1, x.1, IntKind.wrap IntKind.i64 (r.2.2.2 - r_3))]) fun (r : List (Int × Int × Int)) => some (Sum.inl
  (IntKind.wrap IntKind.i64 (s.1 + (1 : Int)), s.2.1, s.2.2.1, r_2, r)) else some (Sum.inr (s.2.1, s.2.2.1, s.2.2.2.1, s.2.2.2.2))) ((0 : Int), IntKind.wrap
  IntKind.i64 (x.1 + (1 : Int)), IntKind.wrap IntKind.i64 (x.1 + (1 : Int)), [], [])) fun (o : Int × Int × List (Int × Int × Int) × List (Int × Int × Int)) =>
  Option.bind (loopM (fun (s : Int × Int × Int × List (Int × Int × Int) × List (Int × Int × Int)) => bif ltM s.1 (lenM x.2.2) then Option.bind (idxM x.2.2 s.1)
  fun (r : Int × Int × Int × Int × Int) => Option.bind (m53 (r.2.2.1, r.2.2.2.1)) fun (r_1 : Int) => Option.bind (appM (nat_lit 24) s.2.2.2.1 [(r.1, r.2.1,
  IntKind.wrap IntKind.i64 (r_1 + r.2.2.2.2)), (r.2.1, r.1, IntKind.wrap IntKind.i64 (r.2.2.2.2 - r_1))]) fun (r_2 : List (Int × Int × Int)) => Option.bind (m54
  (r.2.2.1, r.2.2.2.1)) fun (r_3 : Int) => Option.bind (appM (nat_lit 24) s.2.2.2.2 [(r.1, r.2.1, IntKind.wrap IntKind.i64 (r_3 + r.2.2.2.2)), (r.2.1, r.1,
  IntKind.wrap IntKind.i64 (r.2.2.2.2 - r_3))]) fun (r : List (Int × Int × Int)) => some (Sum.inl (IntKind.wrap IntKind.i64 (s.1 + (1 : Int)), s.2.1, s.2.2.1,
  r_2, r)) else some (Sum.inr (s.2.1, s.2.2.1, s.2.2.2.1, s.2.2.2.2))) ((0 : Int), o.1, o.2.1, o.2.2.1, o.2.2.2)) fun (o : Int × Int × List (Int × Int × Int) ×
  List (Int × Int × Int)) => some ((o.1, o.2.2.1), o.2.1, o.2.2.2)
theorem c32 : SpecOK Try.prog 32 ⟨as32, rs32, m32⟩ :=
  fnM_ok (own := []) (an := an32) (n := 400) tabs54OK (F := OPS) OPS_sound OPS_nice (f := 32) (fn := Try.f32) (code := Try.f32.body.getD .skip) (by kernel_rfl) (by kernel_rfl) (by kernel_rfl) fun x => by kernel_rfl
noncomputable def tabs32 : Tabs := Tabs.add tabs54 32 ⟨as32, rs32, m32⟩
theorem tabs32OK : TabOK Try.prog tabs32 := TabOK.add tabs54OK c32 Try.call32

/-! putlog/between.isIn -/
def as60 : List Ty := [tI, tI, tI]
def rs60 : List Ty := [.bool]
noncomputable def an60 : Ann := .a
noncomputable def m60 : (Int × Int × Int) → Option (Bool) :=
  fun (x : Int × Int × Int) => some (PE.andM (leM x.2.1 x.1) (leM x.1 x.2.2))
theorem c60 : SpecOK Try.prog 60 ⟨as60, rs60, m60⟩ :=
  fnM_ok (own := []) (an := an60) (n := 400) tabs32OK (F := OPS) OPS_sound OPS_nice (f := 60) (fn := Try.f60) (code := Try.f60.body.getD .skip) (by kernel_rfl) (by kernel_rfl) (by kernel_rfl) fun x => by kernel_rfl
noncomputable def tabs60 : Tabs := Tabs.add tabs32 60 ⟨as60, rs60, m60⟩
theorem tabs60OK : TabOK Try.prog tabs60 := TabOK.add tabs32OK c60 Try.call60

/-! putlog/between.isBound -/
def as63 : List Ty := [tI, (.pair tI (.pair tI tI))]
def rs63 : List Ty := [.bool]
noncomputable def an63 : Ann := .a
noncomputable def m63 : (Int × Int × Int × Int) → Option (Bool) :=
  fun (x : Int × Int × Int × Int) => Option.bind (m60 (x.2.1, (0 : Int), IntKind.wrap IntKind.i64 (x.1 - (1 : Int)))) fun (r : Bool) => Option.bind (bif r then
  m60 (x.2.2.1, (0 : Int), IntKind.wrap IntKind.i64 (x.1 - (1 : Int))) else some false) fun (r_1 : Bool) => Option.bind (bif PE.andM r r_1 then m60 (x.2.2.2,
  (-1000000000 : Int), (1000000000 : Int)) else some false) fun (r_2 : Bool) => some (PE.andM (PE.andM r r_1) r_2)
theorem c63 : SpecOK Try.prog 63 ⟨as63, rs63, m63⟩ :=
  fnM_ok (own := []) (an := an63) (n := 400) tabs60OK (F := OPS) OPS_sound OPS_nice (f := 63) (fn := Try.f63) (code := Try.f63.body.getD .skip) (by kernel_rfl) (by kernel_rfl) (by kernel_rfl) fun x => by kernel_rfl
noncomputable def tabs63 : Tabs := Tabs.add tabs60 63 ⟨as63, rs63, m63⟩
theorem tabs63OK : TabOK Try.prog tabs63 := TabOK.add tabs60OK c63 Try.call63

/-! putlog/between.Valid -/
def as36 : List Ty := [(.pair tI (.list (.pair tI (.pair tI tI))))]
def rs36 : List Ty := [.bool]
noncomputable def an36 : Ann := .seq (.a) (.seq (.reg [] [] [.s [] [],.s [0] [],.s [] [],.s [] [],.s [] [],.s [0] [],.s [] [],.s [] [],.s [] [],.s [] [],.s [] [],.s [0] [],.s [] [],.r,.s [] [],.s [] [],.s [] []] (.call [] [(.norm,⟨[(16,.r (.c (.d (.d .bool))))],[],[],[]⟩)] (.seq (.a) (.seq (.reg [] [] [.s [] [],.s [] [],.r,.s [] [],.s [] []] (.call [] [(.norm,⟨[(7,.r (.c (.d (.d tI))))],[],[],[]⟩)] (.seq (.a) (.seq (.seq (.a) (.block (.loop ⟨[(8,.r (.c (.d (.d tI))))],[5,9,10,11,12,13,14,15,16,18],[],[]⟩ [(.exit 0,⟨[],[5,8,9,10,11,12,13,14,15,16,18],[],[]⟩),(.ret,⟨[(4,.r (.c (.d (.d tI))))],[5,8,9,10,11,12,13,14,15,16,17,18],[],[]⟩)] (.seq (.a) (.seq (.a) (.seq (.block (.seq (.a) (.seq (.reg [] [] [.s [] [],.s [] [],.s [] [],.s [] [],.s [] [],.r] (.call [] [] (.seq (.a) (.a)) (.a))) (.a)))) (.a))))))) (.a))) (.a))) (.a))) (.a))) (.a))
noncomputable def m36 : (Int × List (Int × Int × Int)) → Option (Bool) :=
  fun (x : Int × List (Int × Int × Int)) => Option.bind (m60 (x.1, (0 : Int), (16 : Int))) fun (r : Bool) => Option.bind (bif PE.andM r (leM (lenM x.2) (60 :
  Int)) then Option.bind (Option.bind (loopM (fun (s : Int) => bif ltM s (lenM x.2) then Option.bind (idxM x.2 s) fun (r_1 : Int × Int × Int) => Option.bind
  (m63 (x.1, r_1.1, r_1.2.1, r_1.2.2)) fun (r : Bool) => bif PE.notM r then some (Sum.inr (Sum.inr s)) else some (Sum.inl (IntKind.wrap IntKind.i64 (s + (1 :
  Int)))) else some (Sum.inr (Sum.inl ()))) (0 : Int)) fun (o : Unit ⊕ Int) => Sum.elim (fun (t : Unit) => some (-1 : Int)) (fun (t : Int) => some t) o) fun (ov
  : Int) => some (leM (0 : Int) ov) else some false) fun (ov : Bool) => some (PE.andM (PE.andM r (leM (lenM x.2) (60 : Int))) (PE.notM ov))
theorem c36 : SpecOK Try.prog 36 ⟨as36, rs36, m36⟩ :=
  fnM_ok (own := []) (an := an36) (n := 400) tabs63OK (F := OPS) OPS_sound OPS_nice (f := 36) (fn := Try.f36) (code := Try.f36.body.getD .skip) (by kernel_rfl) (by kernel_rfl) (by kernel_rfl) fun x => by kernel_rfl
noncomputable def tabs36 : Tabs := Tabs.add tabs63 36 ⟨as36, rs36, m36⟩
theorem tabs36OK : TabOK Try.prog tabs36 := TabOK.add tabs63OK c36 Try.call36

/-! putlog/between.none$1 -/
def as86 : List Ty := [tI, tI]
def rs86 : List Ty := [tI]
noncomputable def an86 : Ann := .a
noncomputable def m86 : (Int × Int) → Option (Int) :=
  fun (x : Int × Int) => bif eqM x.1 x.2 then some (0 : Int) else some (1152921504606846976 : Int)
theorem c86 : SpecOK Try.prog 86 ⟨as86, rs86, m86⟩ :=
  fnM_ok (own := []) (an := an86) (n := 400) tabs36OK (F := OPS) OPS_sound OPS_nice (f := 86) (fn := Try.f86) (code := Try.f86.body.getD .skip) (by kernel_rfl) (by kernel_rfl) (by kernel_rfl) fun x => by kernel_rfl
noncomputable def tabs86 : Tabs := Tabs.add tabs36 86 ⟨as86, rs86, m86⟩
theorem tabs86OK : TabOK Try.prog tabs86 := TabOK.add tabs36OK c86 Try.call86

/-! putlog/between.none -/
def as64 : List Ty := [tI]
def rs64 : List Ty := [(.list (.list tI))]
noncomputable def an64 : Ann := .seq (.a) (.seq (.reg [] [] [.s [] [],.r,.s [] []] (.call [9] [] (.seq (.a) (.seq (.a) (.seq (.seq (.a) (.block (.loop ⟨[(11,.r (.c (.d (.d tI))))],[6,7,12,13,14,15,16,17,18,19,20,21,22,23,24,25,26,27,28,29,30,31,32],[(0,.tab tI 2),(1,.gone)],[.us]⟩ [(.exit 0,⟨[],[6,7,11,12,13,14,15,16,17,18,19,20,21,22,23,24,25,26,27,28,29,30,31,32],[(0,.tab tI 2),(1,.gone)],[.us]⟩)] (.seq (.a) (.seq (.a) (.seq (.block (.seq (.a) (.seq (.a) (.block (.loop ⟨[(15,.r (.c (.d (.d tI))))],[7,16,17,18,19,20,21,22,23,24,25,26,27,28,29,30,31],[(0,.tab tI 3),(2,.gone)],[.us]⟩ [(.exit 2,⟨[],[7,15,16,17,18,19,20,21,22,23,24,25,26,27,28,29,30,31],[(0,.tab tI 3),(2,.gone)],[.us]⟩)] (.seq (.a) (.seq (.a) (.seq (.block (.seq (.a) (.reg [0,0,0,0,12,28,0,0,0,448,960,2044,4095,8191] [0,1,2,3,4,5,6,7,8,9,10,11,12,13] [.s [] [],.s [] [],.s [] [],.s [] [],.s [0] [],.s [0] [],.s [] [],.s [] [],.s [] [],.s [] [],.s [] [],.s [0] [0],.s [0] [],.s [0,0] [0]] (.a)))) (.a))))))))) (.a))))))) (.a)))) (.a))) (.a))
noncomputable def m64 : Int → Option (List (List Int)) :=
  fun (x : Int) => Option.bind (mkM x x (nat_lit 24) []) fun (r : List (List Int)) => Option.bind (loopM (fun (s : Int × List (List Int)) => bif ltM s.1 x then
  Option.bind (loopM (fun (s_1 : Int × List (List Int)) => bif ltM s_1.1 x then Option.bind (chkM s.1 (lenM s_1.2)) fun (r_1 : Unit) => Option.bind (chkM s.1
  (lenM s_1.2)) fun (r_2 : Unit) => Option.bind (m86 (s.1, s_1.1)) fun (r_3 : Int) => Option.bind (app2M (nat_lit 8) s_1.2 s.1 [r_3]) fun (r_4 : List (List
  Int)) => Option.bind (chkM s.1 (lenM r_4)) fun (r_5 : Unit) => Option.bind (Option.bind (sameM s.1 s.1) fun (x : Unit) => Option.bind (sameM s.1 s.1) fun (x :
  Unit) => chkM s.1 (lenM r_4)) fun (r : Unit) => some (Sum.inl (IntKind.wrap IntKind.i64 (s_1.1 + (1 : Int)), r_4)) else some (Sum.inr s_1.2)) ((0 : Int),
  s.2)) fun (o : List (List Int)) => some (Sum.inl (IntKind.wrap IntKind.i64 (s.1 + (1 : Int)), o)) else some (Sum.inr s.2)) ((0 : Int), r)) fun (o : List (List
  Int)) => some o
theorem c64 : SpecOK Try.prog 64 ⟨as64, rs64, m64⟩ :=
  fnM_ok (own := []) (an := an64) (n := 400) tabs86OK (F := OPS) OPS_sound OPS_nice (f := 64) (fn := Try.f64) (code := Try.f64.body.getD .skip) (by kernel_rfl) (by kernel_rfl) (by kernel_rfl) fun x => by kernel_rfl
noncomputable def tabs64 : Tabs := Tabs.add tabs86 64 ⟨as64, rs64, m64⟩
theorem tabs64OK : TabOK Try.prog tabs64 := TabOK.add tabs86OK c64 Try.call64

/-! putlog/between.plus -/
def as56 : List Ty := [tI, tI]
def rs56 : List Ty := [tI]
noncomputable def an56 : Ann := .a
noncomputable def m56 : (Int × Int) → Option (Int) :=
  fun (x : Int × Int) => bif PE.orM (eqM x.1 (1152921504606846976 : Int)) (eqM x.2 (1152921504606846976 : Int)) then some (1152921504606846976 : Int) else some
  (IntKind.wrap IntKind.i64 (x.1 + x.2))
theorem c56 : SpecOK Try.prog 56 ⟨as56, rs56, m56⟩ :=
  fnM_ok (own := []) (an := an56) (n := 400) tabs64OK (F := OPS) OPS_sound OPS_nice (f := 56) (fn := Try.f56) (code := Try.f56.body.getD .skip) (by kernel_rfl) (by kernel_rfl) (by kernel_rfl) fun x => by kernel_rfl
noncomputable def tabs56 : Tabs := Tabs.add tabs64 56 ⟨as56, rs56, m56⟩
theorem tabs56OK : TabOK Try.prog tabs56 := TabOK.add tabs64OK c56 Try.call56

/-! putlog/between.distances -/
def as37 : List Ty := [(.pair tI (.list (.pair tI (.pair tI tI))))]
def rs37 : List Ty := [(.list (.list tI)), .bool]
noncomputable def an37 : Ann := .seq (.a) (.seq (.reg [] [] [.s [] [],.s [0] [],.r,.s [] []] (.call [] [] (.seq (.a) (.seq (.reg [] [] [.s [] [],.r,.s [] []] (.call [9] [] (.seq (.a) (.seq (.a) (.seq (.seq (.a) (.block (.loop ⟨[(11,.r (.c (.d (.d tI))))],[6,7,12,13,14,15,16,17,18,19,20,21,22,23,24,25,26,27,28,29,30,31,32],[(1,.tab tI 3),(2,.gone)],[.us]⟩ [(.exit 0,⟨[],[6,7,11,12,13,14,15,16,17,18,19,20,21,22,23,24,25,26,27,28,29,30,31,32],[(1,.tab tI 3),(2,.gone)],[.us]⟩)] (.seq (.a) (.seq (.a) (.seq (.block (.seq (.a) (.seq (.a) (.block (.loop ⟨[(15,.r (.c (.d (.d tI))))],[7,16,17,18,19,20,21,22,23,24,25,26,27,28,29,30,31],[(1,.tab tI 4),(3,.gone)],[.us]⟩ [(.exit 2,⟨[],[7,15,16,17,18,19,20,21,22,23,24,25,26,27,28,29,30,31],[(1,.tab tI 4),(3,.gone)],[.us]⟩)] (.seq (.a) (.seq (.a) (.seq (.block (.seq (.a) (.reg [0,0,0,0,12,28,0,0,0,448,960,2044,4095,8191] [0,1,2,3,4,5,6,7,8,9,10,11,12,13] [.s [] [],.s [] [],.s [] [],.s [] [],.s [1] [],.s [1] [],.s [] [],.s [] [],.s [] [],.s [] [],.s [] [],.s [1] [1],.s [1] [],.s [1,1] [1]] (.a)))) (.a))))))))) (.a))))))) (.a)))) (.a))) (.a))) (.a))) (.seq (.seq (.a) (.block (.loop ⟨[(18,.r (.c (.d (.d tI))))],[6,19,20,21,22,23,24,25,26,27,28,29,30,31,32,33,34,35,36,37,38,39,40,41,42],[(1,.tab tI 3)],[]⟩ [(.exit 0,⟨[],[6,18,19,20,21,22,23,24,25,26,27,28,29,30,31,32,33,34,35,36,37,38,39,40,41,42],[(1,.tab tI 3)],[]⟩)] (.seq (.a) (.seq (.a) (.seq (.block (.seq (.a) (.reg [0,0,2,7,15,0,32,0,0,256,896,1920,0,4096,16256,32640,0,65536,262016,524287,1048575] [0,1,2,3,4,5,6,7,8,9,10,11,12,13,14,15,16,17,18,19,20] [.s [] [],.s [] [],.s [4] [],.s [1] [],.s [1] [],.s [] [],.s [4] [],.s [] [],.s [] [],.s [4] [],.s [1] [],.s [1] [],.s [] [],.s [4] [],.s [1] [],.s [1] [],.s [] [],.s [4] [],.s [] [],.s [1] [],.s [1] [1]] (.a)))) (.a))))))) (.seq (.seq (.a) (.block (.loop ⟨[(45,.r (.c (.d (.d tI))))],[7,8,9,10,46,47,48,49,50,51,52,53,54,55,56,57,58,59,60,61,62,63,64,65,66,67,68,69,70,71,72,73,74,75,76,77,78,79,80,81,82,83,84,85,86,87,88,89,90,91,92,93,94,95],[(1,.tab tI 3)],[]⟩ [(.exit 2,⟨[],[7,8,9,10,45,46,47,48,49,50,51,52,53,54,55,56,57,58,59,60,61,62,63,64,65,66,67,68,69,70,71,72,73,74,75,76,77,78,79,80,81,82,83,84,85,86,87,88,89,90,91,92,93,94,95],[(1,.tab tI 3)],[]⟩)] (.seq (.a) (.seq (.a) (.seq (.block (.seq (.a) (.seq (.a) (.seq (.a) (.seq (.a) (.block (.loop ⟨[(59,.r (.c (.d (.d tI))))],[9,10,60,61,62,63,64,65,66,67,68,69,70,71,72,73,74,75,76,77,78,79,80,81,82,83,84,85,86,87,88,89,90,91,92,93,94],[(1,.tab tI 3)],[]⟩ [(.exit 4,⟨[],[9,10,59,60,61,62,63,64,65,66,67,68,69,70,71,72,73,74,75,76,77,78,79,80,81,82,83,84,85,86,87,88,89,90,91,92,93,94],[(1,.tab tI 3)],[]⟩)] (.seq (.a) (.seq (.a) (.seq (.block (.seq (.a) (.seq (.a) (.block (.loop ⟨[(64,.r (.c (.d (.d tI))))],[10,65,66,67,68,69,70,71,72,73,74,75,76,77,78,79,80,81,82,83,84,85,86,87,88,89,90,91,92,93],[(1,.tab tI 3)],[]⟩ [(.exit 6,⟨[],[10,64,65,66,67,68,69,70,71,72,73,74,75,76,77,78,79,80,81,82,83,84,85,86,87,88,89,90,91,92,93],[(1,.tab tI 3)],[]⟩)] (.seq (.a) (.seq (.a) (.seq (.block (.seq (.a) (.reg [0,0,3,7,0,0,0,96,224,0,992,2016,0,0,12288,28672,0,126976,258048,0,0,1572864,3670016,8384512,16777184,33554431,67108863] [0,1,2,3,4,5,6,7,8,9,10,11,12,13,14,15,16,17,18,19,20,21,22,23,24,25,26] [.s [] [],.s [] [],.s [1] [],.s [1] [],.s [] [],.s [] [],.s [] [],.s [1] [],.s [1] [],.s [] [],.s [1] [],.s [1] [],.s [] [],.s [] [],.s [1] [],.s [1] [],.s [] [],.s [1] [],.s [1] [],.s [] [],.s [] [],.s [4] [],.s [4] [],.s [] [],.s [] [],.s [1] [],.s [1] [1]] (.a)))) (.a))))))))) (.a))))))))))) (.a))))))) (.seq (.seq (.a) (.block (.loop ⟨[(98,.r (.c (.d (.d tI))))],[11,99,100,101,102,103,104,105,106,107,108,109],[],[]⟩ [(.exit 8,⟨[],[11,98,99,100,101,102,103,104,105,106,107,108,109],[],[]⟩),(.ret,⟨[(2,.r (.c (.l .nilS))),(3,.r (.c (.d (.d .bool))))],[11,98,99,100,101,102,103,104,105,106,107,108,109],[],[]⟩)] (.a)))) (.a)))))
noncomputable def m37 : (Int × List (Int × Int × Int)) → Option (List (List Int) × Bool) :=
  fun (x : Int × List (Int × Int × Int)) => Option.bind (mkM x.1 x.1 (nat_lit 24) []) fun (r : List (List Int)) => Option.bind (loopM (fun (s : Int × List (List
  Int)) => bif ltM s.1 x.1 then Option.bind (loopM (fun (s_1 : Int × List (List Int)) => bif ltM s_1.1 x.1 then Option.bind (chkM s.1 (lenM s_1.2)) fun (r_1 :
  Unit) => Option.bind (chkM s.1 (lenM s_1.2)) fun (r_2 : Unit) => Option.bind (m86 (s.1, s_1.1)) fun (r_3 : Int) => Option.bind (app2M (nat_lit 8) s_1.2 s.1
  [r_3]) fun (r_4 : List (List Int)) => Option.bind (chkM s.1 (lenM r_4)) fun (r_5 : Unit) => Option.bind (Option.bind (sameM s.1 s.1) fun (x : Unit) =>
  Option.bind (sameM s.1 s.1) fun (x : Unit) => chkM s.1 (lenM r_4)) fun (r : Unit) => some (Sum.inl (IntKind.wrap IntKind.i64 (s_1.1 + (1 : Int)), r_4)) else
  some (Sum.inr s_1.2)) ((0 : Int), s.2)) fun (o : List (List Int)) => some (Sum.inl (IntKind.wrap IntKind.i64 (s.1 + (1 : Int)), o)) else some (Sum.inr s.2))
  ((0 : Int), r)) fun (o : List (List Int)) => Option.bind (loopM (fun (s : Int × List (List Int)) => bif ltM s.1 (lenM x.2) then Option.bind (idxM x.2 s.1) fun
  (r_1 : Int × Int × Int) => Option.bind (chkM r_1.1 (lenM s.2)) fun (r_2 : Unit) => Option.bind (chkM r_1.1 (lenM s.2)) fun (r_3 : Unit) => Option.bind (chkM
  r_1.1 (lenM s.2)) fun (r_4 : Unit) => Option.bind (chkM r_1.1 (lenM s.2)) fun (r_5 : Unit) => Option.bind (Option.bind (idxM s.2 r_1.1) fun (xs : List Int) =>
  chkM r_1.2.1 (lenM xs)) fun (r_6 : Unit) => Option.bind (Option.bind (idxM s.2 r_1.1) fun (xs : List Int) => Option.bind (idxM xs r_1.2.1) fun (x : Int) =>
  some x) fun (r_7 : Int) => Option.bind (Option.bind (idxM s.2 r_1.1) fun (xs : List Int) => chkM r_1.2.1 (lenM xs)) fun (r_8 : Unit) => Option.bind (set2M s.2
  r_1.1 r_1.2.1 fun (x : Int) => some (min r_7 r_1.2.2)) fun (r : List (List Int)) => some (Sum.inl (IntKind.wrap IntKind.i64 (s.1 + (1 : Int)), r)) else some
  (Sum.inr s.2)) ((0 : Int), o)) fun (o_1 : List (List Int)) => Option.bind (loopM (fun (s : Int × List (List Int)) => bif ltM s.1 x.1 then Option.bind (mkM x.1
  x.1 (nat_lit 8) (0 : Int)) fun (r_1 : List Int) => Option.bind (chkM s.1 (lenM s.2)) fun (r_2 : Unit) => Option.bind (chkM s.1 (lenM s.2)) fun (r_3 : Unit) =>
  Option.bind (idxM s.2 s.1) fun (r_4 : List Int) => Option.bind (loopM (fun (s_1 : Int × List (List Int)) => bif ltM s_1.1 x.1 then Option.bind (loopM (fun
  (s_2 : Int × List (List Int)) => bif ltM s_2.1 x.1 then Option.bind (chkM s_1.1 (lenM s_2.2)) fun (r_5 : Unit) => Option.bind (chkM s_1.1 (lenM s_2.2)) fun
  (r_6 : Unit) => Option.bind (chkM s_1.1 (lenM s_2.2)) fun (r_7 : Unit) => Option.bind (chkM s_1.1 (lenM s_2.2)) fun (r_8 : Unit) => Option.bind (Option.bind
  (idxM s_2.2 s_1.1) fun (xs : List Int) => chkM s_2.1 (lenM xs)) fun (r_9 : Unit) => Option.bind (Option.bind (idxM s_2.2 s_1.1) fun (xs : List Int) =>
  Option.bind (idxM xs s_2.1) fun (x : Int) => some x) fun (r_10 : Int) => Option.bind (chkM s_1.1 (lenM s_2.2)) fun (r_11 : Unit) => Option.bind (chkM s_1.1
  (lenM s_2.2)) fun (r_12 : Unit) => Option.bind (Option.bind (idxM s_2.2 s_1.1) fun (xs : List Int) => chkM s.1 (lenM xs)) fun (r_13 : Unit) => Option.bind
  (Option.bind (idxM s_2.2 s_1.1) fun (xs : List Int) => Option.bind (idxM xs s.1) fun (x : Int) => some x) fun (r_14 : Int) => Option.bind (chkM s_2.1 (lenM
  (copyM r_1 r_4))) fun (r_15 : Unit) => Option.bind (idxM (copyM r_1 r_4) s_2.1) fun (r_16 : Int) => Option.bind (m56 (r_14, r_16)) fun (r_17 : Int) =>
  Option.bind (Option.bind (idxM s_2.2 s_1.1) fun (xs : List Int) => chkM s_2.1 (lenM xs)) fun (r_18 : Unit) => Option.bind (set2M s_2.2 s_1.1 s_2.1 fun (x :
  Int) => some (min r_10 r_17)) fun (r : List (List Int)) => some (Sum.inl (IntKind.wrap IntKind.i64 (s_2.1 + (1 : Int)), r)) else some (Sum.inr s_2.2)) ((0 :
  Int), s_1.2)) fun (o : List (List Int)) => some (Sum.inl (IntKind.wrap IntKind.i64 (s_1.1 + (1 : Int)), o)) else some (Sum.inr s_1.2)) ((0 : Int), s.2)) fun
  (o : List (List Int)) => some (Sum.inl (IntKind.wrap IntKind.i64 (s.1 + (1 : Int)), o)) else some (Sum.inr s.2)) ((0 : Int), o_1)) fun (o_2 : List (List Int))
  => Option.bind (loopM (fun (s : Int) => bif ltM s x.1 then Option.bind (chkM s (lenM o_2)) fun (r_1 : Unit) => Option.bind (chkM s (lenM o_2)) fun (r_2 :
  Unit) => Option.bind (Option.bind (idxM o_2 s) fun (xs : List Int) => chkM s (lenM xs)) fun (r_3 : Unit) => Option.bind (Option.bind (idxM o_2 s) fun (xs :
  List Int) => Option.bind (idxM xs s) fun (x : Int) => some x) fun (r : Int) => bif ltM r (0 : Int) then some (Sum.inr (Sum.inr false)) else some (Sum.inl
  (IntKind.wrap IntKind.i64 (s + (1 : Int)))) else some (Sum.inr (Sum.inl ()))) (0 : Int)) fun (o : Unit ⊕ Bool) => Sum.elim (fun (t : Unit) => some (o_2,
  true)) (fun (t : Bool) => some ([], t)) o
theorem c37 : SpecOK Try.prog 37 ⟨as37, rs37, m37⟩ :=
  fnM_ok (own := []) (an := an37) (n := 400) (TabOK.drop tabs56OK [64]) (F := OPS) OPS_sound OPS_nice (f := 37) (fn := Try.f37) (code := Try.f37.body.getD .skip) (by kernel_rfl) (by kernel_rfl) (by kernel_rfl) fun x => by kernel_rfl
noncomputable def tabs37 : Tabs := Tabs.add tabs56 37 ⟨as37, rs37, m37⟩
theorem tabs37OK : TabOK Try.prog tabs37 := TabOK.add tabs56OK c37 Try.call37

/-! putlog/between.Close -/
def as12 : List Ty := [(.pair tI (.list (.pair tI (.pair tI tI))))]
def rs12 : List Ty := [(.list (.list tI)), tI]
noncomputable def an12 : Ann := .a
noncomputable def m12 : (Int × List (Int × Int × Int)) → Option (List (List Int) × Int) :=
  fun (x : Int × List (Int × Int × Int)) => Option.bind (m36 (x.1, x.2)) fun (r : Bool) => bif PE.notM r then some ([], (90 : Int)) else Option.bind (m37 (x.1,
  x.2)) fun (r : List (List Int) × Bool) => bif PE.notM r.2 then some ([], (90 : Int)) else some (r.1, (0 : Int))
theorem c12 : SpecOK Try.prog 12 ⟨as12, rs12, m12⟩ :=
  fnM_ok (own := []) (an := an12) (n := 400) tabs37OK (F := OPS) OPS_sound OPS_nice (f := 12) (fn := Try.f12) (code := Try.f12.body.getD .skip) (by kernel_rfl) (by kernel_rfl) (by kernel_rfl) fun x => by kernel_rfl
noncomputable def tabs12 : Tabs := Tabs.add tabs37 12 ⟨as12, rs12, m12⟩
theorem tabs12OK : TabOK Try.prog tabs12 := TabOK.add tabs37OK c12 Try.call12

/-! putlog/network.apart -/
def as39 : List Ty := [(.pair tI (.pair (.list (.pair tI (.pair tI (.pair tI tI)))) (.list (.pair tI (.pair tI (.pair tI (.pair tI tI))))))), tI, tI]
def rs39 : List Ty := [(.pair tI (.pair tI (.pair tI tI))), tI]
noncomputable def an39 : Ann := .seq (.a) (.seq (.a) (.seq (.a) (.seq (.a) (.seq (.a) (.seq (.reg [0,0,3,7,0,31,63,127,0,0,768,1792,0,7936,16128,0,0,98304,229376,0,1015808,2064384,4161536,0,0,25165824,58720256,0,260046848,528482304,1073741823,2147483647,4294967295] [0,1,2,3,4,5,6,7,8,9,10,11,12,13,14,15,16,17,18,19,20,21,22,23,24,25,26,27,28,29,30,31,32] [.s [] [],.s [] [],.s [] [],.s [] [],.s [] [],.s [] [],.s [] [],.s [] [],.s [] [],.s [] [],.s [] [],.s [] [],.s [] [],.s [] [],.s [] [],.s [] [],.s [] [],.s [] [],.s [] [],.s [] [],.s [] [],.s [] [],.s [] [],.s [] [],.s [] [],.s [] [],.s [] [],.s [] [],.s [] [],.s [] [],.s [] [],.s [1] [1],.s [] []] (.a)) (.a))))))
noncomputable def m39 : ((Int × (List (Int × Int × Int × Int)) × List (Int × Int × Int × Int × Int)) × Int × Int) → Option ((Int × Int × Int × Int) × Int) :=
  fun (x : (Int × List (Int × Int × Int × Int) × List (Int × Int × Int × Int × Int)) × Int × Int) => Option.bind (m32 (x.1.1, x.1.2.1, x.1.2.2)) fun (r : (Int ×
  List (Int × Int × Int)) × Int × List (Int × Int × Int)) => Option.bind (m12 (r.1.1, r.1.2)) fun (r_1 : List (List Int) × Int) => Option.bind (m12 (r.2.1,
  r.2.2)) fun (r_2 : List (List Int) × Int) => Option.bind (bif PE.notM (PE.orM (PE.notM (eqM r_1.2 (0 : Int))) (PE.notM (eqM r_2.2 (0 : Int)))) then idxM r_1.1
  x.2.1 else some []) fun (r_3 : List Int) => Option.bind (bif PE.notM (PE.orM (PE.notM (eqM r_1.2 (0 : Int))) (PE.notM (eqM r_2.2 (0 : Int)))) then idxM r_3
  x.2.2 else some (0 : Int)) fun (r_4 : Int) => bif PE.orM (PE.orM (PE.notM (eqM r_1.2 (0 : Int))) (PE.notM (eqM r_2.2 (0 : Int)))) (eqM r_4
  (1152921504606846976 : Int)) then some (((0 : Int), (0 : Int), (0 : Int), (0 : Int)), (100 : Int)) else Option.bind (idxM r_1.1 x.2.2) fun (r_5 : List Int) =>
  Option.bind (idxM r_5 x.2.1) fun (r_6 : Int) => Option.bind (idxM r_1.1 x.2.1) fun (r_7 : List Int) => Option.bind (idxM r_7 x.2.2) fun (r_8 : Int) =>
  Option.bind (idxM r_2.1 x.2.2) fun (r_9 : List Int) => Option.bind (idxM r_9 x.2.1) fun (r_10 : Int) => Option.bind (idxM r_2.1 x.2.1) fun (r_11 : List Int)
  => Option.bind (idxM r_11 x.2.2) fun (r : Int) => some ((IntKind.wrap IntKind.i64 (negM r_6), r_8, IntKind.wrap IntKind.i64 (negM r_10), r), (0 : Int))
theorem c39 : SpecOK Try.prog 39 ⟨as39, rs39, m39⟩ :=
  fnM_ok (own := []) (an := an39) (n := 400) tabs12OK (F := OPS) OPS_sound OPS_nice (f := 39) (fn := Try.f39) (code := Try.f39.body.getD .skip) (by kernel_rfl) (by kernel_rfl) (by kernel_rfl) fun x => by kernel_rfl
noncomputable def tabs39 : Tabs := Tabs.add tabs12 39 ⟨as39, rs39, m39⟩
theorem tabs39OK : TabOK Try.prog tabs39 := TabOK.add tabs12OK c39 Try.call39

/-! putlog/network.Box -/
def as14 : List Ty := [(.pair tI (.pair (.list (.pair tI (.pair tI (.pair tI tI)))) (.list (.pair tI (.pair tI (.pair tI (.pair tI tI))))))), tI]
def rs14 : List Ty := [(.pair tI (.pair tI (.pair tI tI))), tI]
noncomputable def an14 : Ann := .a
noncomputable def m14 : ((Int × (List (Int × Int × Int × Int)) × List (Int × Int × Int × Int × Int)) × Int) → Option ((Int × Int × Int × Int) × Int) :=
  fun (x : (Int × List (Int × Int × Int × Int) × List (Int × Int × Int × Int × Int)) × Int) => Option.bind (m18 (x.1.1, x.1.2.1, x.1.2.2)) fun (r : Bool) =>
  Option.bind (bif PE.notM (PE.notM r) then m38 (x.2, (0 : Int), IntKind.wrap IntKind.i64 (x.1.1 - (1 : Int))) else some false) fun (r_1 : Bool) => bif PE.orM
  (PE.notM r) (PE.notM r_1) then some (((0 : Int), (0 : Int), (0 : Int), (0 : Int)), (100 : Int)) else Option.bind (m39 ((x.1.1, x.1.2.1, x.1.2.2), x.1.1, x.2))
  fun (r : (Int × Int × Int × Int) × Int) => some ((r.1.1, r.1.2.1, r.1.2.2.1, r.1.2.2.2), r.2)
theorem c14 : SpecOK Try.prog 14 ⟨as14, rs14, m14⟩ :=
  fnM_ok (own := []) (an := an14) (n := 400) tabs39OK (F := OPS) OPS_sound OPS_nice (f := 14) (fn := Try.f14) (code := Try.f14.body.getD .skip) (by kernel_rfl) (by kernel_rfl) (by kernel_rfl) fun x => by kernel_rfl
noncomputable def tabs14 : Tabs := Tabs.add tabs39 14 ⟨as14, rs14, m14⟩
theorem tabs14OK : TabOK Try.prog tabs14 := TabOK.add tabs39OK c14 Try.call14

/-! putlog/network.Apart -/
def as22 : List Ty := [(.pair tI (.pair (.list (.pair tI (.pair tI (.pair tI tI)))) (.list (.pair tI (.pair tI (.pair tI (.pair tI tI))))))), tI, tI]
def rs22 : List Ty := [(.pair tI (.pair tI (.pair tI tI))), tI]
noncomputable def an22 : Ann := .a
noncomputable def m22 : ((Int × (List (Int × Int × Int × Int)) × List (Int × Int × Int × Int × Int)) × Int × Int) → Option ((Int × Int × Int × Int) × Int) :=
  fun (x : (Int × List (Int × Int × Int × Int) × List (Int × Int × Int × Int × Int)) × Int × Int) => Option.bind (m18 (x.1.1, x.1.2.1, x.1.2.2)) fun (r : Bool) =>
  Option.bind (bif PE.notM (PE.notM r) then m38 (x.2.1, (0 : Int), IntKind.wrap IntKind.i64 (x.1.1 - (1 : Int))) else some false) fun (r_1 : Bool) =>
  Option.bind (bif PE.notM (PE.orM (PE.notM r) (PE.notM r_1)) then m38 (x.2.2, (0 : Int), IntKind.wrap IntKind.i64 (x.1.1 - (1 : Int))) else some false) fun
  (r_2 : Bool) => bif PE.orM (PE.orM (PE.notM r) (PE.notM r_1)) (PE.notM r_2) then some (((0 : Int), (0 : Int), (0 : Int), (0 : Int)), (100 : Int)) else
  Option.bind (m39 ((x.1.1, x.1.2.1, x.1.2.2), x.2.1, x.2.2)) fun (r : (Int × Int × Int × Int) × Int) => some ((r.1.1, r.1.2.1, r.1.2.2.1, r.1.2.2.2), r.2)
theorem c22 : SpecOK Try.prog 22 ⟨as22, rs22, m22⟩ :=
  fnM_ok (own := []) (an := an22) (n := 400) tabs14OK (F := OPS) OPS_sound OPS_nice (f := 22) (fn := Try.f22) (code := Try.f22.body.getD .skip) (by kernel_rfl) (by kernel_rfl) (by kernel_rfl) fun x => by kernel_rfl
noncomputable def tabs22 : Tabs := Tabs.add tabs14 22 ⟨as22, rs22, m22⟩
theorem tabs22OK : TabOK Try.prog tabs22 := TabOK.add tabs14OK c22 Try.call22

/-! putlog/network.gcd -/
def as52 : List Ty := [tI, tI]
def rs52 : List Ty := [tI]
noncomputable def an52 : Ann := .seq (.a) (.seq (.block (.loop ⟨[(0,.r (.c (.d (.d tI)))),(1,.r (.c (.d (.d tI))))],[5,6,7,8,9,10],[],[]⟩ [(.exit 0,⟨[(0,.r (.c (.d (.d tI))))],[1,5,6,7,8,9,10],[],[]⟩)] (.seq (.a) (.block (.reg [0,0,0,6,3,31] [0,1,2,3,4,5] [.s [] [],.s [] [],.s [] [],.s [] [],.s [] [],.s [] []] (.a)))))) (.a))
noncomputable def m52 : (Int × Int) → Option (Int) :=
  fun (x : Int × Int) => Option.bind (loopM (fun (s : Int × Int) => bif PE.notM (eqM s.2 (0 : Int)) then Option.bind (remM s.1 s.2) fun (r : Int) => some (Sum.inl
  (s.2, r)) else some (Sum.inr s.1)) (x.1, x.2)) fun (o : Int) => some (max o (IntKind.wrap IntKind.i64 (negM o)))
theorem c52 : SpecOK Try.prog 52 ⟨as52, rs52, m52⟩ :=
  fnM_ok (own := []) (an := an52) (n := 400) tabs22OK (F := OPS) OPS_sound OPS_nice (f := 52) (fn := Try.f52) (code := Try.f52.body.getD .skip) (by kernel_rfl) (by kernel_rfl) (by kernel_rfl) fun x => by kernel_rfl
noncomputable def tabs52 : Tabs := Tabs.add tabs22 52 ⟨as52, rs52, m52⟩
theorem tabs52OK : TabOK Try.prog tabs52 := TabOK.add tabs22OK c52 Try.call52

/-! putlog/network.Least -/
def as25 : List Ty := [(.pair tI (.pair (.list (.pair tI (.pair tI (.pair tI tI)))) (.list (.pair tI (.pair tI (.pair tI (.pair tI tI)))))))]
def rs25 : List Ty := [(.pair (.list tI) (.pair (.list tI) tI)), tI]
noncomputable def an25 : Ann := .seq (.a) (.seq (.a) (.seq (.reg [] [] [.s [0] [],.r,.s [] []] (.call [] [] (.seq (.a) (.seq (.a) (.seq (.a) (.seq (.seq (.reg [] [] [.s [2] [],.r] (.call [] [] (.seq (.a) (.a)) (.a))) (.block (.call [] [] (.seq (.seq (.a) (.block (.loop ⟨[(10,.r (.c (.d (.d tI))))],[4,11,12,13,14,15,16,17,18,19,20,21,22,23,24,25,26,27,28,29],[(3,.flat tI),(6,.lp .ready)],[]⟩ [(.exit 0,⟨[],[4,10,11,12,13,14,15,16,17,18,19,20,21,22,23,24,25,26,27,28,29],[(3,.flat tI),(6,.lp .ready)],[]⟩)] (.seq (.a) (.seq (.a) (.seq (.block (.seq (.a) (.seq (.reg [] [] [.s [] [],.s [] [],.s [7] [],.s [] [],.s [7] [],.s [] [],.s [] [],.s [5] [],.s [] [],.s [7] [],.s [] [],.s [7] [],.s [] [],.r,.s [] []] (.call [] [] (.seq (.a) (.block (.seq (.reg [] [] [.s [4] [],.s [] [],.s [8] [],.s [] [],.s [8] [],.s [] [],.s [8] [],.r] (.call [] [(.norm,⟨[(17,.t [])],[],[(3,.flat tI)],[]⟩)] (.seq (.a) (.seq (.a) (.seq (.reg [0,0,1,7,15,31,1,127,255] [0,1,2,3,4,5,6,7,8] [.s [] [],.s [] [],.s [3] [],.s [3] [],.s [3] [],.s [] [],.s [3] [],.s [3] [],.s [3] [3]] (.a)) (.seq (.reg [0,1,3,7,0,16,63,1,255,511] [0,1,2,3,4,5,6,7,8,9] [.s [] [],.s [3] [],.s [3] [],.s [3] [],.s [] [],.s [9] [],.s [] [],.s [3] [],.s [3] [],.s [3] [3]] (.a)) (.seq (.reg [0,1,3,7,0,16,63,1,255,511] [0,1,2,3,4,5,6,7,8,9] [.s [] [],.s [3] [],.s [3] [],.s [3] [],.s [] [],.s [9] [],.s [] [],.s [3] [],.s [3] [],.s [3] [3]] (.a)) (.seq (.a) (.cond (.reg [0,0,1,7,15,31,1,127,255] [0,1,2,3,4,5,6,7,8] [.s [] [],.s [] [],.s [3] [],.s [3] [],.s [3] [],.s [] [],.s [3] [],.s [3] [],.s [3] [3]] (.a)) (.a)))))))) (.a))) (.reg [] [] [.s [4] [],.s [] [],.s [8] [],.s [] [],.s [8] [],.s [] [],.s [] [],.s [8] [],.s [] [],.s [] [],.s [] [],.s [8] [],.s [] [],.s [] [],.r] (.call [] [(.norm,⟨[(32,.t [])],[],[(3,.flat tI)],[]⟩)] (.seq (.a) (.seq (.a) (.seq (.reg [0,0,1,7,15,31,1,127,255] [0,1,2,3,4,5,6,7,8] [.s [] [],.s [] [],.s [3] [],.s [3] [],.s [3] [],.s [] [],.s [3] [],.s [3] [],.s [3] [3]] (.a)) (.seq (.reg [0,1,3,7,0,16,63,1,255,511] [0,1,2,3,4,5,6,7,8,9] [.s [] [],.s [3] [],.s [3] [],.s [3] [],.s [] [],.s [9] [],.s [] [],.s [3] [],.s [3] [],.s [3] [3]] (.a)) (.seq (.reg [0,1,3,7,0,16,63,1,255,511] [0,1,2,3,4,5,6,7,8,9] [.s [] [],.s [3] [],.s [3] [],.s [3] [],.s [] [],.s [9] [],.s [] [],.s [3] [],.s [3] [],.s [3] [3]] (.a)) (.seq (.a) (.cond (.reg [0,0,1,7,15,31,1,127,255] [0,1,2,3,4,5,6,7,8] [.s [] [],.s [] [],.s [3] [],.s [3] [],.s [3] [],.s [] [],.s [3] [],.s [3] [],.s [3] [3]] (.a)) (.a)))))))) (.a)))))) (.a))) (.a)))) (.a))))))) (.seq (.a) (.block (.loop ⟨[(33,.r (.c (.d (.d tI))))],[6,34,35,36,37,38,39,40,41,42,43,44,45,46,47,48,49,50,51,52],[(3,.flat tI),(6,.lp .ready)],[]⟩ [(.exit 2,⟨[],[6,33,34,35,36,37,38,39,40,41,42,43,44,45,46,47,48,49,50,51,52],[(3,.flat tI),(6,.lp .ready)],[]⟩)] (.seq (.a) (.seq (.a) (.seq (.block (.seq (.a) (.seq (.reg [] [] [.s [] [],.s [] [],.s [7] [],.s [] [],.s [7] [],.s [] [],.s [] [],.s [7] [],.s [] [],.s [7] [],.s [] [],.s [7] [],.s [] [],.r,.s [] []] (.call [] [] (.seq (.a) (.block (.seq (.reg [] [] [.s [4] [],.s [] [],.s [8] [],.s [] [],.s [8] [],.s [] [],.s [8] [],.r] (.call [] [(.norm,⟨[(17,.t [])],[],[(3,.flat tI)],[]⟩)] (.seq (.a) (.seq (.a) (.seq (.reg [0,0,1,7,15,31,1,127,255] [0,1,2,3,4,5,6,7,8] [.s [] [],.s [] [],.s [3] [],.s [3] [],.s [3] [],.s [] [],.s [3] [],.s [3] [],.s [3] [3]] (.a)) (.seq (.reg [0,1,3,7,0,16,63,1,255,511] [0,1,2,3,4,5,6,7,8,9] [.s [] [],.s [3] [],.s [3] [],.s [3] [],.s [] [],.s [9] [],.s [] [],.s [3] [],.s [3] [],.s [3] [3]] (.a)) (.seq (.reg [0,1,3,7,0,16,63,1,255,511] [0,1,2,3,4,5,6,7,8,9] [.s [] [],.s [3] [],.s [3] [],.s [3] [],.s [] [],.s [9] [],.s [] [],.s [3] [],.s [3] [],.s [3] [3]] (.a)) (.seq (.a) (.cond (.reg [0,0,1,7,15,31,1,127,255] [0,1,2,3,4,5,6,7,8] [.s [] [],.s [] [],.s [3] [],.s [3] [],.s [3] [],.s [] [],.s [3] [],.s [3] [],.s [3] [3]] (.a)) (.a)))))))) (.a))) (.reg [] [] [.s [4] [],.s [] [],.s [8] [],.s [] [],.s [8] [],.s [] [],.s [] [],.s [8] [],.s [] [],.s [] [],.s [] [],.s [8] [],.s [] [],.s [] [],.r] (.call [] [(.norm,⟨[(32,.t [])],[],[(3,.flat tI)],[]⟩)] (.seq (.a) (.seq (.a) (.seq (.reg [0,0,1,7,15,31,1,127,255] [0,1,2,3,4,5,6,7,8] [.s [] [],.s [] [],.s [3] [],.s [3] [],.s [3] [],.s [] [],.s [3] [],.s [3] [],.s [3] [3]] (.a)) (.seq (.reg [0,1,3,7,0,16,63,1,255,511] [0,1,2,3,4,5,6,7,8,9] [.s [] [],.s [3] [],.s [3] [],.s [3] [],.s [] [],.s [9] [],.s [] [],.s [3] [],.s [3] [],.s [3] [3]] (.a)) (.seq (.reg [0,1,3,7,0,16,63,1,255,511] [0,1,2,3,4,5,6,7,8,9] [.s [] [],.s [3] [],.s [3] [],.s [3] [],.s [] [],.s [9] [],.s [] [],.s [3] [],.s [3] [],.s [3] [3]] (.a)) (.seq (.a) (.cond (.reg [0,0,1,7,15,31,1,127,255] [0,1,2,3,4,5,6,7,8] [.s [] [],.s [] [],.s [3] [],.s [3] [],.s [3] [],.s [] [],.s [3] [],.s [3] [],.s [3] [3]] (.a)) (.a)))))))) (.a)))))) (.a))) (.a)))) (.a)))))))) (.a)))) (.a))))) (.a))) (.seq (.reg [] [] [.s [] [],.s [] [],.s [0] [],.r,.s [] []] (.call [] [(.norm,⟨[(19,.r (.c (.d (.d tI))))],[],[(3,.flat tI)],[]⟩)] (.seq (.a) (.seq (.a) (.seq (.seq (.a) (.block (.loop ⟨[(5,.r (.c (.d (.d tI)))),(12,.r (.c (.d (.d tI))))],[6,7,8,9,10,13,14,15,16,17,18,19,20,21,22,23,24,25,26,27,28,29,30,31,32,33,34,35,36,37,38,39,40,41,42,43,44,45,46,47,48,49,50,51,52,53,54,55,56,57,58,59,60,61,62,63,64,65,66,67,68,69,70,71,72,73,74,75,76,77,78,79,80,81,82,83,84,85,86,87,88,89,90,91,92,93,94,95,96,97,98,99,100,101,102,103,104,105,106,107,108,109,110,111],[(3,.flat tI)],[]⟩ [(.exit 0,⟨[(5,.r (.c (.d (.d tI))))],[6,7,8,9,10,12,13,14,15,16,17,18,19,20,21,22,23,24,25,26,27,28,29,30,31,32,33,34,35,36,37,38,39,40,41,42,43,44,45,46,47,48,49,50,51,52,53,54,55,56,57,58,59,60,61,62,63,64,65,66,67,68,69,70,71,72,73,74,75,76,77,78,79,80,81,82,83,84,85,86,87,88,89,90,91,92,93,94,95,96,97,98,99,100,101,102,103,104,105,106,107,108,109,110,111],[(3,.flat tI)],[]⟩),(.ret,⟨[(4,.r (.c (.d (.d tI))))],[5,6,7,8,9,10,12,13,14,15,16,17,18,19,20,21,22,23,24,25,26,27,28,29,30,31,32,33,34,35,36,37,38,39,40,41,42,43,44,45,46,47,48,49,50,51,52,53,54,55,56,57,58,59,60,61,62,63,64,65,66,67,68,69,70,71,72,73,74,75,76,77,78,79,80,81,82,83,84,85,86,87,88,89,90,91,92,93,94,95,96,97,98,99,100,101,102,103,104,105,106,107,108,109,110,111],[(3,.flat tI)],[]⟩)] (.seq (.a) (.seq (.a) (.seq (.block (.seq (.a) (.seq (.a) (.seq (.block (.loop ⟨[(7,.r (.c (.d (.d tI))))],[16,17,18,19,20,21,22,23,24,25,26,27,28,29,30],[],[]⟩ [(.exit 2,⟨[(7,.r (.c (.d (.d tI))))],[16,17,18,19,20,21,22,23,24,25,26,27,28,29,30],[],[]⟩)] (.a))) (.seq (.a) (.seq (.reg [0,0,0,0,0,0,16,112,240,0,0,512,3584,7680,1,32755,65523,4,262143,524287] [0,1,2,3,4,5,6,7,8,9,10,11,12,13,14,15,16,17,18,19] [.s [] [],.s [] [],.s [] [],.s [] [],.s [] [],.s [] [],.s [] [],.s [3] [],.s [3] [],.s [] [],.s [] [],.s [] [],.s [3] [],.s [3] [],.s [] [],.s [3] [],.s [3] [3],.s [] [],.s [3] [],.s [3] [3]] (.a)) (.seq (.seq (.a) (.block (.loop ⟨[(53,.r (.c (.d (.d tI))))],[8,9,10,54,55,56,57,58,59,60,61,62,63,64,65,66,67,68,69,70,71,72,73,74,75,76,77,78,79,80,81,82,83,84,85,86,87,88,89,90,91,92,93,94,95,96,97,98,99,100,101,102,103],[(3,.flat tI)],[]⟩ [(.exit 4,⟨[],[8,9,10,53,54,55,56,57,58,59,60,61,62,63,64,65,66,67,68,69,70,71,72,73,74,75,76,77,78,79,80,81,82,83,84,85,86,87,88,89,90,91,92,93,94,95,96,97,98,99,100,101,102,103],[(3,.flat tI)],[]⟩)] (.seq (.a) (.seq (.a) (.seq (.join [(.norm,⟨[],[8,9,10,55,56,57,58,59,60,61,62,63,64,65,66,67,68,69,70,71,72,73,74,75,76,77,78,79,80,81,82,83,84,85,86,87,88,89,90,91,92,93,94,95,96,97,98,99,100,101,102],[(3,.flat tI)],[]⟩)] (.block (.seq (.a) (.seq (.a) (.seq (.a) (.seq (.a) (.block (.loop ⟨[(66,.r (.c (.d (.d tI))))],[10,67,68,69,70,71,72,73,74,75,76,77,78,79,80,81,82,83,84,85,86,87,88,89,90,91,92,93,94,95,96,97,98,99,100,101,102],[(3,.flat tI)],[]⟩ [(.exit 6,⟨[],[10,66,67,68,69,70,71,72,73,74,75,76,77,78,79,80,81,82,83,84,85,86,87,88,89,90,91,92,93,94,95,96,97,98,99,100,101,102],[(3,.flat tI)],[]⟩)] (.seq (.a) (.seq (.a) (.seq (.block (.seq (.a) (.reg [0,0,0,0,0,0,8,88,248,504,0,0,0,1024,11264,31744,64512,131064,0,0,0,0,524288,5767168,16252928,33030144,66846720,134217720,0,536870904,1,1073741827,4294967295,8589934591] [0,1,2,3,4,5,6,7,8,9,10,11,12,13,14,15,16,17,18,19,20,21,22,23,24,25,26,27,28,29,30,31,32,33] [.s [] [],.s [] [],.s [] [],.s [] [],.s [] [],.s [] [],.s [] [],.s [3] [],.s [3] [],.s [3] [],.s [] [],.s [] [],.s [] [],.s [] [],.s [3] [],.s [3] [],.s [3] [],.s [] [],.s [] [],.s [] [],.s [] [],.s [] [],.s [] [],.s [3] [],.s [3] [],.s [3] [],.s [] [],.s [] [],.s [] [],.s [] [],.s [] [],.s [3] [],.s [3] [],.s [3] [3]] (.a)))) (.a)))))))))))) (.a))))))) (.a)))))))) (.a))))))) (.a)))) (.a))) (.seq (.a) (.seq (.a) (.seq (.a) (.seq (.seq (.a) (.block (.loop ⟨[(7,.r (.c (.d (.d tI)))),(28,.r (.c (.d (.d tI))))],[8,29,30,31,32,33,34,35,36,37,38,39,40,41,42,43,44,45,46,47,48,49,50,51,52,53,54,55,56,57,58,59,60,61,62,63,64,65,66],[(7,.box [.h 8,.h 9,.d (.d tI)])],[.arr tI,.arr tI]⟩ [(.exit 0,⟨[(7,.r (.c (.d (.d tI))))],[8,28,29,30,31,32,33,34,35,36,37,38,39,40,41,42,43,44,45,46,47,48,49,50,51,52,53,54,55,56,57,58,59,60,61,62,63,64,65,66],[(7,.box [.h 8,.h 9,.d (.d tI)])],[.arr tI,.arr tI]⟩)] (.seq (.a) (.seq (.a) (.seq (.block (.seq (.a) (.seq (.reg [0,1,0,0,4,28,60,124,252,511,1023,2047] [0,1,2,3,4,5,6,7,8,9,10,11] [.s [] [],.s [7] [],.s [] [],.s [] [],.s [] [],.s [3] [],.s [3] [],.s [3] [],.s [] [],.s [8] [10,8],.s [] [],.s [7,10] [7]] (.a)) (.seq (.reg [0,1,0,0,4,28,60,124,252,511,1023,2047] [0,1,2,3,4,5,6,7,8,9,10,11] [.s [] [],.s [7] [],.s [] [],.s [] [],.s [] [],.s [3] [],.s [3] [],.s [3] [],.s [] [],.s [9] [11,9],.s [] [],.s [7,11] [7]] (.a)) (.reg [0,0,2,0,14,30,63,0,128,0,896,1920,4095,8191] [0,1,2,3,4,5,6,7,8,9,10,11,12,13] [.s [] [],.s [] [],.s [7] [],.s [] [],.s [10] [],.s [10] [],.s [] [],.s [] [],.s [7] [],.s [] [],.s [11] [],.s [11] [],.s [] [],.s [] []] (.a)))))) (.a))))))) (.seq (.join [(.norm,⟨[(7,.r (.c (.d (.d tI))))],[67,68,69,70],[],[]⟩)] (.a)) (.seq (.a) (.seq (.seq (.a) (.block (.loop ⟨[(78,.r (.c (.d (.d tI))))],[9,79,80,81,82,83,84,85,86,87,88,89,90,91,92,93,94,95,96,97],[(8,.arr tI),(9,.arr tI)],[]⟩ [(.exit 2,⟨[],[9,78,79,80,81,82,83,84,85,86,87,88,89,90,91,92,93,94,95,96,97],[(8,.arr tI),(9,.arr tI)],[]⟩)] (.a)))) (.a)))))))))))
noncomputable def m25 : (Int × (List (Int × Int × Int × Int)) × List (Int × Int × Int × Int × Int)) → Option ((List Int × List Int × Int) × Int) :=
  fun (x : Int × List (Int × Int × Int × Int) × List (Int × Int × Int × Int × Int)) => Option.bind (m18 (x.1, x.2.1, x.2.2)) fun (r : Bool) => bif PE.notM r then
  some (([], [], (0 : Int)), (100 : Int)) else Option.bind (loopM (fun (s : Int × List Int) => bif ltM s.1 (lenM x.2.1) then Option.bind (idxM x.2.1 s.1) fun
  (r_1 : Int × Int × Int × Int) => Option.bind (bif eqM r_1.1 x.1 then some s.2 else Option.bind (chkM r_1.1 ↑(nat_lit 8)) fun (r_2 : Unit) => Option.bind (chkM
  r_1.1 ↑(nat_lit 10)) fun (r_3 : Unit) => Option.bind (idxM s.2 (↑(nat_lit 0) + r_1.1 * ↑(nat_lit 10) + r_1.1 * ↑(nat_lit 1))) fun (r_4 : Int) => Option.bind
  (chkM r_1.1 ↑(nat_lit 8)) fun (r_5 : Unit) => Option.bind (chkM r_1.1 ↑(nat_lit 10)) fun (r_6 : Unit) => Option.bind (setM s.2 (↑(nat_lit 0) + r_1.1 *
  ↑(nat_lit 10) + r_1.1 * ↑(nat_lit 1)) fun (x : Int) => some (IntKind.wrap IntKind.i64 (r_4 + (1 : Int)))) fun (r_7 : List Int) => Option.bind (chkM r_1.1
  ↑(nat_lit 8)) fun (r_8 : Unit) => Option.bind (idxM r_7 (↑(nat_lit 0) + r_1.1 * ↑(nat_lit 10) + (8 : Int))) fun (r_9 : Int) => Option.bind (chkM r_1.1
  ↑(nat_lit 8)) fun (r_10 : Unit) => Option.bind (setM r_7 (↑(nat_lit 0) + r_1.1 * ↑(nat_lit 10) + (8 : Int)) fun (x : Int) => some (IntKind.wrap IntKind.i64
  (r_9 + r_1.2.1))) fun (r_11 : List Int) => Option.bind (chkM r_1.1 ↑(nat_lit 8)) fun (r_12 : Unit) => Option.bind (idxM r_11 (↑(nat_lit 0) + r_1.1 * ↑(nat_lit
  10) + (9 : Int))) fun (r_13 : Int) => Option.bind (chkM r_1.1 ↑(nat_lit 8)) fun (r_14 : Unit) => Option.bind (setM r_11 (↑(nat_lit 0) + r_1.1 * ↑(nat_lit 10)
  + (9 : Int)) fun (x : Int) => some (IntKind.wrap IntKind.i64 (r_13 + r_1.2.2.1))) fun (r_15 : List Int) => bif ltM x.1 x.1 then Option.bind (chkM r_1.1
  ↑(nat_lit 8)) fun (r_16 : Unit) => Option.bind (chkM x.1 ↑(nat_lit 10)) fun (r_17 : Unit) => Option.bind (idxM r_15 (↑(nat_lit 0) + r_1.1 * ↑(nat_lit 10) +
  x.1 * ↑(nat_lit 1))) fun (r_18 : Int) => Option.bind (chkM r_1.1 ↑(nat_lit 8)) fun (r_19 : Unit) => Option.bind (chkM x.1 ↑(nat_lit 10)) fun (r_20 : Unit) =>
  Option.bind (setM r_15 (↑(nat_lit 0) + r_1.1 * ↑(nat_lit 10) + x.1 * ↑(nat_lit 1)) fun (x : Int) => some (IntKind.wrap IntKind.i64 (r_18 - (1 : Int)))) fun (r
  : List Int) => some r else some r_15) fun (ov : List Int) => Option.bind (bif eqM x.1 x.1 then some ov else Option.bind (chkM x.1 ↑(nat_lit 8)) fun (r_2 :
  Unit) => Option.bind (chkM x.1 ↑(nat_lit 10)) fun (r_3 : Unit) => Option.bind (idxM ov (↑(nat_lit 0) + x.1 * ↑(nat_lit 10) + x.1 * ↑(nat_lit 1))) fun (r_4 :
  Int) => Option.bind (chkM x.1 ↑(nat_lit 8)) fun (r_5 : Unit) => Option.bind (chkM x.1 ↑(nat_lit 10)) fun (r_6 : Unit) => Option.bind (setM ov (↑(nat_lit 0) +
  x.1 * ↑(nat_lit 10) + x.1 * ↑(nat_lit 1)) fun (x : Int) => some (IntKind.wrap IntKind.i64 (r_4 + (1 : Int)))) fun (r_7 : List Int) => Option.bind (chkM x.1
  ↑(nat_lit 8)) fun (r_8 : Unit) => Option.bind (idxM r_7 (↑(nat_lit 0) + x.1 * ↑(nat_lit 10) + (8 : Int))) fun (r_9 : Int) => Option.bind (chkM x.1 ↑(nat_lit
  8)) fun (r_10 : Unit) => Option.bind (setM r_7 (↑(nat_lit 0) + x.1 * ↑(nat_lit 10) + (8 : Int)) fun (x : Int) => some (IntKind.wrap IntKind.i64 (r_9 +
  IntKind.wrap IntKind.i64 (negM r_1.2.1)))) fun (r_11 : List Int) => Option.bind (chkM x.1 ↑(nat_lit 8)) fun (r_12 : Unit) => Option.bind (idxM r_11 (↑(nat_lit
  0) + x.1 * ↑(nat_lit 10) + (9 : Int))) fun (r_13 : Int) => Option.bind (chkM x.1 ↑(nat_lit 8)) fun (r_14 : Unit) => Option.bind (setM r_11 (↑(nat_lit 0) + x.1
  * ↑(nat_lit 10) + (9 : Int)) fun (x : Int) => some (IntKind.wrap IntKind.i64 (r_13 + IntKind.wrap IntKind.i64 (negM r_1.2.2.1)))) fun (r_15 : List Int) => bif
  ltM r_1.1 x.1 then Option.bind (chkM x.1 ↑(nat_lit 8)) fun (r_16 : Unit) => Option.bind (chkM r_1.1 ↑(nat_lit 10)) fun (r_17 : Unit) => Option.bind (idxM r_15
  (↑(nat_lit 0) + x.1 * ↑(nat_lit 10) + r_1.1 * ↑(nat_lit 1))) fun (r_18 : Int) => Option.bind (chkM x.1 ↑(nat_lit 8)) fun (r_19 : Unit) => Option.bind (chkM
  r_1.1 ↑(nat_lit 10)) fun (r_20 : Unit) => Option.bind (setM r_15 (↑(nat_lit 0) + x.1 * ↑(nat_lit 10) + r_1.1 * ↑(nat_lit 1)) fun (x : Int) => some
  (IntKind.wrap IntKind.i64 (r_18 - (1 : Int)))) fun (r : List Int) => some r else some r_15) fun (ov : List Int) => some (Sum.inl (IntKind.wrap IntKind.i64
  (s.1 + (1 : Int)), ov)) else some (Sum.inr s.2)) ((0 : Int), [(0 : Int), (0 : Int), (0 : Int), (0 : Int), (0 : Int), (0 : Int), (0 : Int), (0 : Int), (0 :
  Int), (0 : Int), (0 : Int), (0 : Int), (0 : Int), (0 : Int), (0 : Int), (0 : Int), (0 : Int), (0 : Int), (0 : Int), (0 : Int), (0 : Int), (0 : Int), (0 :
  Int), (0 : Int), (0 : Int), (0 : Int), (0 : Int), (0 : Int), (0 : Int), (0 : Int), (0 : Int), (0 : Int), (0 : Int), (0 : Int), (0 : Int), (0 : Int), (0 :
  Int), (0 : Int), (0 : Int), (0 : Int), (0 : Int), (0 : Int), (0 : Int), (0 : Int), (0 : Int), (0 : Int), (0 : Int), (0 : Int), (0 : Int), (0 : Int), (0 :
  Int), (0 : Int), (0 : Int), (0 : Int), (0 : Int), (0 : Int), (0 : Int), (0 : Int), (0 : Int), (0 : Int), (0 : Int), (0 : Int), (0 : Int), (0 : Int), (0 :
  Int), (0 : Int), (0 : Int), (0 : Int), (0 : Int), (0 : Int), (0 : Int), (0 : Int), (0 : Int), (0 : Int), (0 : Int), (0 : Int), (0 : Int), (0 : Int), (0 :
  Int), (0 : Int)])) fun (o : List Int) => Option.bind (loopM (fun (s : Int × List Int) => bif ltM s.1 (lenM x.2.2) then Option.bind (idxM x.2.2 s.1) fun (r_1 :
  Int × Int × Int × Int × Int) => Option.bind (bif eqM r_1.2.1 x.1 then some s.2 else Option.bind (chkM r_1.2.1 ↑(nat_lit 8)) fun (r_2 : Unit) => Option.bind
  (chkM r_1.2.1 ↑(nat_lit 10)) fun (r_3 : Unit) => Option.bind (idxM s.2 (↑(nat_lit 0) + r_1.2.1 * ↑(nat_lit 10) + r_1.2.1 * ↑(nat_lit 1))) fun (r_4 : Int) =>
  Option.bind (chkM r_1.2.1 ↑(nat_lit 8)) fun (r_5 : Unit) => Option.bind (chkM r_1.2.1 ↑(nat_lit 10)) fun (r_6 : Unit) => Option.bind (setM s.2 (↑(nat_lit 0) +
  r_1.2.1 * ↑(nat_lit 10) + r_1.2.1 * ↑(nat_lit 1)) fun (x : Int) => some (IntKind.wrap IntKind.i64 (r_4 + (1 : Int)))) fun (r_7 : List Int) => Option.bind
  (chkM r_1.2.1 ↑(nat_lit 8)) fun (r_8 : Unit) => Option.bind (idxM r_7 (↑(nat_lit 0) + r_1.2.1 * ↑(nat_lit 10) + (8 : Int))) fun (r_9 : Int) => Option.bind
  (chkM r_1.2.1 ↑(nat_lit 8)) fun (r_10 : Unit) => Option.bind (setM r_7 (↑(nat_lit 0) + r_1.2.1 * ↑(nat_lit 10) + (8 : Int)) fun (x : Int) => some
  (IntKind.wrap IntKind.i64 (r_9 + r_1.2.2.1))) fun (r_11 : List Int) => Option.bind (chkM r_1.2.1 ↑(nat_lit 8)) fun (r_12 : Unit) => Option.bind (idxM r_11
  (↑(nat_lit 0) + r_1.2.1 * ↑(nat_lit 10) + (9 : Int))) fun (r_13 : Int) => Option.bind (chkM r_1.2.1 ↑(nat_lit 8)) fun (r_14 : Unit) => Option.bind (setM r_11
  (↑(nat_lit 0) + r_1.2.1 * ↑(nat_lit 10) + (9 : Int)) fun (x : Int) => some (IntKind.wrap IntKind.i64 (r_13 + r_1.2.2.2.1))) fun (r_15 : List Int) => bif ltM
  r_1.1 x.1 then Option.bind (chkM r_1.2.1 ↑(nat_lit 8)) fun (r_16 : Unit) => Option.bind (chkM r_1.1 ↑(nat_lit 10)) fun (r_17 : Unit) => Option.bind (idxM r_15
  (↑(nat_lit 0) + r_1.2.1 * ↑(nat_lit 10) + r_1.1 * ↑(nat_lit 1))) fun (r_18 : Int) => Option.bind (chkM r_1.2.1 ↑(nat_lit 8)) fun (r_19 : Unit) => Option.bind
  (chkM r_1.1 ↑(nat_lit 10)) fun (r_20 : Unit) => Option.bind (setM r_15 (↑(nat_lit 0) + r_1.2.1 * ↑(nat_lit 10) + r_1.1 * ↑(nat_lit 1)) fun (x : Int) => some
  (IntKind.wrap IntKind.i64 (r_18 - (1 : Int)))) fun (r : List Int) => some r else some r_15) fun (ov : List Int) => Option.bind (bif eqM r_1.1 x.1 then some ov
  else Option.bind (chkM r_1.1 ↑(nat_lit 8)) fun (r_2 : Unit) => Option.bind (chkM r_1.1 ↑(nat_lit 10)) fun (r_3 : Unit) => Option.bind (idxM ov (↑(nat_lit 0) +
  r_1.1 * ↑(nat_lit 10) + r_1.1 * ↑(nat_lit 1))) fun (r_4 : Int) => Option.bind (chkM r_1.1 ↑(nat_lit 8)) fun (r_5 : Unit) => Option.bind (chkM r_1.1 ↑(nat_lit
  10)) fun (r_6 : Unit) => Option.bind (setM ov (↑(nat_lit 0) + r_1.1 * ↑(nat_lit 10) + r_1.1 * ↑(nat_lit 1)) fun (x : Int) => some (IntKind.wrap IntKind.i64
  (r_4 + (1 : Int)))) fun (r_7 : List Int) => Option.bind (chkM r_1.1 ↑(nat_lit 8)) fun (r_8 : Unit) => Option.bind (idxM r_7 (↑(nat_lit 0) + r_1.1 * ↑(nat_lit
  10) + (8 : Int))) fun (r_9 : Int) => Option.bind (chkM r_1.1 ↑(nat_lit 8)) fun (r_10 : Unit) => Option.bind (setM r_7 (↑(nat_lit 0) + r_1.1 * ↑(nat_lit 10) +
  (8 : Int)) fun (x : Int) => some (IntKind.wrap IntKind.i64 (r_9 + IntKind.wrap IntKind.i64 (negM r_1.2.2.1)))) fun (r_11 : List Int) => Option.bind (chkM
  r_1.1 ↑(nat_lit 8)) fun (r_12 : Unit) => Option.bind (idxM r_11 (↑(nat_lit 0) + r_1.1 * ↑(nat_lit 10) + (9 : Int))) fun (r_13 : Int) => Option.bind (chkM
  r_1.1 ↑(nat_lit 8)) fun (r_14 : Unit) => Option.bind (setM r_11 (↑(nat_lit 0) + r_1.1 * ↑(nat_lit 10) + (9 : Int)) fun (x : Int) => some (IntKind.wrap
  IntKind.i64 (r_13 + IntKind.wrap IntKind.i64 (negM r_1.2.2.2.1)))) fun (r_15 : List Int) => bif ltM r_1.2.1 x.1 then Option.bind (chkM r_1.1 ↑(nat_lit 8)) fun
  (r_16 : Unit) => Option.bind (chkM r_1.2.1 ↑(nat_lit 10)) fun (r_17 : Unit) => Option.bind (idxM r_15 (↑(nat_lit 0) + r_1.1 * ↑(nat_lit 10) + r_1.2.1 *
  ↑(nat_lit 1))) fun (r_18 : Int) => Option.bind (chkM r_1.1 ↑(nat_lit 8)) fun (r_19 : Unit) => Option.bind (chkM r_1.2.1 ↑(nat_lit 10)) fun (r_20 : Unit) =>
  Option.bind (setM r_15 (↑(nat_lit 0) + r_1.1 * ↑(nat_lit 10) + r_1.2.1 * ↑(nat_lit 1)) fun (x : Int) => some (IntKind.wrap IntKind.i64 (r_18 - (1 : Int))))
  fun (r : List Int) => some r else some r_15) fun (ov : List Int) => some (Sum.inl (IntKind.wrap IntKind.i64 (s.1 + (1 : Int)), ov)) else some (Sum.inr s.2))
  ((0 : Int), o)) fun (o_1 : List Int) => Option.bind (Option.bind (loopM (fun (s : Int × Int × List Int) => bif ltM s.2.1 x.1 then Option.bind (loopM (fun (s_1
  : Int) => Option.bind (bif ltM s_1 x.1 then chkM s_1 ↑(nat_lit 8) else some ()) fun (r_1 : Unit) => Option.bind (bif ltM s_1 x.1 then chkM s.2.1 ↑(nat_lit 10)
  else some ()) fun (r_2 : Unit) => Option.bind (bif ltM s_1 x.1 then idxM s.2.2 (↑(nat_lit 0) + s_1 * ↑(nat_lit 10) + s.2.1 * ↑(nat_lit 1)) else some (0 :
  Int)) fun (r : Int) => bif PE.andM (ltM s_1 x.1) (eqM r (0 : Int)) then some (Sum.inl (IntKind.wrap IntKind.i64 (s_1 + (1 : Int)))) else some (Sum.inr s_1))
  s.2.1) fun (o_2 : Int) => bif eqM o_2 x.1 then some (Sum.inr (Sum.inr ((0 : Int), s.2.2))) else Option.bind (chkM s.2.1 ↑(nat_lit 8)) fun (r_1 : Unit) =>
  Option.bind (sliceM s.2.2 (↑(nat_lit 0) + s.2.1 * ↑(nat_lit 10)) (↑(nat_lit 0) + s.2.1 * ↑(nat_lit 10) + ↑(nat_lit 10))) fun (r_2 : List Int) => Option.bind
  (chkM o_2 ↑(nat_lit 8)) fun (r_3 : Unit) => Option.bind (sliceM s.2.2 (↑(nat_lit 0) + o_2 * ↑(nat_lit 10)) (↑(nat_lit 0) + o_2 * ↑(nat_lit 10) + ↑(nat_lit
  10))) fun (r_4 : List Int) => Option.bind (chkM o_2 ↑(nat_lit 8)) fun (r_5 : Unit) => Option.bind (putM s.2.2 (↑(nat_lit 0) + o_2 * ↑(nat_lit 10)) [nthD r_2
  (nat_lit 0) (0 : Int), nthD r_2 (nat_lit 1) (0 : Int), nthD r_2 (nat_lit 2) (0 : Int), nthD r_2 (nat_lit 3) (0 : Int), nthD r_2 (nat_lit 4) (0 : Int), nthD
  r_2 (nat_lit 5) (0 : Int), nthD r_2 (nat_lit 6) (0 : Int), nthD r_2 (nat_lit 7) (0 : Int), nthD r_2 (nat_lit 8) (0 : Int), nthD r_2 (nat_lit 9) (0 : Int)])
  fun (r_6 : List Int) => Option.bind (chkM s.2.1 ↑(nat_lit 8)) fun (r_7 : Unit) => Option.bind (putM r_6 (↑(nat_lit 0) + s.2.1 * ↑(nat_lit 10)) [nthD r_4
  (nat_lit 0) (0 : Int), nthD r_4 (nat_lit 1) (0 : Int), nthD r_4 (nat_lit 2) (0 : Int), nthD r_4 (nat_lit 3) (0 : Int), nthD r_4 (nat_lit 4) (0 : Int), nthD
  r_4 (nat_lit 5) (0 : Int), nthD r_4 (nat_lit 6) (0 : Int), nthD r_4 (nat_lit 7) (0 : Int), nthD r_4 (nat_lit 8) (0 : Int), nthD r_4 (nat_lit 9) (0 : Int)])
  fun (r_8 : List Int) => Option.bind (loopM (fun (s_1 : Int × List Int) => bif ltM s_1.1 x.1 then Option.bind (bif eqM s_1.1 s.2.1 then some s_1.2 else
  Option.bind (chkM s_1.1 ↑(nat_lit 8)) fun (r_9 : Unit) => Option.bind (chkM s.2.1 ↑(nat_lit 10)) fun (r_10 : Unit) => Option.bind (idxM s_1.2 (↑(nat_lit 0) +
  s_1.1 * ↑(nat_lit 10) + s.2.1 * ↑(nat_lit 1))) fun (r_11 : Int) => Option.bind (loopM (fun (s_2 : Int × List Int) => bif ltM s_2.1 (10 : Int) then Option.bind
  (chkM s_1.1 ↑(nat_lit 8)) fun (r_12 : Unit) => Option.bind (chkM s_2.1 ↑(nat_lit 10)) fun (r_13 : Unit) => Option.bind (idxM s_2.2 (↑(nat_lit 0) + s_1.1 *
  ↑(nat_lit 10) + s_2.1 * ↑(nat_lit 1))) fun (r_14 : Int) => Option.bind (chkM s.2.1 ↑(nat_lit 8)) fun (r_15 : Unit) => Option.bind (chkM s.2.1 ↑(nat_lit 10))
  fun (r_16 : Unit) => Option.bind (idxM s_2.2 (↑(nat_lit 0) + s.2.1 * ↑(nat_lit 10) + s.2.1 * ↑(nat_lit 1))) fun (r_17 : Int) => Option.bind (chkM s.2.1
  ↑(nat_lit 8)) fun (r_18 : Unit) => Option.bind (chkM s_2.1 ↑(nat_lit 10)) fun (r_19 : Unit) => Option.bind (idxM s_2.2 (↑(nat_lit 0) + s.2.1 * ↑(nat_lit 10) +
  s_2.1 * ↑(nat_lit 1))) fun (r_20 : Int) => Option.bind (divM IntKind.i64 (IntKind.wrap IntKind.i64 (IntKind.wrap IntKind.i64 (r_14 * r_17) - IntKind.wrap
  IntKind.i64 (r_11 * r_20))) s.1) fun (r_21 : Int) => Option.bind (chkM s_1.1 ↑(nat_lit 8)) fun (r_22 : Unit) => Option.bind (chkM s_2.1 ↑(nat_lit 10)) fun
  (r_23 : Unit) => Option.bind (setM s_2.2 (↑(nat_lit 0) + s_1.1 * ↑(nat_lit 10) + s_2.1 * ↑(nat_lit 1)) fun (x : Int) => some r_21) fun (r : List Int) => some
  (Sum.inl (IntKind.wrap IntKind.i64 (s_2.1 + (1 : Int)), r)) else some (Sum.inr s_2.2)) ((0 : Int), s_1.2)) fun (o : List Int) => some o) fun (o : List Int) =>
  some (Sum.inl (IntKind.wrap IntKind.i64 (s_1.1 + (1 : Int)), o)) else some (Sum.inr s_1.2)) ((0 : Int), r_8)) fun (o_3 : List Int) => Option.bind (chkM s.2.1
  ↑(nat_lit 8)) fun (r_9 : Unit) => Option.bind (chkM s.2.1 ↑(nat_lit 10)) fun (r_10 : Unit) => Option.bind (idxM o_3 (↑(nat_lit 0) + s.2.1 * ↑(nat_lit 10) +
  s.2.1 * ↑(nat_lit 1))) fun (r : Int) => some (Sum.inl (r, IntKind.wrap IntKind.i64 (s.2.1 + (1 : Int)), o_3)) else some (Sum.inr (Sum.inl (s.1, s.2.2)))) ((1
  : Int), (0 : Int), o_1)) fun (o : Int × List Int ⊕ Int × List Int) => Sum.elim (fun (t : Int × List Int) => some (t.1, t.2)) (fun (t : Int × List Int) => some
  (t.1, t.2)) o) fun (ov : Int × List Int) => bif eqM ov.1 (0 : Int) then some (([], [], (0 : Int)), (100 : Int)) else Option.bind (loopM (fun (s : Int × Int ×
  Int × List Int × List Int) => bif ltM s.2.1 x.1 then Option.bind (chkM s.2.1 ↑(nat_lit 8)) fun (r_1 : Unit) => Option.bind (idxM ov.2 (↑(nat_lit 0) + s.2.1 *
  ↑(nat_lit 10) + (8 : Int))) fun (r_2 : Int) => Option.bind (appM (nat_lit 8) s.2.2.2.1 [r_2]) fun (r_3 : List Int) => Option.bind (chkM s.2.1 ↑(nat_lit 8))
  fun (r_4 : Unit) => Option.bind (idxM ov.2 (↑(nat_lit 0) + s.2.1 * ↑(nat_lit 10) + (9 : Int))) fun (r_5 : Int) => Option.bind (appM (nat_lit 8) s.2.2.2.2
  [r_5]) fun (r_6 : List Int) => Option.bind (chkM s.2.1 (lenM r_3)) fun (r_7 : Unit) => Option.bind (idxM r_3 s.2.1) fun (r_8 : Int) => Option.bind (m52 (s.1,
  r_8)) fun (r_9 : Int) => Option.bind (chkM s.2.1 (lenM r_6)) fun (r_10 : Unit) => Option.bind (idxM r_6 s.2.1) fun (r_11 : Int) => Option.bind (m52 (r_9,
  r_11)) fun (r : Int) => some (Sum.inl (r, IntKind.wrap IntKind.i64 (s.2.1 + (1 : Int)), s.2.2.1, r_3, r_6)) else some (Sum.inr (s.1, s.2.2.1, s.2.2.2.1,
  s.2.2.2.2))) (ov.1, (0 : Int), ov.1, [], [])) fun (o_2 : Int × Int × List Int × List Int) => Option.bind (bif ltM ov.1 (0 : Int) then some (IntKind.wrap
  IntKind.i64 (negM o_2.1)) else some o_2.1) fun (o_3 : Int) => Option.bind (divM IntKind.i64 o_2.2.1 o_3) fun (r_1 : Int) => Option.bind (loopM (fun (s : Int ×
  List Int × List Int) => bif ltM s.1 x.1 then Option.bind (chkM s.1 (lenM s.2.1)) fun (r_2 : Unit) => Option.bind (idxM s.2.1 s.1) fun (r_3 : Int) =>
  Option.bind (divM IntKind.i64 r_3 o_3) fun (r_4 : Int) => Option.bind (chkM s.1 (lenM s.2.1)) fun (r_5 : Unit) => Option.bind (setM s.2.1 s.1 fun (x : Int) =>
  some r_4) fun (r_6 : List Int) => Option.bind (chkM s.1 (lenM s.2.2)) fun (r_7 : Unit) => Option.bind (idxM s.2.2 s.1) fun (r_8 : Int) => Option.bind (divM
  IntKind.i64 r_8 o_3) fun (r_9 : Int) => Option.bind (chkM s.1 (lenM s.2.2)) fun (r_10 : Unit) => Option.bind (setM s.2.2 s.1 fun (x : Int) => some r_9) fun (r
  : List Int) => some (Sum.inl (IntKind.wrap IntKind.i64 (s.1 + (1 : Int)), r_6, r)) else some (Sum.inr (s.2.1, s.2.2))) ((0 : Int), o_2.2.2.1, o_2.2.2.2)) fun
  (o : List Int × List Int) => some ((o.1, o.2, r_1), (0 : Int))
theorem c25 : SpecOK Try.prog 25 ⟨as25, rs25, m25⟩ :=
  fnM_ok (own := []) (an := an25) (n := 400) tabs52OK (F := OPS) OPS_sound OPS_nice (f := 25) (fn := Try.f25) (code := Try.f25.body.getD .skip) (by kernel_rfl) (by kernel_rfl) (by kernel_rfl) fun x => by kernel_rfl
noncomputable def tabs25 : Tabs := Tabs.add tabs52 25 ⟨as25, rs25, m25⟩
theorem tabs25OK : TabOK Try.prog tabs25 := TabOK.add tabs52OK c25 Try.call25
end Go.Proofs.Ytklddmmnggcffaa
/-
  Models of the functions of this seat, and that the functions compute them (printed by gen_models.py). No conditions.
-/
namespace Go.Proofs.Ytklddmmnggcffaa
open Go Go.Abs Go.PE Go.Proofs
set_option linter.unusedVariables false
set_option maxRecDepth 100000

/-! putlog/between.walks$1$1 -/
def as72 : List Ty := [tI, tI]
def rs72 : List Ty := [tI]
noncomputable def an72 : Ann := .a
noncomputable def m72 : (Int × Int) → Option (Int) :=
  fun (x : Int × Int) => some (1152921504606846976 : Int)
theorem c72 : SpecOK Try.prog 72 ⟨as72, rs72, m72⟩ :=
  fnM_ok (own := []) (an := an72) (n := 400) tabs25OK (F := OPS) OPS_sound OPS_nice (f := 72) (fn := Try.f72) (code := Try.f72.body.getD .skip) (by kernel_rfl) (by kernel_rfl) (by kernel_rfl) fun x => by kernel_rfl
noncomputable def tabs72 : Tabs := Tabs.add tabs25 72 ⟨as72, rs72, m72⟩
theorem tabs72OK : TabOK Try.prog tabs72 := TabOK.add tabs25OK c72 Try.call72

/-! putlog/between.chain -/
def as57 : List Ty := [(.pair tI (.list (.pair tI (.pair tI tI)))), (.list (.list (.list tI))), tI, tI, tI, tI]
def rs57 : List Ty := [(.list tI)]
noncomputable def an57 : Ann := .seq (.a) (.seq (.a) (.seq (.block (.loop ⟨[(13,.r (.c (.h 6)))],[14,15,16,17,18,19,20,21,22,23,24,25,26,27,28,29,30,31,32,33,34,35,36,37,38,39,40],[(2,.box [.d (.d tI)]),(4,.box [.d (.d tI)]),(5,.box [.d (.d tI)])],[.arr tI]⟩ [(.exit 0,⟨[(13,.r (.c (.h 6)))],[14,15,16,17,18,19,20,21,22,23,24,25,26,27,28,29,30,31,32,33,34,35,36,37,38,39,40],[(2,.box [.d (.d tI)]),(4,.box [.d (.d tI)]),(5,.box [.d (.d tI)])],[.arr tI]⟩)] (.seq (.a) (.seq (.block (.seq (.reg [] [] [.s [] [],.s [0] [],.s [] [],.r,.s [] []] (.call [] [(.norm,⟨[(22,.r (.c (.d (.d tI))))],[],[],[]⟩)] (.seq (.a) (.seq (.seq (.a) (.block (.loop ⟨[(8,.r (.c (.d (.d tI))))],[5,9,10,11,12,13,14,15,16,18],[],[]⟩ [(.exit 0,⟨[],[5,8,9,10,11,12,13,14,15,16,18],[],[]⟩),(.ret,⟨[(4,.r (.c (.d (.d tI))))],[5,8,9,10,11,12,13,14,15,16,17,18],[],[]⟩)] (.seq (.a) (.seq (.a) (.seq (.block (.seq (.a) (.seq (.reg [] [] [.s [] [],.s [] [],.s [] [],.s [] [],.s [] [],.r] (.call [] [] (.seq (.a) (.seq (.reg [0,1,0,7,15,31,63,31,31,287,927,1951,31,4127,16287,32671,31,130975,262047,524287,31,2097151,4194303,8388607] [0,1,2,3,4,5,6,7,8,9,10,11,12,13,14,15,16,17,18,19,20,21,22,23] [.s [] [],.s [7] [],.s [2] [],.s [] [],.s [] [],.s [] [],.s [7] [],.s [1] [],.s [4] [],.s [] [],.s [] [],.s [] [],.s [] [],.s [7] [],.s [] [],.s [] [],.s [3] [],.s [] [],.s [] [],.s [] [],.s [5] [],.s [] [],.s [] [],.s [] []] (.a)) (.a))) (.a))) (.a)))) (.a))))))) (.a))) (.a))) (.seq (.reg [0,1,0,7,15,31,0,0,128,0,896,1920,3968,8128,63,32767] [0,1,2,3,4,5,6,7,8,9,10,11,12,13,14,15] [.s [] [],.s [0] [],.s [] [],.s [] [],.s [] [],.s [] [],.s [5] [],.s [] [],.s [0] [],.s [] [],.s [] [],.s [] [],.s [] [],.s [] [],.s [2] [2],.s [5] [5]] (.a)) (.a)))) (.a))))) (.a)))
noncomputable def m57 : ((Int × List (Int × Int × Int)) × List (List (List Int)) × Int × Int × Int × Int) → Option (List Int) :=
  fun (x : (Int × List (Int × Int × Int)) × List (List (List Int)) × Int × Int × Int × Int) => Option.bind (loopM (fun (s : Int × Int × Int × List Int) => bif ltM
  (0 : Int) s.2.1 then Option.bind (Option.bind (loopM (fun (s_1 : Int) => bif ltM s_1 (lenM x.1.2) then Option.bind (idxM x.1.2 s_1) fun (r : Int × Int × Int)
  => Option.bind (bif eqM r.1 s.1 then idxM x.2.1 (IntKind.wrap IntKind.i64 (s.2.1 - (1 : Int))) else some []) fun (r_1 : List (List Int)) => Option.bind (bif
  eqM r.1 s.1 then idxM r_1 r.2.1 else some []) fun (r_2 : List Int) => Option.bind (bif eqM r.1 s.1 then idxM r_2 x.2.2.2.1 else some (0 : Int)) fun (r_3 :
  Int) => Option.bind (bif eqM r.1 s.1 then m56 (r.2.2, r_3) else some (0 : Int)) fun (r_4 : Int) => bif PE.andM (eqM r.1 s.1) (leM r_4 s.2.2.1) then some
  (Sum.inr (Sum.inr s_1)) else some (Sum.inl (IntKind.wrap IntKind.i64 (s_1 + (1 : Int)))) else some (Sum.inr (Sum.inl ()))) (0 : Int)) fun (o : Unit ⊕ Int) =>
  Sum.elim (fun (t : Unit) => some (-1 : Int)) (fun (t : Int) => some t) o) fun (ov : Int) => Option.bind (idxM x.1.2 ov) fun (r : Int × Int × Int) =>
  Option.bind (idxM x.1.2 ov) fun (r_1 : Int × Int × Int) => Option.bind (appM (nat_lit 8) s.2.2.2 [ov]) fun (r_2 : List Int) => some (Sum.inl (r.2.1,
  IntKind.wrap IntKind.i64 (s.2.1 - (1 : Int)), IntKind.wrap IntKind.i64 (s.2.2.1 - r_1.2.2), r_2)) else some (Sum.inr (s.1, s.2.1, s.2.2.1, s.2.2.2)))
  (x.2.2.1, x.2.2.2.2.1, x.2.2.2.2.2, [])) fun (o : Int × Int × Int × List Int) => some o.2.2.2
theorem c57 : SpecOK Try.prog 57 ⟨as57, rs57, m57⟩ :=
  fnM_ok (own := []) (an := an57) (n := 400) tabs72OK (F := OPS) OPS_sound OPS_nice (f := 57) (fn := Try.f57) (code := Try.f57.body.getD .skip) (by kernel_rfl) (by kernel_rfl) (by kernel_rfl) fun x => by kernel_rfl
noncomputable def tabs57 : Tabs := Tabs.add tabs72 57 ⟨as57, rs57, m57⟩
theorem tabs57OK : TabOK Try.prog tabs57 := TabOK.add tabs72OK c57 Try.call57

/-! putlog/between.Cycle -/
def as33 : List Ty := [(.pair tI (.list (.pair tI (.pair tI tI))))]
def rs33 : List Ty := [(.list tI), .bool]
noncomputable def an33 : Ann := .seq (.a) (.seq (.a) (.seq (.a) (.seq (.a) (.seq (.seq (.reg [] [] [.s [0] [],.r] (.call [] [] (.seq (.a) (.a)) (.a))) (.block (.call [] [] (.seq (.a) (.block (.loop ⟨[(3,.r (.c (.d (.d (.list (.list tI))))))],[4,6,7,11,12,13,14,15,16,17,18,19,20,21,22,23,24,25,26,27,28,29,30,31,32,33,34,35,36,37,38,39,40,41,42,43,44,45,46,47,48,49,50,51,52,53,54,55,56,57,58],[(3,.box [.h 6]),(5,.lp .ready)],[.arr (.list (.list tI))]⟩ [(.exit 0,⟨[],[3,4,6,7,11,12,13,14,15,16,17,18,19,20,21,22,23,24,25,26,27,28,29,30,31,32,33,34,35,36,37,38,39,40,41,42,43,44,45,46,47,48,49,50,51,52,53,54,55,56,57,58],[(1,.box [.d (.d (.list tI))]),(2,.box [.d (.d .bool)]),(3,.box [.d (.d (.list (.list (.list tI))))]),(5,.lp (.done .ret))],[]⟩)] (.seq (.seq (.reg [] [] [.s [] [],.s [] [],.r] (.call [] [] (.seq (.a) (.block (.seq (.a) (.seq (.a) (.seq (.a) (.block (.loop ⟨[(33,.r (.c (.d (.d tI))))],[9,10,34,35,36,37,38,39,40,41,42,43,44,45,46,47,48,49,50,51,52,53,54,55,56,57,58,74],[],[]⟩ [(.exit 2,⟨[],[9,10,33,34,35,36,37,38,39,40,41,42,43,44,45,46,47,48,49,50,51,52,53,54,55,56,57,58,74],[],[]⟩),(.ret,⟨[],[9,10,33,34,35,36,37,38,39,40,41,42,43,44,45,46,47,48,49,50,51,52,53,54,55,56,57,58,59,60,61,62,63,64,65,66,67,68,69,70,71,72,73,74],[(1,.box [.d (.d (.list tI))]),(2,.box [.d (.d .bool)]),(7,.frz (.list (.list tI)))],[]⟩)] (.seq (.a) (.seq (.a) (.seq (.block (.seq (.a) (.seq (.reg [0,1,3,7,15,7,7,71,231,487,7,1031,4071,8167,7,16391,65511,131047,262143,524287,1048575] [0,1,2,3,4,5,6,7,8,9,10,11,12,13,14,15,16,17,18,19,20] [.s [] [],.s [] [],.s [] [],.s [] [],.s [8] [],.s [3] [],.s [] [],.s [] [],.s [7] [],.s [7] [],.s [] [],.s [8] [],.s [] [],.s [] [],.s [] [],.s [8] [],.s [] [],.s [] [],.s [] [],.s [] [],.s [] []] (.a)) (.a)))) (.a))))))))))) (.a))) (.a)) (.block (.seq (.reg [] [] [.s [] [],.s [4] [],.r,.s [] []] (.call [9] [] (.seq (.a) (.seq (.a) (.seq (.seq (.a) (.block (.loop ⟨[(11,.r (.c (.d (.d tI))))],[6,7,12,13,14,15,16,17,18,19,20,21,22,23,24,25,26,27,28,29,30,31,32],[(8,.tab tI 10),(9,.gone)],[.us]⟩ [(.exit 0,⟨[],[6,7,11,12,13,14,15,16,17,18,19,20,21,22,23,24,25,26,27,28,29,30,31,32],[(8,.tab tI 10),(9,.gone)],[.us]⟩)] (.seq (.a) (.seq (.a) (.seq (.block (.seq (.a) (.seq (.a) (.block (.loop ⟨[(15,.r (.c (.d (.d tI))))],[7,16,17,18,19,20,21,22,23,24,25,26,27,28,29,30,31],[(8,.tab tI 11),(10,.gone)],[.us]⟩ [(.exit 2,⟨[],[7,15,16,17,18,19,20,21,22,23,24,25,26,27,28,29,30,31],[(8,.tab tI 11),(10,.gone)],[.us]⟩)] (.seq (.a) (.seq (.a) (.seq (.block (.seq (.a) (.reg [0,0,0,0,12,28,0,0,0,448,960,2044,4095,8191] [0,1,2,3,4,5,6,7,8,9,10,11,12,13] [.s [] [],.s [] [],.s [] [],.s [] [],.s [8] [],.s [8] [],.s [] [],.s [] [],.s [] [],.s [] [],.s [] [],.s [8] [8],.s [8] [],.s [8,8] [8]] (.a)))) (.a))))))))) (.a))))))) (.a)))) (.a))) (.seq (.seq (.a) (.block (.loop ⟨[(20,.r (.c (.d (.d tI))))],[6,7,21,22,23,24,25,26,27,28,29,30,31,32,33,34,35,36,37,38,39,40,41,42,43,44,45,46,47,48,49,50,51,52,53,54,55,56,57],[(8,.tab tI 10)],[]⟩ [(.exit 2,⟨[],[6,7,20,21,22,23,24,25,26,27,28,29,30,31,32,33,34,35,36,37,38,39,40,41,42,43,44,45,46,47,48,49,50,51,52,53,54,55,56,57],[(8,.tab tI 10)],[]⟩)] (.seq (.a) (.seq (.a) (.seq (.block (.seq (.a) (.seq (.a) (.block (.loop ⟨[(26,.r (.c (.d (.d tI))))],[7,27,28,29,30,31,32,33,34,35,36,37,38,39,40,41,42,43,44,45,46,47,48,49,50,51,52,53,54,55,56],[(8,.tab tI 10)],[]⟩ [(.exit 4,⟨[],[7,26,27,28,29,30,31,32,33,34,35,36,37,38,39,40,41,42,43,44,45,46,47,48,49,50,51,52,53,54,55,56],[(8,.tab tI 10)],[]⟩)] (.seq (.a) (.seq (.a) (.seq (.block (.seq (.a) (.reg [0,0,3,7,0,16,0,0,192,448,0,1024,4032,8128,0,0,49152,114688,0,262144,1032192,2080768,0,4194304,16760832,33554368,67108863,134217727] [0,1,2,3,4,5,6,7,8,9,10,11,12,13,14,15,16,17,18,19,20,21,22,23,24,25,26,27] [.s [] [],.s [] [],.s [8] [],.s [8] [],.s [] [],.s [11] [],.s [] [],.s [] [],.s [8] [],.s [8] [],.s [] [],.s [11] [],.s [8] [],.s [8] [],.s [] [],.s [] [],.s [] [],.s [] [],.s [] [],.s [11] [],.s [] [],.s [] [],.s [] [],.s [11] [],.s [] [],.s [] [],.s [8] [],.s [8] [8]] (.a)))) (.a))))))))) (.a))))))) (.a)))))))) (.a)))) (.a)))))
noncomputable def m33 : (Int × List (Int × Int × Int)) → Option (List Int × Bool) :=
  fun (x : Int × List (Int × Int × Int)) => Option.bind (m36 (x.1, x.2)) fun (r : Bool) => bif PE.notM r then some ([], false) else Option.bind (m37 (x.1, x.2))
  fun (r_1 : List (List Int) × Bool) => bif r_1.2 then some ([], false) else Option.bind (m64 x.1) fun (r_2 : List (List Int)) => Option.bind (loopM (fun (s :
  List (List Int) × List (List (List Int))) => Option.bind (appM (nat_lit 24) s.2 [s.1]) fun (r_3 : List (List (List Int))) => Option.bind (loopM (fun (s_1 :
  Int) => bif ltM s_1 (lenM x.2) then Option.bind (idxM x.2 s_1) fun (r_4 : Int × Int × Int) => Option.bind (bif ltM (0 : Int) (IntKind.wrap IntKind.i64 (lenM
  r_3 - (1 : Int))) then chkM (IntKind.wrap IntKind.i64 (IntKind.wrap IntKind.i64 (lenM r_3 - (1 : Int)) - (1 : Int))) (lenM r_3) else some ()) fun (r_5 : Unit)
  => Option.bind (bif ltM (0 : Int) (IntKind.wrap IntKind.i64 (lenM r_3 - (1 : Int))) then idxM r_3 (IntKind.wrap IntKind.i64 (IntKind.wrap IntKind.i64 (lenM
  r_3 - (1 : Int)) - (1 : Int))) else some []) fun (r_6 : List (List Int)) => Option.bind (bif ltM (0 : Int) (IntKind.wrap IntKind.i64 (lenM r_3 - (1 : Int)))
  then idxM r_6 r_4.2.1 else some []) fun (r_7 : List Int) => Option.bind (bif ltM (0 : Int) (IntKind.wrap IntKind.i64 (lenM r_3 - (1 : Int))) then idxM r_7
  r_4.1 else some (0 : Int)) fun (r_8 : Int) => Option.bind (bif ltM (0 : Int) (IntKind.wrap IntKind.i64 (lenM r_3 - (1 : Int))) then m56 (r_4.2.2, r_8) else
  some (0 : Int)) fun (r_9 : Int) => bif PE.andM (ltM (0 : Int) (IntKind.wrap IntKind.i64 (lenM r_3 - (1 : Int)))) (ltM r_9 (0 : Int)) then Option.bind (m57
  ((x.1, x.2), r_3, r_4.2.1, r_4.1, IntKind.wrap IntKind.i64 (IntKind.wrap IntKind.i64 (lenM r_3 - (1 : Int)) - (1 : Int)), IntKind.wrap IntKind.i64 ((-1 : Int)
  - r_4.2.2))) fun (r_10 : List Int) => Option.bind (appM (nat_lit 8) [s_1] r_10) fun (r : List Int) => some (Sum.inr (Sum.inr (r, true, r_3))) else some
  (Sum.inl (IntKind.wrap IntKind.i64 (s_1 + (1 : Int)))) else some (Sum.inr (Sum.inl ()))) (0 : Int)) fun (o : Unit ⊕ List Int × Bool × List (List (List Int)))
  => Sum.elim (fun (t : Unit) => Option.bind (mkM x.1 x.1 (nat_lit 24) []) fun (r_4 : List (List Int)) => Option.bind (loopM (fun (s_1 : Int × List (List Int))
  => bif ltM s_1.1 x.1 then Option.bind (loopM (fun (s_2 : Int × List (List Int)) => bif ltM s_2.1 x.1 then Option.bind (chkM s_1.1 (lenM s_2.2)) fun (r_5 :
  Unit) => Option.bind (chkM s_1.1 (lenM s_2.2)) fun (r_6 : Unit) => Option.bind (m72 (s_1.1, s_2.1)) fun (r_7 : Int) => Option.bind (app2M (nat_lit 8) s_2.2
  s_1.1 [r_7]) fun (r_8 : List (List Int)) => Option.bind (chkM s_1.1 (lenM r_8)) fun (r_9 : Unit) => Option.bind (Option.bind (sameM s_1.1 s_1.1) fun (x :
  Unit) => Option.bind (sameM s_1.1 s_1.1) fun (x : Unit) => chkM s_1.1 (lenM r_8)) fun (r : Unit) => some (Sum.inl (IntKind.wrap IntKind.i64 (s_2.1 + (1 :
  Int)), r_8)) else some (Sum.inr s_2.2)) ((0 : Int), s_1.2)) fun (o : List (List Int)) => some (Sum.inl (IntKind.wrap IntKind.i64 (s_1.1 + (1 : Int)), o)) else
  some (Sum.inr s_1.2)) ((0 : Int), r_4)) fun (o : List (List Int)) => Option.bind (loopM (fun (s_1 : Int × List (List Int)) => bif ltM s_1.1 (lenM x.2) then
  Option.bind (idxM x.2 s_1.1) fun (r_5 : Int × Int × Int) => Option.bind (loopM (fun (s_2 : Int × List (List Int)) => bif ltM s_2.1 x.1 then Option.bind (chkM
  s_2.1 (lenM s_2.2)) fun (r_6 : Unit) => Option.bind (chkM s_2.1 (lenM s_2.2)) fun (r_7 : Unit) => Option.bind (chkM s_2.1 (lenM s_2.2)) fun (r_8 : Unit) =>
  Option.bind (chkM s_2.1 (lenM s_2.2)) fun (r_9 : Unit) => Option.bind (Option.bind (idxM s_2.2 s_2.1) fun (xs : List Int) => chkM r_5.2.1 (lenM xs)) fun (r_10
  : Unit) => Option.bind (Option.bind (idxM s_2.2 s_2.1) fun (xs : List Int) => Option.bind (idxM xs r_5.2.1) fun (x : Int) => some x) fun (r_11 : Int) =>
  Option.bind (idxM s.1 s_2.1) fun (r_12 : List Int) => Option.bind (idxM r_12 r_5.1) fun (r_13 : Int) => Option.bind (m56 (r_13, r_5.2.2)) fun (r_14 : Int) =>
  Option.bind (Option.bind (idxM s_2.2 s_2.1) fun (xs : List Int) => chkM r_5.2.1 (lenM xs)) fun (r_15 : Unit) => Option.bind (set2M s_2.2 s_2.1 r_5.2.1 fun (x
  : Int) => some (min r_11 r_14)) fun (r : List (List Int)) => some (Sum.inl (IntKind.wrap IntKind.i64 (s_2.1 + (1 : Int)), r)) else some (Sum.inr s_2.2)) ((0 :
  Int), s_1.2)) fun (o : List (List Int)) => some (Sum.inl (IntKind.wrap IntKind.i64 (s_1.1 + (1 : Int)), o)) else some (Sum.inr s_1.2)) ((0 : Int), o)) fun (o
  : List (List Int)) => some (Sum.inl (o, r_3))) (fun (t : List Int × Bool × List (List (List Int))) => some (Sum.inr (t.1, t.2.1, t.2.2))) o) (r_2, [])) fun (o
  : List Int × Bool × List (List (List Int))) => some (o.1, o.2.1)
theorem c33 : SpecOK Try.prog 33 ⟨as33, rs33, m33⟩ :=
  fnM_ok (own := []) (an := an33) (n := 400) tabs57OK (F := OPS) OPS_sound OPS_nice (f := 33) (fn := Try.f33) (code := Try.f33.body.getD .skip) (by kernel_rfl) (by kernel_rfl) (by kernel_rfl) fun x => by kernel_rfl
noncomputable def tabs33 : Tabs := Tabs.add tabs57 33 ⟨as33, rs33, m33⟩
theorem tabs33OK : TabOK Try.prog tabs33 := TabOK.add tabs57OK c33 Try.call33

/-! cmp.isNaN[int] -/
def as92 : List Ty := [tI]
def rs92 : List Ty := [.bool]
noncomputable def an92 : Ann := .a
noncomputable def m92 : Int → Option (Bool) :=
  fun (x : Int) => some (PE.notM (eqM x x))
theorem c92 : SpecOK Try.prog 92 ⟨as92, rs92, m92⟩ :=
  fnM_ok (own := []) (an := an92) (n := 400) tabs33OK (F := OPS) OPS_sound OPS_nice (f := 92) (fn := Try.f92) (code := Try.f92.body.getD .skip) (by kernel_rfl) (by kernel_rfl) (by kernel_rfl) fun x => by kernel_rfl
noncomputable def tabs92 : Tabs := Tabs.add tabs33 92 ⟨as92, rs92, m92⟩
theorem tabs92OK : TabOK Try.prog tabs92 := TabOK.add tabs33OK c92 Try.call92

/-! cmp.Less[int] -/
def as81 : List Ty := [tI, tI]
def rs81 : List Ty := [.bool]
noncomputable def an81 : Ann := .a
noncomputable def m81 : (Int × Int) → Option (Bool) :=
  fun (x : Int × Int) => Option.bind (m92 x.1) fun (r : Bool) => Option.bind (bif r then m92 x.2 else some false) fun (r_1 : Bool) => some (PE.orM (PE.andM r
  (PE.notM r_1)) (ltM x.1 x.2))
theorem c81 : SpecOK Try.prog 81 ⟨as81, rs81, m81⟩ :=
  fnM_ok (own := []) (an := an81) (n := 400) tabs92OK (F := OPS) OPS_sound OPS_nice (f := 81) (fn := Try.f81) (code := Try.f81.body.getD .skip) (by kernel_rfl) (by kernel_rfl) (by kernel_rfl) fun x => by kernel_rfl
noncomputable def tabs81 : Tabs := Tabs.add tabs92 81 ⟨as81, rs81, m81⟩
theorem tabs81OK : TabOK Try.prog tabs81 := TabOK.add tabs92OK c81 Try.call81

/-! slices.choosePivotOrdered[int] -/
def as78 : List Ty := [(.list tI), tI, tI]
def rs78 : List Ty := [tI, tI]
noncomputable def an78 : Ann := .seq (.a) (.seq (.a) (.seq (.a) (.seq (.a) (.seq (.a) (.seq (.a) (.seq (.join [(.norm,⟨[(11,.r (.c (.d (.d tI))))],[10,12,31,32,33,34,35,36,37,38,39,40,41,42,43,44,45,46,47,48],[(0,.box [.d (.d tI)])],[]⟩)] (.seq (.a) (.cond (.seq (.join [(.norm,⟨[(10,.r (.c (.d (.d tI)))),(11,.r (.c (.d (.d tI)))),(12,.r (.c (.d (.d tI))))],[33,34,35,36,37,38,39,40,41,42,43],[(0,.box [.d (.d tI)])],[]⟩)] (.seq (.a) (.cond (.seq (.reg [] [] [.s [] [],.s [] [],.r,.s [] []] (.call [] [] (.seq (.a) (.seq (.reg [] [] [.s [] [],.s [] [],.s [] [],.s [] [],.s [] [],.s [] [],.s [] [],.r,.s [] []] (.call [] [] (.seq (.a) (.seq (.reg [] [] [.s [] [],.s [] [],.s [] [],.s [] [],.r,.s [] [],.s [] [],.s [] [],.s [] [],.s [] []] (.call [] [(.norm,⟨[(16,.t [.c (.d (.d tI)),.c (.d (.d tI))])],[],[(0,.box [.d (.d tI)])],[]⟩)] (.seq (.a) (.seq (.seq (.reg [0,0,3,7,0,0,48,112,255] [0,1,2,3,4,5,6,7,8] [.s [] [],.s [] [],.s [] [],.s [] [],.s [] [],.s [] [],.s [] [],.s [] [],.s [] []] (.a)) (.a)) (.a))) (.a))) (.seq (.reg [] [] [.s [] [],.s [] [],.s [] [],.s [] [],.r,.s [] [],.s [] [],.s [] [],.s [] [],.s [] []] (.call [] [(.norm,⟨[(24,.t [.c (.d (.d tI)),.c (.d (.d tI))])],[],[(0,.box [.d (.d tI)])],[]⟩)] (.seq (.a) (.seq (.seq (.reg [0,0,3,7,0,0,48,112,255] [0,1,2,3,4,5,6,7,8] [.s [] [],.s [] [],.s [] [],.s [] [],.s [] [],.s [] [],.s [] [],.s [] [],.s [] []] (.a)) (.a)) (.a))) (.a))) (.seq (.reg [] [] [.s [] [],.s [] [],.s [] [],.s [] [],.r,.s [] [],.s [] [],.s [] [],.s [] [],.s [] []] (.call [] [(.norm,⟨[(32,.t [.c (.d (.d tI)),.c (.d (.d tI))])],[],[(0,.box [.d (.d tI)])],[]⟩)] (.seq (.a) (.seq (.seq (.reg [0,0,3,7,0,0,48,112,255] [0,1,2,3,4,5,6,7,8] [.s [] [],.s [] [],.s [] [],.s [] [],.s [] [],.s [] [],.s [] [],.s [] [],.s [] []] (.a)) (.a)) (.a))) (.a))) (.a))))) (.a))) (.a))) (.a))) (.seq (.reg [] [] [.s [] [],.s [] [],.r,.s [] []] (.call [] [] (.seq (.a) (.seq (.reg [] [] [.s [] [],.s [] [],.s [] [],.s [] [],.s [] [],.s [] [],.s [] [],.r,.s [] []] (.call [] [] (.seq (.a) (.seq (.reg [] [] [.s [] [],.s [] [],.s [] [],.s [] [],.r,.s [] [],.s [] [],.s [] [],.s [] [],.s [] []] (.call [] [(.norm,⟨[(16,.t [.c (.d (.d tI)),.c (.d (.d tI))])],[],[(0,.box [.d (.d tI)])],[]⟩)] (.seq (.a) (.seq (.seq (.reg [0,0,3,7,0,0,48,112,255] [0,1,2,3,4,5,6,7,8] [.s [] [],.s [] [],.s [] [],.s [] [],.s [] [],.s [] [],.s [] [],.s [] [],.s [] []] (.a)) (.a)) (.a))) (.a))) (.seq (.reg [] [] [.s [] [],.s [] [],.s [] [],.s [] [],.r,.s [] [],.s [] [],.s [] [],.s [] [],.s [] []] (.call [] [(.norm,⟨[(24,.t [.c (.d (.d tI)),.c (.d (.d tI))])],[],[(0,.box [.d (.d tI)])],[]⟩)] (.seq (.a) (.seq (.seq (.reg [0,0,3,7,0,0,48,112,255] [0,1,2,3,4,5,6,7,8] [.s [] [],.s [] [],.s [] [],.s [] [],.s [] [],.s [] [],.s [] [],.s [] [],.s [] []] (.a)) (.a)) (.a))) (.a))) (.seq (.reg [] [] [.s [] [],.s [] [],.s [] [],.s [] [],.r,.s [] [],.s [] [],.s [] [],.s [] [],.s [] []] (.call [] [(.norm,⟨[(32,.t [.c (.d (.d tI)),.c (.d (.d tI))])],[],[(0,.box [.d (.d tI)])],[]⟩)] (.seq (.a) (.seq (.seq (.reg [0,0,3,7,0,0,48,112,255] [0,1,2,3,4,5,6,7,8] [.s [] [],.s [] [],.s [] [],.s [] [],.s [] [],.s [] [],.s [] [],.s [] [],.s [] []] (.a)) (.a)) (.a))) (.a))) (.a))))) (.a))) (.a))) (.a))) (.reg [] [] [.s [] [],.s [] [],.r,.s [] []] (.call [] [] (.seq (.a) (.seq (.reg [] [] [.s [] [],.s [] [],.s [] [],.s [] [],.s [] [],.s [] [],.s [] [],.r,.s [] []] (.call [] [] (.seq (.a) (.seq (.reg [] [] [.s [] [],.s [] [],.s [] [],.s [] [],.r,.s [] [],.s [] [],.s [] [],.s [] [],.s [] []] (.call [] [(.norm,⟨[(16,.t [.c (.d (.d tI)),.c (.d (.d tI))])],[],[(0,.box [.d (.d tI)])],[]⟩)] (.seq (.a) (.seq (.seq (.reg [0,0,3,7,0,0,48,112,255] [0,1,2,3,4,5,6,7,8] [.s [] [],.s [] [],.s [] [],.s [] [],.s [] [],.s [] [],.s [] [],.s [] [],.s [] []] (.a)) (.a)) (.a))) (.a))) (.seq (.reg [] [] [.s [] [],.s [] [],.s [] [],.s [] [],.r,.s [] [],.s [] [],.s [] [],.s [] [],.s [] []] (.call [] [(.norm,⟨[(24,.t [.c (.d (.d tI)),.c (.d (.d tI))])],[],[(0,.box [.d (.d tI)])],[]⟩)] (.seq (.a) (.seq (.seq (.reg [0,0,3,7,0,0,48,112,255] [0,1,2,3,4,5,6,7,8] [.s [] [],.s [] [],.s [] [],.s [] [],.s [] [],.s [] [],.s [] [],.s [] [],.s [] []] (.a)) (.a)) (.a))) (.a))) (.seq (.reg [] [] [.s [] [],.s [] [],.s [] [],.s [] [],.r,.s [] [],.s [] [],.s [] [],.s [] [],.s [] []] (.call [] [(.norm,⟨[(32,.t [.c (.d (.d tI)),.c (.d (.d tI))])],[],[(0,.box [.d (.d tI)])],[]⟩)] (.seq (.a) (.seq (.seq (.reg [0,0,3,7,0,0,48,112,255] [0,1,2,3,4,5,6,7,8] [.s [] [],.s [] [],.s [] [],.s [] [],.s [] [],.s [] [],.s [] [],.s [] [],.s [] []] (.a)) (.a)) (.a))) (.a))) (.a))))) (.a))) (.a))) (.a))))) (.a)))) (.reg [] [] [.s [] [],.s [] [],.s [] [],.s [] [],.r,.s [] []] (.call [] [] (.seq (.a) (.seq (.reg [] [] [.s [] [],.s [] [],.s [] [],.s [] [],.r,.s [] [],.s [] [],.s [] [],.s [] [],.s [] []] (.call [] [(.norm,⟨[(16,.t [.c (.d (.d tI)),.c (.d (.d tI))])],[],[(0,.box [.d (.d tI)])],[]⟩)] (.seq (.a) (.seq (.seq (.reg [0,0,3,7,0,0,48,112,255] [0,1,2,3,4,5,6,7,8] [.s [] [],.s [] [],.s [] [],.s [] [],.s [] [],.s [] [],.s [] [],.s [] [],.s [] []] (.a)) (.a)) (.a))) (.a))) (.seq (.reg [] [] [.s [] [],.s [] [],.s [] [],.s [] [],.r,.s [] [],.s [] [],.s [] [],.s [] [],.s [] []] (.call [] [(.norm,⟨[(24,.t [.c (.d (.d tI)),.c (.d (.d tI))])],[],[(0,.box [.d (.d tI)])],[]⟩)] (.seq (.a) (.seq (.seq (.reg [0,0,3,7,0,0,48,112,255] [0,1,2,3,4,5,6,7,8] [.s [] [],.s [] [],.s [] [],.s [] [],.s [] [],.s [] [],.s [] [],.s [] [],.s [] []] (.a)) (.a)) (.a))) (.a))) (.seq (.reg [] [] [.s [] [],.s [] [],.s [] [],.s [] [],.r,.s [] [],.s [] [],.s [] [],.s [] [],.s [] []] (.call [] [(.norm,⟨[(32,.t [.c (.d (.d tI)),.c (.d (.d tI))])],[],[(0,.box [.d (.d tI)])],[]⟩)] (.seq (.a) (.seq (.seq (.reg [0,0,3,7,0,0,48,112,255] [0,1,2,3,4,5,6,7,8] [.s [] [],.s [] [],.s [] [],.s [] [],.s [] [],.s [] [],.s [] [],.s [] [],.s [] []] (.a)) (.a)) (.a))) (.a))) (.a))))) (.a)))) (.a)))) (.a)))))))
noncomputable def m78 : (List Int × Int × Int) → Option (Int × Int) :=
  fun (x : List Int × Int × Int) => Option.bind (divM IntKind.i64 (IntKind.wrap IntKind.i64 (x.2.2 - x.2.1)) (4 : Int)) fun (r : Int) => Option.bind (divM
  IntKind.i64 (IntKind.wrap IntKind.i64 (x.2.2 - x.2.1)) (4 : Int)) fun (r_1 : Int) => Option.bind (divM IntKind.i64 (IntKind.wrap IntKind.i64 (x.2.2 - x.2.1))
  (4 : Int)) fun (r_2 : Int) => Option.bind (bif leM (8 : Int) (IntKind.wrap IntKind.i64 (x.2.2 - x.2.1)) then Option.bind (bif leM (50 : Int) (IntKind.wrap
  IntKind.i64 (x.2.2 - x.2.1)) then Option.bind (Option.bind (idxM x.1 (IntKind.wrap IntKind.i64 (x.2.1 + IntKind.wrap IntKind.i64 (r * (1 : Int))))) fun (r_3 :
  Int) => Option.bind (idxM x.1 (IntKind.wrap IntKind.i64 (IntKind.wrap IntKind.i64 (x.2.1 + IntKind.wrap IntKind.i64 (r * (1 : Int))) - (1 : Int)))) fun (r_4 :
  Int) => Option.bind (m81 (r_3, r_4)) fun (r_5 : Bool) => bif r_5 then some (IntKind.wrap IntKind.i64 (x.2.1 + IntKind.wrap IntKind.i64 (r * (1 : Int))),
  IntKind.wrap IntKind.i64 (IntKind.wrap IntKind.i64 (x.2.1 + IntKind.wrap IntKind.i64 (r * (1 : Int))) - (1 : Int)), (1 : Int)) else some (IntKind.wrap
  IntKind.i64 (IntKind.wrap IntKind.i64 (x.2.1 + IntKind.wrap IntKind.i64 (r * (1 : Int))) - (1 : Int)), IntKind.wrap IntKind.i64 (x.2.1 + IntKind.wrap
  IntKind.i64 (r * (1 : Int))), (0 : Int))) fun (ov : Int × Int × Int) => Option.bind (Option.bind (idxM x.1 (IntKind.wrap IntKind.i64 (IntKind.wrap IntKind.i64
  (x.2.1 + IntKind.wrap IntKind.i64 (r * (1 : Int))) + (1 : Int)))) fun (r_3 : Int) => Option.bind (idxM x.1 ov.2.1) fun (r_4 : Int) => Option.bind (m81 (r_3,
  r_4)) fun (r_5 : Bool) => bif r_5 then some (IntKind.wrap IntKind.i64 (IntKind.wrap IntKind.i64 (x.2.1 + IntKind.wrap IntKind.i64 (r * (1 : Int))) + (1 :
  Int)), ov.2.1, IntKind.wrap IntKind.i64 (ov.2.2 + (1 : Int))) else some (ov.2.1, IntKind.wrap IntKind.i64 (IntKind.wrap IntKind.i64 (x.2.1 + IntKind.wrap
  IntKind.i64 (r * (1 : Int))) + (1 : Int)), ov.2.2)) fun (ov_1 : Int × Int × Int) => Option.bind (Option.bind (idxM x.1 ov_1.1) fun (r_3 : Int) => Option.bind
  (idxM x.1 ov.1) fun (r_4 : Int) => Option.bind (m81 (r_3, r_4)) fun (r : Bool) => bif r then some (ov_1.1, ov.1, IntKind.wrap IntKind.i64 (ov_1.2.2 + (1 :
  Int))) else some (ov.1, ov_1.1, ov_1.2.2)) fun (ov_2 : Int × Int × Int) => Option.bind (Option.bind (idxM x.1 (IntKind.wrap IntKind.i64 (x.2.1 + IntKind.wrap
  IntKind.i64 (r_1 * (2 : Int))))) fun (r_3 : Int) => Option.bind (idxM x.1 (IntKind.wrap IntKind.i64 (IntKind.wrap IntKind.i64 (x.2.1 + IntKind.wrap
  IntKind.i64 (r_1 * (2 : Int))) - (1 : Int)))) fun (r_4 : Int) => Option.bind (m81 (r_3, r_4)) fun (r : Bool) => bif r then some (IntKind.wrap IntKind.i64
  (x.2.1 + IntKind.wrap IntKind.i64 (r_1 * (2 : Int))), IntKind.wrap IntKind.i64 (IntKind.wrap IntKind.i64 (x.2.1 + IntKind.wrap IntKind.i64 (r_1 * (2 : Int)))
  - (1 : Int)), IntKind.wrap IntKind.i64 (ov_2.2.2 + (1 : Int))) else some (IntKind.wrap IntKind.i64 (IntKind.wrap IntKind.i64 (x.2.1 + IntKind.wrap IntKind.i64
  (r_1 * (2 : Int))) - (1 : Int)), IntKind.wrap IntKind.i64 (x.2.1 + IntKind.wrap IntKind.i64 (r_1 * (2 : Int))), ov_2.2.2)) fun (ov_3 : Int × Int × Int) =>
  Option.bind (Option.bind (idxM x.1 (IntKind.wrap IntKind.i64 (IntKind.wrap IntKind.i64 (x.2.1 + IntKind.wrap IntKind.i64 (r_1 * (2 : Int))) + (1 : Int)))) fun
  (r_3 : Int) => Option.bind (idxM x.1 ov_3.2.1) fun (r_4 : Int) => Option.bind (m81 (r_3, r_4)) fun (r : Bool) => bif r then some (IntKind.wrap IntKind.i64
  (IntKind.wrap IntKind.i64 (x.2.1 + IntKind.wrap IntKind.i64 (r_1 * (2 : Int))) + (1 : Int)), ov_3.2.1, IntKind.wrap IntKind.i64 (ov_3.2.2 + (1 : Int))) else
  some (ov_3.2.1, IntKind.wrap IntKind.i64 (IntKind.wrap IntKind.i64 (x.2.1 + IntKind.wrap IntKind.i64 (r_1 * (2 : Int))) + (1 : Int)), ov_3.2.2)) fun (ov_4 :
  Int × Int × Int) => Option.bind (Option.bind (idxM x.1 ov_4.1) fun (r_3 : Int) => Option.bind (idxM x.1 ov_3.1) fun (r_4 : Int) => Option.bind (m81 (r_3,
  r_4)) fun (r : Bool) => bif r then some (ov_4.1, ov_3.1, IntKind.wrap IntKind.i64 (ov_4.2.2 + (1 : Int))) else some (ov_3.1, ov_4.1, ov_4.2.2)) fun (ov_5 :
  Int × Int × Int) => Option.bind (Option.bind (idxM x.1 (IntKind.wrap IntKind.i64 (x.2.1 + IntKind.wrap IntKind.i64 (r_2 * (3 : Int))))) fun (r_3 : Int) =>
  Option.bind (idxM x.1 (IntKind.wrap IntKind.i64 (IntKind.wrap IntKind.i64 (x.2.1 + IntKind.wrap IntKind.i64 (r_2 * (3 : Int))) - (1 : Int)))) fun (r_4 : Int)
  => Option.bind (m81 (r_3, r_4)) fun (r : Bool) => bif r then some (IntKind.wrap IntKind.i64 (x.2.1 + IntKind.wrap IntKind.i64 (r_2 * (3 : Int))), IntKind.wrap
  IntKind.i64 (IntKind.wrap IntKind.i64 (x.2.1 + IntKind.wrap IntKind.i64 (r_2 * (3 : Int))) - (1 : Int)), IntKind.wrap IntKind.i64 (ov_5.2.2 + (1 : Int))) else
  some (IntKind.wrap IntKind.i64 (IntKind.wrap IntKind.i64 (x.2.1 + IntKind.wrap IntKind.i64 (r_2 * (3 : Int))) - (1 : Int)), IntKind.wrap IntKind.i64 (x.2.1 +
  IntKind.wrap IntKind.i64 (r_2 * (3 : Int))), ov_5.2.2)) fun (ov_6 : Int × Int × Int) => Option.bind (Option.bind (idxM x.1 (IntKind.wrap IntKind.i64
  (IntKind.wrap IntKind.i64 (x.2.1 + IntKind.wrap IntKind.i64 (r_2 * (3 : Int))) + (1 : Int)))) fun (r_3 : Int) => Option.bind (idxM x.1 ov_6.2.1) fun (r_4 :
  Int) => Option.bind (m81 (r_3, r_4)) fun (r : Bool) => bif r then some (IntKind.wrap IntKind.i64 (IntKind.wrap IntKind.i64 (x.2.1 + IntKind.wrap IntKind.i64
  (r_2 * (3 : Int))) + (1 : Int)), ov_6.2.1, IntKind.wrap IntKind.i64 (ov_6.2.2 + (1 : Int))) else some (ov_6.2.1, IntKind.wrap IntKind.i64 (IntKind.wrap
  IntKind.i64 (x.2.1 + IntKind.wrap IntKind.i64 (r_2 * (3 : Int))) + (1 : Int)), ov_6.2.2)) fun (ov_7 : Int × Int × Int) => Option.bind (Option.bind (idxM x.1
  ov_7.1) fun (r_3 : Int) => Option.bind (idxM x.1 ov_6.1) fun (r_4 : Int) => Option.bind (m81 (r_3, r_4)) fun (r : Bool) => bif r then some (ov_7.1, ov_6.1,
  IntKind.wrap IntKind.i64 (ov_7.2.2 + (1 : Int))) else some (ov_6.1, ov_7.1, ov_7.2.2)) fun (ov : Int × Int × Int) => some (ov_2.2.1, ov_5.2.1, ov.2.1, ov.2.2)
  else some (IntKind.wrap IntKind.i64 (x.2.1 + IntKind.wrap IntKind.i64 (r * (1 : Int))), IntKind.wrap IntKind.i64 (x.2.1 + IntKind.wrap IntKind.i64 (r_1 * (2 :
  Int))), IntKind.wrap IntKind.i64 (x.2.1 + IntKind.wrap IntKind.i64 (r_2 * (3 : Int))), (0 : Int))) fun (o : Int × Int × Int × Int) => Option.bind (Option.bind
  (idxM x.1 o.2.1) fun (r_3 : Int) => Option.bind (idxM x.1 o.1) fun (r_4 : Int) => Option.bind (m81 (r_3, r_4)) fun (r : Bool) => bif r then some (o.2.1, o.1,
  IntKind.wrap IntKind.i64 (o.2.2.2 + (1 : Int))) else some (o.1, o.2.1, o.2.2.2)) fun (ov : Int × Int × Int) => Option.bind (Option.bind (idxM x.1 o.2.2.1) fun
  (r_3 : Int) => Option.bind (idxM x.1 ov.2.1) fun (r_4 : Int) => Option.bind (m81 (r_3, r_4)) fun (r : Bool) => bif r then some (o.2.2.1, ov.2.1, IntKind.wrap
  IntKind.i64 (ov.2.2 + (1 : Int))) else some (ov.2.1, o.2.2.1, ov.2.2)) fun (ov_1 : Int × Int × Int) => Option.bind (Option.bind (idxM x.1 ov_1.1) fun (r_3 :
  Int) => Option.bind (idxM x.1 ov.1) fun (r_4 : Int) => Option.bind (m81 (r_3, r_4)) fun (r : Bool) => bif r then some (ov_1.1, ov.1, IntKind.wrap IntKind.i64
  (ov_1.2.2 + (1 : Int))) else some (ov.1, ov_1.1, ov_1.2.2)) fun (ov : Int × Int × Int) => some (ov.2.1, ov.2.2) else some (IntKind.wrap IntKind.i64 (x.2.1 +
  IntKind.wrap IntKind.i64 (r_1 * (2 : Int))), (0 : Int))) fun (o : Int × Int) => bif eqM o.2 (0 : Int) then some (o.1, (1 : Int)) else bif eqM o.2 (12 : Int)
  then some (o.1, (2 : Int)) else some (o.1, (0 : Int))
theorem c78 : SpecOK Try.prog 78 ⟨as78, rs78, m78⟩ :=
  fnM_ok (own := []) (an := an78) (n := 400) tabs81OK (F := OPS) OPS_sound OPS_nice (f := 78) (fn := Try.f78) (code := Try.f78.body.getD .skip) (by kernel_rfl) (by kernel_rfl) (by kernel_rfl) fun x => by kernel_rfl
noncomputable def tabs78 : Tabs := Tabs.add tabs81 78 ⟨as78, rs78, m78⟩
theorem tabs78OK : TabOK Try.prog tabs78 := TabOK.add tabs81OK c78 Try.call78

/-! putlog/network.Blame -/
def as10 : List Ty := [(.pair tI (.pair (.list (.pair tI (.pair tI (.pair tI tI)))) (.list (.pair tI (.pair tI (.pair tI (.pair tI tI)))))))]
def rs10 : List Ty := [(.list tI), .bool]
noncomputable def an10 : Ann := .seq (.a) (.seq (.a) (.seq (.a) (.seq (.a) (.seq (.seq (.a) (.block (.seq (.seq (.a) (.seq (.a) (.seq (.join [(.norm,⟨[(4,.r (.c (.d (.d (.list tI))))),(5,.r (.c (.d (.d .bool))))],[7,8,9,20,21,22,23,24,25,26,27,28,29,30,31,32,33,34,35,36,37,38],[],[]⟩)] (.a)) (.a)))) (.seq (.seq (.a) (.seq (.a) (.seq (.join [(.norm,⟨[(4,.r (.c (.d (.d (.list tI))))),(5,.r (.c (.d (.d .bool))))],[7,8,9,20,21,22,23,24,25,26,27,28,29,30,31,32,33,34,35,36,37,38],[],[]⟩)] (.a)) (.a)))) (.seq (.a) (.join [] (.a))))))) (.seq (.a) (.seq (.seq (.a) (.block (.loop ⟨[(10,.r (.c (.h 1))),(42,.r (.c (.d (.d tI))))],[12,43,44,45,46,47,48,49,50,51],[],[.arr tI]⟩ [(.exit 2,⟨[(10,.r (.c (.h 1)))],[12,42,43,44,45,46,47,48,49,50,51],[],[.arr tI]⟩)] (.a)))) (.a)))))))
noncomputable def m10 : (Int × (List (Int × Int × Int × Int)) × List (Int × Int × Int × Int × Int)) → Option (List Int × Bool) :=
  fun (x : Int × List (Int × Int × Int × Int) × List (Int × Int × Int × Int × Int)) => Option.bind (m18 (x.1, x.2.1, x.2.2)) fun (r : Bool) => bif PE.notM r then
  some ([], false) else Option.bind (m32 (x.1, x.2.1, x.2.2)) fun (r_1 : (Int × List (Int × Int × Int)) × Int × List (Int × Int × Int)) => Option.bind
  (Option.bind (m33 (r_1.1.1, r_1.1.2)) fun (r : List Int × Bool) => bif PE.andM r.2 (PE.orM true (ltM (lenM r.1) (0 : Int))) then some (r.1, true) else some
  ([], false)) fun (o : List Int × Bool) => Option.bind (Option.bind (m33 (r_1.2.1, r_1.2.2)) fun (r : List Int × Bool) => bif PE.andM r.2 (PE.orM (PE.notM o.2)
  (ltM (lenM r.1) (lenM o.1))) then some (r.1, true) else some (o.1, o.2)) fun (o_1 : List Int × Bool) => Option.bind (loopM (fun (s : Int × List Int) => bif
  ltM s.1 (lenM o_1.1) then Option.bind (idxM o_1.1 s.1) fun (r_2 : Int) => Option.bind (divM IntKind.i64 r_2 (2 : Int)) fun (r_3 : Int) => Option.bind (appM
  (nat_lit 8) s.2 [r_3]) fun (r : List Int) => some (Sum.inl (IntKind.wrap IntKind.i64 (s.1 + (1 : Int)), r)) else some (Sum.inr s.2)) ((0 : Int), [])) fun (o_2
  : List Int) => Option.bind (sortI o_2) fun (r_2 : List Int) => Option.bind (compI r_2) fun (r : List Int) => some (r, o_1.2)
theorem c10 : SpecOK Try.prog 10 ⟨as10, rs10, m10⟩ :=
  fnM_ok (own := []) (an := an10) (n := 400) tabs78OK (F := OPS) OPS_sound OPS_nice (f := 10) (fn := Try.f10) (code := Try.f10.body.getD .skip) (by kernel_rfl) (by kernel_rfl) (by kernel_rfl) fun x => by kernel_rfl
noncomputable def tabs10 : Tabs := Tabs.add tabs78 10 ⟨as10, rs10, m10⟩
theorem tabs10OK : TabOK Try.prog tabs10 := TabOK.add tabs78OK c10 Try.call10

/-! putlog/putlogref09.Ints -/
def as49 : List Ty := [(.list tI), (.list tI)]
def rs49 : List Ty := [.bool]
noncomputable def an49 : Ann := .seq (.a) (.seq (.a) (.seq (.seq (.a) (.block (.loop ⟨[(5,.r (.c (.d (.d tI))))],[11,12,13,14,15,16,17,18,19,20,21,22,23,24,25],[],[]⟩ [(.exit 0,⟨[],[5,11,12,13,14,15,16,17,18,19,20,21,22,23,24,25],[],[]⟩),(.ret,⟨[(4,.r (.c (.d (.d .bool))))],[5,11,12,13,14,15,16,17,18,19,20,21,22,23,24,25],[],[]⟩)] (.seq (.a) (.seq (.block (.seq (.reg [0,0,3,7,0,0,48,112,255] [0,1,2,3,4,5,6,7,8] [.s [] [],.s [] [],.s [] [],.s [] [],.s [] [],.s [] [],.s [] [],.s [] [],.s [] []] (.a)) (.a))) (.a)))))) (.a)))
noncomputable def m49 : (List Int × List Int) → Option (Bool) :=
  fun (x : List Int × List Int) => bif PE.notM (eqM (lenM x.1) (lenM x.2)) then some false else Option.bind (loopM (fun (s : Int) => bif ltM s (lenM x.1) then
  Option.bind (idxM x.1 s) fun (r : Int) => Option.bind (idxM x.2 s) fun (r_1 : Int) => bif PE.notM (eqM r r_1) then some (Sum.inr (Sum.inr false)) else some
  (Sum.inl (IntKind.wrap IntKind.i64 (s + (1 : Int)))) else some (Sum.inr (Sum.inl ()))) (0 : Int)) fun (o : Unit ⊕ Bool) => Sum.elim (fun (t : Unit) => some
  true) (fun (t : Bool) => some t) o
theorem c49 : SpecOK Try.prog 49 ⟨as49, rs49, m49⟩ :=
  fnM_ok (own := []) (an := an49) (n := 400) tabs10OK (F := OPS) OPS_sound OPS_nice (f := 49) (fn := Try.f49) (code := Try.f49.body.getD .skip) (by kernel_rfl) (by kernel_rfl) (by kernel_rfl) fun x => by kernel_rfl
noncomputable def tabs49 : Tabs := Tabs.add tabs10 49 ⟨as49, rs49, m49⟩
theorem tabs49OK : TabOK Try.prog tabs49 := TabOK.add tabs10OK c49 Try.call49

/-! putlog/putlogref10.Ints -/
def as24 : List Ty := [(.list tI), (.list tI)]
def rs24 : List Ty := [.bool]
noncomputable def an24 : Ann := .a
noncomputable def m24 : (List Int × List Int) → Option (Bool) :=
  fun (x : List Int × List Int) => Option.bind (m49 (x.1, x.2)) fun (r : Bool) => some r
theorem c24 : SpecOK Try.prog 24 ⟨as24, rs24, m24⟩ :=
  fnM_ok (own := []) (an := an24) (n := 400) tabs49OK (F := OPS) OPS_sound OPS_nice (f := 24) (fn := Try.f24) (code := Try.f24.body.getD .skip) (by kernel_rfl) (by kernel_rfl) (by kernel_rfl) fun x => by kernel_rfl
noncomputable def tabs24 : Tabs := Tabs.add tabs49 24 ⟨as24, rs24, m24⟩
theorem tabs24OK : TabOK Try.prog tabs24 := TabOK.add tabs49OK c24 Try.call24

/-! putlog/putlogref10.Same -/
def as26 : List Ty := [(.pair (.list tI) (.pair (.list tI) tI)), (.pair (.list tI) (.pair (.list tI) tI))]
def rs26 : List Ty := [.bool]
noncomputable def an26 : Ann := .a
noncomputable def m26 : ((List Int × List Int × Int) × List Int × List Int × Int) → Option (Bool) :=
  fun (x : (List Int × List Int × Int) × List Int × List Int × Int) => Option.bind (m24 (x.1.1, x.2.1)) fun (r : Bool) => Option.bind (bif r then m24 (x.1.2.1,
  x.2.2.1) else some false) fun (r_1 : Bool) => some (PE.andM (PE.andM r r_1) (eqM x.1.2.2 x.2.2.2))
theorem c26 : SpecOK Try.prog 26 ⟨as26, rs26, m26⟩ :=
  fnM_ok (own := []) (an := an26) (n := 400) tabs24OK (F := OPS) OPS_sound OPS_nice (f := 26) (fn := Try.f26) (code := Try.f26.body.getD .skip) (by kernel_rfl) (by kernel_rfl) (by kernel_rfl) fun x => by kernel_rfl
noncomputable def tabs26 : Tabs := Tabs.add tabs24 26 ⟨as26, rs26, m26⟩
theorem tabs26OK : TabOK Try.prog tabs26 := TabOK.add tabs24OK c26 Try.call26

/-! putlog/network.Allowed$1 -/
def as41 : List Ty := [(.pair tI tI)]
def rs41 : List Ty := [.bool]
noncomputable def an41 : Ann := .a
noncomputable def m41 : (Int × Int) → Option (Bool) :=
  fun (x : Int × Int) => Option.bind (m42 (x.1, x.2, (1000000 : Int))) fun (r : Bool) => some (PE.notM r)
theorem c41 : SpecOK Try.prog 41 ⟨as41, rs41, m41⟩ :=
  fnM_ok (own := []) (an := an41) (n := 400) tabs26OK (F := OPS) OPS_sound OPS_nice (f := 41) (fn := Try.f41) (code := Try.f41.body.getD .skip) (by kernel_rfl) (by kernel_rfl) (by kernel_rfl) fun x => by kernel_rfl
noncomputable def tabs41 : Tabs := Tabs.add tabs26 41 ⟨as41, rs41, m41⟩
theorem tabs41OK : TabOK Try.prog tabs41 := TabOK.add tabs26OK c41 Try.call41

/-! slices.Clone[[]putlog/api.Place,putlog/api.Place] -/
def as43 : List Ty := [(.list (.pair tI tI))]
def rs43 : List Ty := [(.list (.pair tI tI))]
noncomputable def an43 : Ann := .a
noncomputable def m43 : (List (Int × Int)) → Option (List (Int × Int)) :=
  fun (x : List (Int × Int)) => nilM x (some []) (Option.bind (appM (nat_lit 16) [] x) fun (r : List (Int × Int)) => some r)
theorem c43 : SpecOK Try.prog 43 ⟨as43, rs43, m43⟩ :=
  fnM_ok (own := []) (an := an43) (n := 400) tabs41OK (F := OPS) OPS_sound OPS_nice (f := 43) (fn := Try.f43) (code := Try.f43.body.getD .skip) (by kernel_rfl) (by kernel_rfl) (by kernel_rfl) fun x => by kernel_rfl
noncomputable def tabs43 : Tabs := Tabs.add tabs41 43 ⟨as43, rs43, m43⟩
theorem tabs43OK : TabOK Try.prog tabs43 := TabOK.add tabs41OK c43 Try.call43

/-! putlog/network.Allowed -/
def as17 : List Ty := [(.pair tI (.pair (.list (.pair tI (.pair tI (.pair tI tI)))) (.list (.pair tI (.pair tI (.pair tI (.pair tI tI))))))), (.list (.pair tI tI))]
def rs17 : List Ty := [.bool]
noncomputable def an17 : Ann := .seq (.a) (.seq (.seq (.reg [] [] [.s [0] [],.s [] [],.s [] [],.s [] [],.s [] [],.s [] [],.s [] [],.s [0] [],.s [] [],.s [] [],.s [] [],.s [] [],.r,.s [] []] (.call [] [(.norm,⟨[(19,.r (.c (.d (.d .bool))))],[],[],[]⟩)] (.seq (.a) (.seq (.reg [] [] [.s [] [],.s [] [],.r,.s [] [],.s [] []] (.call [] [(.norm,⟨[(7,.r (.c (.d (.d tI))))],[],[],[]⟩)] (.seq (.a) (.seq (.seq (.a) (.block (.loop ⟨[(8,.r (.c (.d (.d tI))))],[5,9,10,11,12,13,14,15,16,18],[],[]⟩ [(.exit 0,⟨[],[5,8,9,10,11,12,13,14,15,16,18],[],[]⟩),(.ret,⟨[(4,.r (.c (.d (.d tI))))],[5,8,9,10,11,12,13,14,15,16,17,18],[],[]⟩)] (.a)))) (.a))) (.a))) (.a))) (.a))) (.a)) (.seq (.reg [] [] [.s [] [],.r,.s [] [],.s [] [],.s [2] [3,2],.s [] [4],.s [4,3] [4]] (.call [] [(.norm,⟨[(22,.r (.c (.h 2)))],[],[],[.arr (.pair tI tI)]⟩)] (.seq (.a) (.a)) (.a))) (.seq (.seq (.reg [] [] [.s [0] [],.r] (.call [] [] (.seq (.a) (.a)) (.a))) (.block (.call [] [] (.seq (.seq (.a) (.block (.loop ⟨[(10,.r (.c (.d (.d tI))))],[4,11,12,13,14,15,16,17,18,19,20,21,22,23,24,25,26,27,28,29],[(6,.lp .ready)],[]⟩ [(.exit 0,⟨[],[4,10,11,12,13,14,15,16,17,18,19,20,21,22,23,24,25,26,27,28,29],[(6,.lp .ready)],[]⟩),(.ret,⟨[],[4,10,11,12,13,14,15,16,17,18,19,20,21,22,23,24,25,26,27,28,29],[(1,.box [.d (.d .bool)]),(6,.lp (.done .ret))],[]⟩)] (.seq (.a) (.seq (.a) (.seq (.block (.seq (.a) (.seq (.reg [] [] [.s [] [],.s [] [],.s [7] [],.s [] [],.s [7] [],.s [] [],.s [] [],.s [5] [],.s [] [],.s [7] [],.s [] [],.s [7] [],.s [] [],.r,.s [] []] (.call [] [] (.seq (.a) (.block (.seq (.reg [0,0,2,7,15,31,0,0,128,448,960,1984,4095,0,8192,24576,65535,0,0,262144,917504,1966080,4063232,0,0,16777216,58720256,125829120,260046848,536739840,0,1073741824,3221225472,8589803520,0,17179869184,68719476735,137438953471] [0,1,2,3,4,5,6,7,8,9,10,11,12,13,14,15,16,17,18,19,20,21,22,23,24,25,26,27,28,29,30,31,32,33,34,35,36,37] [.s [4] [],.s [] [],.s [8] [],.s [3] [],.s [] [],.s [3] [],.s [4] [],.s [] [],.s [8] [],.s [3] [],.s [] [],.s [3] [],.s [] [],.s [] [],.s [] [],.s [8] [],.s [] [],.s [4] [],.s [] [],.s [8] [],.s [3] [],.s [] [],.s [3] [],.s [4] [],.s [] [],.s [8] [],.s [3] [],.s [] [],.s [3] [],.s [] [],.s [] [],.s [] [],.s [8] [],.s [] [],.s [] [],.s [8] [],.s [] [],.s [] []] (.a)) (.a)))) (.a))) (.a)))) (.a))))))) (.seq (.a) (.block (.loop ⟨[(33,.r (.c (.d (.d tI))))],[6,34,35,36,37,38,39,40,41,42,43,44,45,46,47,48,49,50,51,52],[(6,.lp .ready)],[]⟩ [(.exit 2,⟨[],[6,33,34,35,36,37,38,39,40,41,42,43,44,45,46,47,48,49,50,51,52],[(6,.lp .ready)],[]⟩),(.ret,⟨[],[6,33,34,35,36,37,38,39,40,41,42,43,44,45,46,47,48,49,50,51,52],[(1,.box [.d (.d .bool)]),(6,.lp (.done .ret))],[]⟩)] (.seq (.a) (.seq (.a) (.seq (.block (.seq (.a) (.seq (.reg [] [] [.s [] [],.s [] [],.s [7] [],.s [] [],.s [7] [],.s [] [],.s [] [],.s [7] [],.s [] [],.s [7] [],.s [] [],.s [7] [],.s [] [],.r,.s [] []] (.call [] [] (.seq (.a) (.block (.seq (.reg [0,0,2,7,15,31,0,0,128,448,960,1984,4095,0,8192,24576,65535,0,0,262144,917504,1966080,4063232,0,0,16777216,58720256,125829120,260046848,536739840,0,1073741824,3221225472,8589803520,0,17179869184,68719476735,137438953471] [0,1,2,3,4,5,6,7,8,9,10,11,12,13,14,15,16,17,18,19,20,21,22,23,24,25,26,27,28,29,30,31,32,33,34,35,36,37] [.s [4] [],.s [] [],.s [8] [],.s [3] [],.s [] [],.s [3] [],.s [4] [],.s [] [],.s [8] [],.s [3] [],.s [] [],.s [3] [],.s [] [],.s [] [],.s [] [],.s [8] [],.s [] [],.s [4] [],.s [] [],.s [8] [],.s [3] [],.s [] [],.s [3] [],.s [4] [],.s [] [],.s [8] [],.s [3] [],.s [] [],.s [3] [],.s [] [],.s [] [],.s [] [],.s [8] [],.s [] [],.s [] [],.s [8] [],.s [] [],.s [] []] (.a)) (.a)))) (.a))) (.a)))) (.a)))))))) (.a)))) (.a))))
noncomputable def m17 : ((Int × (List (Int × Int × Int × Int)) × List (Int × Int × Int × Int × Int)) × List (Int × Int)) → Option (Bool) :=
  fun (x : (Int × List (Int × Int × Int × Int) × List (Int × Int × Int × Int × Int)) × List (Int × Int)) => Option.bind (m18 (x.1.1, x.1.2.1, x.1.2.2)) fun (r :
  Bool) => Option.bind (bif PE.notM (PE.orM (PE.notM r) (PE.notM (eqM (lenM x.2) x.1.1))) then Option.bind (Option.bind (loopM (fun (s : Int) => bif ltM s (lenM
  x.2) then Option.bind (idxM x.2 s) fun (r_1 : Int × Int) => Option.bind (m41 (r_1.1, r_1.2)) fun (r : Bool) => bif r then some (Sum.inr (Sum.inr s)) else some
  (Sum.inl (IntKind.wrap IntKind.i64 (s + (1 : Int)))) else some (Sum.inr (Sum.inl ()))) (0 : Int)) fun (o : Unit ⊕ Int) => Sum.elim (fun (t : Unit) => some (-1
  : Int)) (fun (t : Int) => some t) o) fun (ov : Int) => some (leM (0 : Int) ov) else some false) fun (ov : Bool) => bif PE.orM (PE.orM (PE.notM r) (PE.notM
  (eqM (lenM x.2) x.1.1))) ov then some false else Option.bind (nilM x.2 (some []) (Option.bind (appM (nat_lit 16) [] x.2) fun (r : List (Int × Int)) => some
  r)) fun (ov_1 : List (Int × Int)) => Option.bind (appM (nat_lit 16) ov_1 [((0 : Int), (0 : Int))]) fun (r_1 : List (Int × Int)) => Option.bind (loopM (fun (s
  : Int) => bif ltM s (lenM x.1.2.1) then Option.bind (idxM x.1.2.1 s) fun (r_2 : Int × Int × Int × Int) => Option.bind (chkM r_2.1 (lenM r_1)) fun (r_3 : Unit)
  => Option.bind (Option.bind (idxM r_1 r_2.1) fun (x : Int × Int) => some x.1) fun (r_4 : Int) => Option.bind (chkM x.1.1 (lenM r_1)) fun (r_5 : Unit) =>
  Option.bind (Option.bind (idxM r_1 x.1.1) fun (x : Int × Int) => some x.1) fun (r_6 : Int) => Option.bind (chkM r_2.1 (lenM r_1)) fun (r_7 : Unit) =>
  Option.bind (Option.bind (idxM r_1 r_2.1) fun (x : Int × Int) => some x.2) fun (r_8 : Int) => Option.bind (chkM x.1.1 (lenM r_1)) fun (r_9 : Unit) =>
  Option.bind (Option.bind (idxM r_1 x.1.1) fun (x : Int × Int) => some x.2) fun (r_10 : Int) => Option.bind (m42 (IntKind.wrap IntKind.i64 (IntKind.wrap
  IntKind.i64 (r_4 - r_6) - r_2.2.1), IntKind.wrap IntKind.i64 (IntKind.wrap IntKind.i64 (r_8 - r_10) - r_2.2.2.1), r_2.2.2.2)) fun (r : Bool) => bif PE.notM r
  then some (Sum.inr (Sum.inr false)) else some (Sum.inl (IntKind.wrap IntKind.i64 (s + (1 : Int)))) else some (Sum.inr (Sum.inl ()))) (0 : Int)) fun (o : Unit
  ⊕ Bool) => Sum.elim (fun (t : Unit) => Option.bind (loopM (fun (s : Int) => bif ltM s (lenM x.1.2.2) then Option.bind (idxM x.1.2.2 s) fun (r_2 : Int × Int ×
  Int × Int × Int) => Option.bind (chkM r_2.2.1 (lenM r_1)) fun (r_3 : Unit) => Option.bind (Option.bind (idxM r_1 r_2.2.1) fun (x : Int × Int) => some x.1) fun
  (r_4 : Int) => Option.bind (chkM r_2.1 (lenM r_1)) fun (r_5 : Unit) => Option.bind (Option.bind (idxM r_1 r_2.1) fun (x : Int × Int) => some x.1) fun (r_6 :
  Int) => Option.bind (chkM r_2.2.1 (lenM r_1)) fun (r_7 : Unit) => Option.bind (Option.bind (idxM r_1 r_2.2.1) fun (x : Int × Int) => some x.2) fun (r_8 : Int)
  => Option.bind (chkM r_2.1 (lenM r_1)) fun (r_9 : Unit) => Option.bind (Option.bind (idxM r_1 r_2.1) fun (x : Int × Int) => some x.2) fun (r_10 : Int) =>
  Option.bind (m42 (IntKind.wrap IntKind.i64 (IntKind.wrap IntKind.i64 (r_4 - r_6) - r_2.2.2.1), IntKind.wrap IntKind.i64 (IntKind.wrap IntKind.i64 (r_8 - r_10)
  - r_2.2.2.2.1), r_2.2.2.2.2)) fun (r : Bool) => bif PE.notM r then some (Sum.inr (Sum.inr false)) else some (Sum.inl (IntKind.wrap IntKind.i64 (s + (1 :
  Int)))) else some (Sum.inr (Sum.inl ()))) (0 : Int)) fun (o : Unit ⊕ Bool) => Sum.elim (fun (t : Unit) => some true) (fun (t : Bool) => some t) o) (fun (t :
  Bool) => some t) o
theorem c17 : SpecOK Try.prog 17 ⟨as17, rs17, m17⟩ :=
  fnM_ok (own := []) (an := an17) (n := 400) (TabOK.drop tabs43OK [43]) (F := OPS) OPS_sound OPS_nice (f := 17) (fn := Try.f17) (code := Try.f17.body.getD .skip) (by kernel_rfl) (by kernel_rfl) (by kernel_rfl) fun x => by kernel_rfl
noncomputable def tabs17 : Tabs := Tabs.add tabs43 17 ⟨as17, rs17, m17⟩
theorem tabs17OK : TabOK Try.prog tabs17 := TabOK.add tabs43OK c17 Try.call17

/-! putlog/putloglaw10.sane -/
def as8 : List Ty := []
def rs8 : List Ty := [.bool]
noncomputable def an8 : Ann := .a
noncomputable def m8 : Unit → Option (Bool) :=
  fun (x : Unit) => Option.bind (appM (nat_lit 40) [] [((0 : Int), (1 : Int), (100 : Int), (0 : Int), (3 : Int)), ((1 : Int), (2 : Int), (0 : Int), (50 : Int), (1
  : Int)), ((0 : Int), (2 : Int), (104 : Int), (48 : Int), (2 : Int))]) fun (r : List (Int × Int × Int × Int × Int)) => Option.bind (chkM (2 : Int) (lenM r))
  fun (r_1 : Unit) => Option.bind (setM r (2 : Int) fun (x : Int × Int × Int × Int × Int) => some (x.1, x.2.1, (111 : Int), x.2.2.2)) fun (r_2 : List (Int × Int
  × Int × Int × Int)) => Option.bind (m14 (((3 : Int), [((0 : Int), (0 : Int), (0 : Int), (2 : Int))], [((0 : Int), (1 : Int), (100 : Int), (0 : Int), (3 :
  Int)), ((1 : Int), (2 : Int), (0 : Int), (50 : Int), (1 : Int)), ((0 : Int), (2 : Int), (104 : Int), (48 : Int), (2 : Int))]), (0 : Int))) fun (r_3 : (Int ×
  Int × Int × Int) × Int) => Option.bind (m14 (((3 : Int), [((0 : Int), (0 : Int), (0 : Int), (2 : Int))], [((0 : Int), (1 : Int), (100 : Int), (0 : Int), (3 :
  Int)), ((1 : Int), (2 : Int), (0 : Int), (50 : Int), (1 : Int)), ((0 : Int), (2 : Int), (104 : Int), (48 : Int), (2 : Int))]), (1 : Int))) fun (r_4 : (Int ×
  Int × Int × Int) × Int) => Option.bind (m14 (((3 : Int), [((0 : Int), (0 : Int), (0 : Int), (2 : Int))], [((0 : Int), (1 : Int), (100 : Int), (0 : Int), (3 :
  Int)), ((1 : Int), (2 : Int), (0 : Int), (50 : Int), (1 : Int)), ((0 : Int), (2 : Int), (104 : Int), (48 : Int), (2 : Int))]), (2 : Int))) fun (r_5 : (Int ×
  Int × Int × Int) × Int) => Option.bind (m22 (((3 : Int), [((0 : Int), (0 : Int), (0 : Int), (2 : Int))], [((0 : Int), (1 : Int), (100 : Int), (0 : Int), (3 :
  Int)), ((1 : Int), (2 : Int), (0 : Int), (50 : Int), (1 : Int)), ((0 : Int), (2 : Int), (104 : Int), (48 : Int), (2 : Int))]), (0 : Int), (2 : Int))) fun (r_6
  : (Int × Int × Int × Int) × Int) => Option.bind (m25 ((3 : Int), [((0 : Int), (0 : Int), (0 : Int), (2 : Int))], [((0 : Int), (1 : Int), (100 : Int), (0 :
  Int), (3 : Int)), ((1 : Int), (2 : Int), (0 : Int), (50 : Int), (1 : Int)), ((0 : Int), (2 : Int), (104 : Int), (48 : Int), (2 : Int))])) fun (r_7 : (List Int
  × List Int × Int) × Int) => Option.bind (m10 ((3 : Int), [((0 : Int), (0 : Int), (0 : Int), (2 : Int))], r_2)) fun (r_8 : List Int × Bool) => Option.bind (m10
  ((3 : Int), [((0 : Int), (0 : Int), (0 : Int), (2 : Int))], [((0 : Int), (1 : Int), (100 : Int), (0 : Int), (3 : Int)), ((1 : Int), (2 : Int), (0 : Int), (50
  : Int), (1 : Int)), ((0 : Int), (2 : Int), (104 : Int), (48 : Int), (2 : Int))])) fun (r_9 : List Int × Bool) => Option.bind (m14 (((3 : Int), [((0 : Int), (0
  : Int), (0 : Int), (2 : Int))], r_2), (0 : Int))) fun (r_10 : (Int × Int × Int × Int) × Int) => bif PE.orM (PE.orM (PE.orM (PE.orM (PE.orM (PE.orM (PE.orM
  (PE.notM (eqM r_3.2 (0 : Int))) (PE.notM (eqM r_4.2 (0 : Int)))) (PE.notM (eqM r_5.2 (0 : Int)))) (PE.notM (eqM r_6.2 (0 : Int)))) (PE.notM (eqM r_7.2 (0 :
  Int)))) (PE.notM (eqM r_10.2 (100 : Int)))) (PE.notM r_8.2)) r_9.2 then some false else Option.bind (m26 ((r_7.1.1, r_7.1.2.1, r_7.1.2.2), [(0 : Int), (304 :
  Int), (308 : Int)], [(0 : Int), (-2 : Int), (146 : Int)], (3 : Int))) fun (r_11 : Bool) => Option.bind (m17 (((3 : Int), [((0 : Int), (0 : Int), (0 : Int), (2
  : Int))], [((0 : Int), (1 : Int), (100 : Int), (0 : Int), (3 : Int)), ((1 : Int), (2 : Int), (0 : Int), (50 : Int), (1 : Int)), ((0 : Int), (2 : Int), (104 :
  Int), (48 : Int), (2 : Int))]), [((0 : Int), (0 : Int)), ((101 : Int), (-1 : Int)), ((102 : Int), (48 : Int))])) fun (r_12 : Bool) => Option.bind (bif r_12
  then m17 (((3 : Int), [((0 : Int), (0 : Int), (0 : Int), (2 : Int))], [((0 : Int), (1 : Int), (100 : Int), (0 : Int), (3 : Int)), ((1 : Int), (2 : Int), (0 :
  Int), (50 : Int), (1 : Int)), ((0 : Int), (2 : Int), (104 : Int), (48 : Int), (2 : Int))]), [((0 : Int), (0 : Int)), ((104 : Int), (-1 : Int)), ((103 : Int),
  (48 : Int))]) else some false) fun (r_13 : Bool) => Option.bind (bif PE.andM (PE.andM (PE.andM (PE.andM (PE.andM (PE.andM (eqM r_3.1.1 (-2 : Int)) (PE.andM
  (eqM r_3.1.2.1 (2 : Int)) (PE.andM (eqM r_3.1.2.2.1 (-2 : Int)) (eqM r_3.1.2.2.2 (2 : Int))))) (PE.andM (eqM r_4.1.1 (99 : Int)) (PE.andM (eqM r_4.1.2.1 (105
  : Int)) (PE.andM (eqM r_4.1.2.2.1 (-5 : Int)) (eqM r_4.1.2.2.2 (3 : Int)))))) (PE.andM (eqM r_5.1.1 (100 : Int)) (PE.andM (eqM r_5.1.2.1 (106 : Int)) (PE.andM
  (eqM r_5.1.2.2.1 (44 : Int)) (eqM r_5.1.2.2.2 (52 : Int)))))) (PE.andM (eqM r_6.1.1 (102 : Int)) (PE.andM (eqM r_6.1.2.1 (104 : Int)) (PE.andM (eqM
  r_6.1.2.2.1 (46 : Int)) (eqM r_6.1.2.2.2 (50 : Int)))))) r_11) (PE.andM r_12 (PE.notM r_13)) then m24 (r_8.1, [(1 : Int), (2 : Int), (3 : Int)]) else some
  false) fun (r_14 : Bool) => Option.bind (bif PE.andM (PE.andM (PE.andM (PE.andM (PE.andM (PE.andM (PE.andM (eqM r_3.1.1 (-2 : Int)) (PE.andM (eqM r_3.1.2.1 (2
  : Int)) (PE.andM (eqM r_3.1.2.2.1 (-2 : Int)) (eqM r_3.1.2.2.2 (2 : Int))))) (PE.andM (eqM r_4.1.1 (99 : Int)) (PE.andM (eqM r_4.1.2.1 (105 : Int)) (PE.andM
  (eqM r_4.1.2.2.1 (-5 : Int)) (eqM r_4.1.2.2.2 (3 : Int)))))) (PE.andM (eqM r_5.1.1 (100 : Int)) (PE.andM (eqM r_5.1.2.1 (106 : Int)) (PE.andM (eqM r_5.1.2.2.1
  (44 : Int)) (eqM r_5.1.2.2.2 (52 : Int)))))) (PE.andM (eqM r_6.1.1 (102 : Int)) (PE.andM (eqM r_6.1.2.1 (104 : Int)) (PE.andM (eqM r_6.1.2.2.1 (46 : Int))
  (eqM r_6.1.2.2.2 (50 : Int)))))) r_11) (PE.andM r_12 (PE.notM r_13))) r_14 then m18 ((3 : Int), [((0 : Int), (0 : Int), (0 : Int), (2 : Int))], [((0 : Int),
  (1 : Int), (100 : Int), (0 : Int), (3 : Int)), ((1 : Int), (2 : Int), (0 : Int), (50 : Int), (1 : Int)), ((0 : Int), (2 : Int), (104 : Int), (48 : Int), (2 :
  Int))]) else some false) fun (r_15 : Bool) => Option.bind (bif PE.andM (PE.andM (PE.andM (PE.andM (PE.andM (PE.andM (PE.andM (PE.andM (eqM r_3.1.1 (-2 : Int))
  (PE.andM (eqM r_3.1.2.1 (2 : Int)) (PE.andM (eqM r_3.1.2.2.1 (-2 : Int)) (eqM r_3.1.2.2.2 (2 : Int))))) (PE.andM (eqM r_4.1.1 (99 : Int)) (PE.andM (eqM
  r_4.1.2.1 (105 : Int)) (PE.andM (eqM r_4.1.2.2.1 (-5 : Int)) (eqM r_4.1.2.2.2 (3 : Int)))))) (PE.andM (eqM r_5.1.1 (100 : Int)) (PE.andM (eqM r_5.1.2.1 (106 :
  Int)) (PE.andM (eqM r_5.1.2.2.1 (44 : Int)) (eqM r_5.1.2.2.2 (52 : Int)))))) (PE.andM (eqM r_6.1.1 (102 : Int)) (PE.andM (eqM r_6.1.2.1 (104 : Int)) (PE.andM
  (eqM r_6.1.2.2.1 (46 : Int)) (eqM r_6.1.2.2.2 (50 : Int)))))) r_11) (PE.andM r_12 (PE.notM r_13))) r_14) r_15 then m18 ((9 : Int), [], []) else some false)
  fun (r : Bool) => some (PE.andM (PE.andM (PE.andM (PE.andM (PE.andM (PE.andM (PE.andM (PE.andM (PE.andM (eqM r_3.1.1 (-2 : Int)) (PE.andM (eqM r_3.1.2.1 (2 :
  Int)) (PE.andM (eqM r_3.1.2.2.1 (-2 : Int)) (eqM r_3.1.2.2.2 (2 : Int))))) (PE.andM (eqM r_4.1.1 (99 : Int)) (PE.andM (eqM r_4.1.2.1 (105 : Int)) (PE.andM
  (eqM r_4.1.2.2.1 (-5 : Int)) (eqM r_4.1.2.2.2 (3 : Int)))))) (PE.andM (eqM r_5.1.1 (100 : Int)) (PE.andM (eqM r_5.1.2.1 (106 : Int)) (PE.andM (eqM r_5.1.2.2.1
  (44 : Int)) (eqM r_5.1.2.2.2 (52 : Int)))))) (PE.andM (eqM r_6.1.1 (102 : Int)) (PE.andM (eqM r_6.1.2.1 (104 : Int)) (PE.andM (eqM r_6.1.2.2.1 (46 : Int))
  (eqM r_6.1.2.2.2 (50 : Int)))))) r_11) (PE.andM r_12 (PE.notM r_13))) r_14) r_15) (PE.notM r))
theorem c8 : SpecOK Try.prog 8 ⟨as8, rs8, m8⟩ :=
  fnM_ok (own := []) (an := an8) (n := 400) tabs17OK (F := OPS) OPS_sound OPS_nice (f := 8) (fn := Try.f8) (code := Try.f8.body.getD .skip) (by kernel_rfl) (by kernel_rfl) (by kernel_rfl) fun x => by kernel_rfl
noncomputable def tabs8 : Tabs := Tabs.add tabs17 8 ⟨as8, rs8, m8⟩
theorem tabs8OK : TabOK Try.prog tabs8 := TabOK.add tabs17OK c8 Try.call8

/-! putlog/putlogref10.pick -/
def as30 : List Ty := [tI, tI]
def rs30 : List Ty := [tI]
noncomputable def an30 : Ann := .seq (.a) (.seq (.join [(.norm,⟨[(0,.r (.c (.d (.d tI))))],[5,6,7,8,9],[],[]⟩)] (.a)) (.a))
noncomputable def m30 : (Int × Int) → Option (Int) :=
  fun (x : Int × Int) => Option.bind (bif ltM x.1 (0 : Int) then some (IntKind.wrap IntKind.i64 (negM (IntKind.wrap IntKind.i64 (x.1 + (1 : Int))))) else some
  x.1) fun (o : Int) => Option.bind (remM o x.2) fun (r : Int) => some r
theorem c30 : SpecOK Try.prog 30 ⟨as30, rs30, m30⟩ :=
  fnM_ok (own := []) (an := an30) (n := 400) tabs8OK (F := OPS) OPS_sound OPS_nice (f := 30) (fn := Try.f30) (code := Try.f30.body.getD .skip) (by kernel_rfl) (by kernel_rfl) (by kernel_rfl) fun x => by kernel_rfl
noncomputable def tabs30 : Tabs := Tabs.add tabs8 30 ⟨as30, rs30, m30⟩
theorem tabs30OK : TabOK Try.prog tabs30 := TabOK.add tabs8OK c30 Try.call30

/-! putlog/putlogref10.Hidden -/
def as20 : List Ty := [(.pair (.list (.pair tI tI)) (.pair (.list tI) (.pair (.list (.pair tI (.pair tI (.pair tI tI)))) (.pair (.list (.pair tI (.pair tI (.pair tI (.pair tI tI))))) (.pair tI (.pair tI tI))))))]
def rs20 : List Ty := [(.list (.pair tI tI))]
noncomputable def an20 : Ann := .seq (.a) (.seq (.a) (.seq (.seq (.a) (.block (.loop ⟨[(3,.r (.c (.h 1))),(4,.r (.c (.d (.d tI))))],[5,6,7,8,9,10,11,12,13,14,15,16,17,18,19,20,21,22,23,24,25,26,27,28,29,30,31,32,33,34,35],[],[.arr (.pair tI tI)]⟩ [(.exit 0,⟨[(3,.r (.c (.h 1)))],[4,5,6,7,8,9,10,11,12,13,14,15,16,17,18,19,20,21,22,23,24,25,26,27,28,29,30,31,32,33,34,35],[],[.arr (.pair tI tI)]⟩)] (.seq (.a) (.seq (.block (.reg [0,0,2,0,14,30,62,126,254,0,512,0,3584,7680,15872,32510,65278,131070,262142,524287,1048575] [0,1,2,3,4,5,6,7,8,9,10,11,12,13,14,15,16,17,18,19,20] [.s [] [],.s [] [],.s [0] [],.s [] [],.s [] [],.s [] [],.s [] [],.s [] [],.s [] [],.s [] [],.s [0] [],.s [] [],.s [] [],.s [] [],.s [] [],.s [] [],.s [] [],.s [] [],.s [] [],.s [1] [2,1],.s [] []] (.a))) (.a)))))) (.a)))
noncomputable def m20 : ((List (Int × Int)) × List Int × (List (Int × Int × Int × Int)) × (List (Int × Int × Int × Int × Int)) × Int × Int × Int) → Option (List (Int × Int)) :=
  fun (x : List (Int × Int) × List Int × List (Int × Int × Int × Int) × List (Int × Int × Int × Int × Int) × Int × Int × Int) => Option.bind (loopM (fun (s : Int
  × List (Int × Int)) => bif PE.andM (ltM s.1 (lenM x.1)) (ltM s.1 (8 : Int)) then Option.bind (idxM x.1 s.1) fun (r : Int × Int) => Option.bind (m30 (r.1,
  (1001 : Int))) fun (r_1 : Int) => Option.bind (idxM x.1 s.1) fun (r_2 : Int × Int) => Option.bind (m30 (r_2.2, (1001 : Int))) fun (r_3 : Int) => Option.bind
  (appM (nat_lit 16) s.2 [(IntKind.wrap IntKind.i64 (r_1 - (500 : Int)), IntKind.wrap IntKind.i64 (r_3 - (500 : Int)))]) fun (r : List (Int × Int)) => some
  (Sum.inl (IntKind.wrap IntKind.i64 (s.1 + (1 : Int)), r)) else some (Sum.inr s.2)) ((0 : Int), [])) fun (o : List (Int × Int)) => some o
theorem c20 : SpecOK Try.prog 20 ⟨as20, rs20, m20⟩ :=
  fnM_ok (own := []) (an := an20) (n := 400) tabs30OK (F := OPS) OPS_sound OPS_nice (f := 20) (fn := Try.f20) (code := Try.f20.body.getD .skip) (by kernel_rfl) (by kernel_rfl) (by kernel_rfl) fun x => by kernel_rfl
noncomputable def tabs20 : Tabs := Tabs.add tabs30 20 ⟨as20, rs20, m20⟩
theorem tabs20OK : TabOK Try.prog tabs20 := TabOK.add tabs30OK c20 Try.call20

/-! putlog/putlogref10.Sight -/
def as21 : List Ty := [(.list (.pair tI tI)), (.pair tI (.pair tI (.pair tI (.pair tI tI))))]
def rs21 : List Ty := [(.pair tI (.pair tI (.pair tI (.pair tI tI))))]
noncomputable def an21 : Ann := .seq (.a) (.seq (.reg [0,1,0,4,15,0,32,127,255,0,1023] [0,1,2,3,4,5,6,7,8,9,10] [.s [] [],.s [0] [],.s [] [],.s [] [],.s [] [],.s [] [],.s [0] [],.s [] [],.s [] [],.s [] [2],.s [2] [2]] (.a)) (.seq (.reg [0,1,3,0,8,0,32,96,248,511,0,1024,4095,8191,16383] [0,1,2,3,4,5,6,7,8,9,10,11,12,13,14] [.s [] [],.s [2] [],.s [] [],.s [] [],.s [0] [],.s [] [],.s [] [],.s [] [],.s [] [],.s [] [],.s [] [],.s [] [],.s [] [],.s [] [],.s [2] [2]] (.a)) (.seq (.reg [0,0,2,7,15,31,0,0,128,448,960,1984,4095,0,8192,0,32768,98304,229376,516096,1048575,0,2097152,8388607,16777215,33554431] [0,1,2,3,4,5,6,7,8,9,10,11,12,13,14,15,16,17,18,19,20,21,22,23,24,25] [.s [] [],.s [] [],.s [2] [],.s [] [],.s [] [],.s [] [],.s [] [],.s [] [],.s [2] [],.s [] [],.s [] [],.s [] [],.s [] [],.s [] [],.s [0] [],.s [] [],.s [2] [],.s [] [],.s [] [],.s [] [],.s [] [],.s [] [],.s [2] [],.s [] [],.s [] [],.s [2] [2]] (.a)) (.seq (.reg [0,0,2,7,15,31,0,0,128,448,960,1984,4095,0,8192,0,32768,98304,229376,516096,1048575,0,2097152,8388607,16777215,33554431] [0,1,2,3,4,5,6,7,8,9,10,11,12,13,14,15,16,17,18,19,20,21,22,23,24,25] [.s [] [],.s [] [],.s [2] [],.s [] [],.s [] [],.s [] [],.s [] [],.s [] [],.s [2] [],.s [] [],.s [] [],.s [] [],.s [] [],.s [] [],.s [0] [],.s [] [],.s [2] [],.s [] [],.s [] [],.s [] [],.s [] [],.s [] [],.s [2] [],.s [] [],.s [] [],.s [2] [2]] (.a)) (.a)))))
noncomputable def m21 : ((List (Int × Int)) × Int × Int × Int × Int × Int) → Option (Int × Int × Int × Int × Int) :=
  fun (x : List (Int × Int) × Int × Int × Int × Int × Int) => Option.bind (m30 (x.2.1, lenM x.1)) fun (r : Int) => Option.bind (m30 (x.2.2.2.1, (12 : Int))) fun
  (r_1 : Int) => Option.bind (m30 (x.2.2.1, IntKind.wrap IntKind.i64 (lenM x.1 - (1 : Int)))) fun (r_2 : Int) => Option.bind (remM (IntKind.wrap IntKind.i64
  (IntKind.wrap IntKind.i64 (r + (1 : Int)) + r_2)) (lenM x.1)) fun (r_3 : Int) => Option.bind (idxM x.1 r_3) fun (r_4 : Int × Int) => Option.bind (idxM x.1 r)
  fun (r_5 : Int × Int) => Option.bind (m30 (x.2.2.2.2.1, IntKind.wrap IntKind.i64 (IntKind.wrap IntKind.i64 ((2 : Int) * r_1) + (1 : Int)))) fun (r_6 : Int) =>
  Option.bind (idxM x.1 r_3) fun (r_7 : Int × Int) => Option.bind (idxM x.1 r) fun (r_8 : Int × Int) => Option.bind (m30 (x.2.2.2.2.2, IntKind.wrap IntKind.i64
  (IntKind.wrap IntKind.i64 ((2 : Int) * r_1) + (1 : Int)))) fun (r_9 : Int) => some (r, r_3, IntKind.wrap IntKind.i64 (IntKind.wrap IntKind.i64 (IntKind.wrap
  IntKind.i64 (r_4.1 - r_5.1) + r_6) - r_1), IntKind.wrap IntKind.i64 (IntKind.wrap IntKind.i64 (IntKind.wrap IntKind.i64 (r_7.2 - r_8.2) + r_9) - r_1), r_1)
theorem c21 : SpecOK Try.prog 21 ⟨as21, rs21, m21⟩ :=
  fnM_ok (own := []) (an := an21) (n := 400) tabs20OK (F := OPS) OPS_sound OPS_nice (f := 21) (fn := Try.f21) (code := Try.f21.body.getD .skip) (by kernel_rfl) (by kernel_rfl) (by kernel_rfl) fun x => by kernel_rfl
noncomputable def tabs21 : Tabs := Tabs.add tabs20 21 ⟨as21, rs21, m21⟩
theorem tabs21OK : TabOK Try.prog tabs21 := TabOK.add tabs20OK c21 Try.call21

/-! putlog/putlogref10.Misses -/
def as31 : List Ty := [(.pair (.list (.pair tI tI)) (.pair (.list tI) (.pair (.list (.pair tI (.pair tI (.pair tI tI)))) (.pair (.list (.pair tI (.pair tI (.pair tI (.pair tI tI))))) (.pair tI (.pair tI tI))))))]
def rs31 : List Ty := [.bool]
noncomputable def an31 : Ann := .a
noncomputable def m31 : ((List (Int × Int)) × List Int × (List (Int × Int × Int × Int)) × (List (Int × Int × Int × Int × Int)) × Int × Int × Int) → Option (Bool) :=
  fun (x : List (Int × Int) × List Int × List (Int × Int × Int × Int) × List (Int × Int × Int × Int × Int) × Int × Int × Int) => Option.bind (m30 (x.2.2.2.2.1, (3
  : Int))) fun (r : Int) => some (eqM r (2 : Int))
theorem c31 : SpecOK Try.prog 31 ⟨as31, rs31, m31⟩ :=
  fnM_ok (own := []) (an := an31) (n := 400) tabs21OK (F := OPS) OPS_sound OPS_nice (f := 31) (fn := Try.f31) (code := Try.f31.body.getD .skip) (by kernel_rfl) (by kernel_rfl) (by kernel_rfl) fun x => by kernel_rfl
noncomputable def tabs31 : Tabs := Tabs.add tabs21 31 ⟨as31, rs31, m31⟩
theorem tabs31OK : TabOK Try.prog tabs31 := TabOK.add tabs21OK c31 Try.call31
end Go.Proofs.Ytklddmmnggcffaa
